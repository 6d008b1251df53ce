import Derived.Test.YtoomcmaifgkkfaaProg
import Derived.Below
import Derived.Deep.Draws
import Derived.Deep.AppendLies
import Derived.Maps.AppendAt
import Derived.OwnWalk
import Derived.Laws.BytesArg
import Derived.Laws.MakeOwn
import Derived.Laws.OwnMore
import Derived.Deep.OwnRows
import Derived.Tactics
import Derived.Lib.ConvBytes
import Derived.Laws.Slices
import Derived.WalkKit
import Derived.KernelRfl
import Derived.RowKit3
import Derived.Deep.LoopGhost
import Derived.Deep.QuietTactic
import Derived.BigQuiet
import Derived.WideLaws
import Derived.Deep.DeepCutAuto
import Derived.Deep.CutBlock
import Derived.Deep.RegionHeld3
import Derived.Laws.Rows
import Derived.Lib.AppendStr
import Derived.ArgAppend
import Derived.Laws.IdiomCopy
import Derived.OrdersHeld
import Derived.Laws.BitsLemmas
import Derived.RowKit
import Derived.Test.YtoomcmaifgkkfaaQBacksW1
import Derived.Test.YtoomcmaifgkkfaaQBacksW2
import Derived.Deep.Slices
import Derived.ChangeArms
import Derived.OpenShut
import Derived.WideShapes
import Derived.Shelf.Small.Bits
import Derived.Shelf.Small.Wraps
import Derived.Shelf.Strconv.Itoa0
import Derived.Shelf.Sort.Plain
import Derived.Shelf.Slices.Turned
import Derived.Shelf.Slices.Reverse
import Derived.Ground.Names2Prog
import Derived.Shelf.Slices.CompactI
import Derived.Shelf.Slices.SearchI
import Derived.Shelf.Slices.Cells
import Derived.Shelf.Slices.In.SortNone
import Derived.Shelf.Abstract
import Derived.Outline
import Derived.Sort.OwnSortedInts
import Derived.RegionTactic
set_option maxHeartbeats 8000000
set_option maxRecDepth 100000
section
namespace Go.Proofs.Ytoomcmaifgkkfaa.P
open Go.RowKit Go.Proofs.ua.zb Go.Proofs.ua.Lc Go.Proofs.ua.Pd
theorem Qae {P:Prop} (h:P:=by simp only [Act.put,List.setIfInBounds_toArray,List.set_cons_zero,List.set_cons_succ,Eb,Fb];rfl):P:=h
theorem Rae {P:Prop} (h:P:=by intro w';go_simp;with_reducible rfl):P:=h
theorem Sae {P:Prop} (h:P:=by rintro w' ⟨s0,s1,s2,s3,s4,s5,s6,s7,s8,s9,zJ,dW,cW⟩;go_simp;with_reducible rfl):P:=h
theorem Tae {P:Prop} (h:P:=by rintro w' ⟨s0,s1,s2,s3,s4,s5,s6,s7,s8,s9,zJ⟩;go_simp;with_reducible rfl):P:=h
theorem Uae {P:Prop} (h:P:=by rintro w' ⟨s0,s1,s2,s3,s4,s5,s6,s7,s8,s9⟩;go_simp;with_reducible rfl):P:=h
theorem Vae {P:Prop} (h:P:=by first|(go_simp;done)|(go_simp;rfl)):P:=h
theorem Wae {P:Prop} (h:P:=by first|(go_simp;done)|(go_simp;rfl)):P:=h
theorem Xae {P:Prop} (h:P:=by repeat (first|(with_reducible first|exact HB.out|apply ia|apply ga|apply ja|refine ya ?_ mb.out)|exact HB.out)):P:=h
theorem Yae {P:Prop} (h:P:=by repeat (first|(with_reducible first|exact HB.out|apply ia|apply ga|apply ja)|exact HB.out)):P:=h
theorem Zae {P:Prop} (h:P:=by (with_reducible repeat (first|refine Da ?_ _|refine Ea ?_|refine Ca ?_ _));exact ta.out):P:=h
theorem aaf {P:Prop} (h:P:=by repeat (first|(with_reducible first|exact HB.out|apply ia|apply ga|apply ja|refine ya ?_ mb.out)|exact HB.out)):P:=h
theorem baf {P:Prop} (h:P:=by (try simp only [List.map_toArray,List.map_cons,List.map_nil]);first|done|rfl|(simp only [List.length_drop,List.length_take];rfl)):P:=h
theorem caf {P:Prop} (h:P:=by repeat (first|(with_reducible first|exact HB.out|apply ia|apply ga|apply ja)|exact HB.out)):P:=h
theorem daf {P:Prop} (h:P:=by first|rfl|(simp;done)|(simp [*];done)):P:=h
theorem eaf {P:Prop} (h:P:=by first|rfl|(simp [Ya,Xa] <;> rfl)|(simp [*,Ya,Xa] <;> rfl)):P:=h
theorem faf {P:Prop} (h:P:=by (with_reducible repeat (first|refine Da ?_ _|refine Ea ?_|refine Ca ?_ _));exact ta.out):P:=h
theorem gaf {P:Prop} (h:P:=by (with_reducible repeat (first|apply Kd.Ka|apply Kd.La|apply Kd.Sa));exact Cc.out):P:=h
theorem haf {P:Prop} (h:P:=by (with_reducible repeat (first|refine Da ?_ _|refine Ea ?_|refine Ca ?_ _));refine Td (cs:=#[.slice mj ((Ga za Oc).f0).length ij,.int .i64 ((Ga za Oc).f1),.int .i64 ((Ga za Oc).f2),.int .i64 ((Ga za Oc).f3),.int .i64 0]) ?_ 4 _ rfl;(with_reducible repeat (first|refine Da ?_ _|refine Ea ?_|refine Ca ?_ _));refine Td (cs:=#[.slice mj ((Ga za Oc).f0).length ij,.int .i64 ((Ga za Oc).f1),.int .i64 ((Ga za Oc).f2),.int .i64 0,.int .i64 0]) ?_ 3 _ rfl;(with_reducible repeat (first|refine Da ?_ _|refine Ea ?_|refine Ca ?_ _));refine Td (cs:=#[.slice mj ((Ga za Oc).f0).length ij,.int .i64 ((Ga za Oc).f1),.int .i64 0,.int .i64 0,.int .i64 0]) ?_ 2 _ rfl;(with_reducible repeat (first|refine Da ?_ _|refine Ea ?_|refine Ca ?_ _));refine Td (cs:=#[.slice mj ((Ga za Oc).f0).length ij,.int .i64 0,.int .i64 0,.int .i64 0,.int .i64 0]) ?_ 1 _ rfl;(with_reducible repeat (first|refine Da ?_ _|refine Ea ?_|refine Ca ?_ _));refine Td (cs:=#[.slice none 0 0,.int .i64 0,.int .i64 0,.int .i64 0,.int .i64 0]) ?_ 0 _ rfl;(with_reducible repeat (first|refine Da ?_ _|refine Ea ?_|refine Ca ?_ _));exact Mg.out):P:=h
theorem iaf {P:Prop} (h:P:=by (with_reducible repeat (first|apply Kd.Ka|apply Kd.La|apply Kd.Sa));exact Ub.out):P:=h
theorem jaf {P:Prop} (h:P:=by repeat (first|(with_reducible first|exact HB.out|apply ia|apply ga|apply ja|refine ya ?_ mb.out|refine ya ?_ ni.out)|exact HB.out)):P:=h
theorem kaf {P:Prop} (h:P:=by repeat (first|exact Nb.refl _|apply Nb.step)):P:=h
theorem laf {P:Prop} (h:P:=by repeat (first|(with_reducible first|exact HK.out|apply Kept.alloc|apply Kept.drewN|apply Kept.drew)|exact HK.out)):P:=h
theorem maf {P:Prop} (h:P:=by repeat (first|(with_reducible first|exact HB.out|apply ia|apply ga|apply ja|refine ya ?_ mb.out|refine ya ?_ mo.out)|exact HB.out)):P:=h
theorem naf {P:Prop} (h:P:=by repeat (first|exact HB.out|(refine Fa ?_ Yi.out)|apply ga|apply ja|apply ia|refine ya ?_ (by first|omega|(simp;done)|(simp;omega)))):P:=h
theorem oaf {P:Prop} (h:P:=by repeat (first|(with_reducible first|exact HB.out|apply ia|apply ga|apply ja|refine ya ?_ mb.out|refine ya ?_ ni.out|refine ya ?_ Zm.out)|exact HB.out)):P:=h
theorem paf {P:Prop} (h:P:=by repeat (first|(with_reducible first|exact HK.out|apply Kept.alloc|apply Kept.drewN|apply Kept.drew|refine Kept.setCell ?_ (.inr Af.out) _)|exact HK.out)):P:=h
theorem qaf {P:Prop} (h:P:=by (with_reducible repeat (first|refine Da ?_ _|refine Ea ?_|refine Ca ?_ _));exact Qc.out):P:=h
theorem raf {P:Prop} (h:P:=by (with_reducible repeat (first|apply Kd.Ka|apply Kd.La|apply Kd.Sa));exact Pe.out):P:=h
theorem saf {P:Prop} (h:P:=by repeat (first|(with_reducible first|exact HK.out|apply Kept.alloc|apply Kept.drewN|apply Kept.drew)|exact HK.out)):P:=h
theorem taf {P:Prop} (h:P:=by (with_reducible repeat (first|apply Kd.Ka|apply Kd.La|apply Kd.Sa));exact ud.out):P:=h
theorem uaf {P:Prop} (h:P:=by (with_reducible repeat (first|apply Kd.Ka|apply Kd.La|apply Kd.Sa));exact Zf.out):P:=h
theorem vaf {P:Prop} (h:P:=by repeat (first|(with_reducible first|exact HK.out|apply Kept.alloc|apply Kept.drewN|apply Kept.drew|refine Kept.setCell ?_ (.inr Af.out) _)|exact HK.out)):P:=h
theorem waf {P:Prop} (h:P:=by first|rfl|(simp;done)|(simp [*];done)):P:=h
theorem xaf {P:Prop} (h:P:=by (with_reducible repeat (first|refine Da ?_ _|refine Ea ?_|refine Ca ?_ _));refine Ld ?_ dg.out _;(with_reducible repeat (first|refine Da ?_ _|refine Ea ?_|refine Ca ?_ _));refine Ld ?_ dg.out _;(with_reducible repeat (first|refine Da ?_ _|refine Ea ?_|refine Ca ?_ _));refine Ld ?_ dg.out _;(with_reducible repeat (first|refine Da ?_ _|refine Ea ?_|refine Ca ?_ _));refine Ld ?_ dg.out _;(with_reducible repeat (first|refine Da ?_ _|refine Ea ?_|refine Ca ?_ _));refine Ld ?_ dg.out _;(with_reducible repeat (first|refine Da ?_ _|refine Ea ?_|refine Ca ?_ _));exact ta.out):P:=h
theorem yaf {P:Prop} (h:P:=by (with_reducible repeat (first|apply Kd.Ka|apply Kd.La|apply Kd.Sa));exact Cc.out):P:=h
theorem zaf {P:Prop} (h:P:=by (with_reducible repeat (first|apply Kd.Ka|apply Kd.La|apply Kd.Sa));exact Ub.out):P:=h
theorem Aaf {P:Prop} (h:P:=by first|exact HK.out.1|exact (show Kept w _ (fun k_=>Uo k_) from by repeat (first|(with_reducible first|exact HK.out|apply Kept.alloc|apply Kept.drewN|apply Kept.drew|refine Kept.setCell ?_ (.inr Af.out) _)|exact HK.out)).1):P:=h
theorem Baf {P:Prop} (h:P:=by simp only [Jk,Act.put,List.setIfInBounds_toArray,List.set_cons_zero,List.set_cons_succ]):P:=h
theorem Caf {P:Prop} (h:P:=by rw [List.length_append,List.length_singleton];omega):P:=h
theorem Daf {P:Prop} (h:P:=by (with_reducible repeat (first|apply Kd.Ka|apply Kd.La|apply Kd.Sa));exact Fi.out):P:=h
theorem Eaf {P:Prop} (h:P:=by (with_reducible repeat (first|apply Kd.kf|apply Kd.jf|apply Kd.Xf));exact Kd.Rf Dh.out (fun _ hk=>⟨hk.1.1,⟨hk.1.2,hk.2⟩⟩)):P:=h
theorem Faf {P:Prop} (h:P:=by simp only [List.map_toArray,List.map_cons,List.map_nil];rfl):P:=h
theorem Gaf {P:Prop} (h:P:=by (with_reducible repeat (first|apply Kd.mg|apply Kd.lg|apply Kd.Lg));exact Xi.out):P:=h
theorem Haf {P:Prop} (h:P:=by (with_reducible repeat (first|apply Kd.Ka|apply Kd.La|apply Kd.Sa));exact Pe.out):P:=h
theorem Iaf {P:Prop} (h:P:=by repeat (first|(with_reducible first|exact HB.out|apply ia|apply ga|apply ja|refine ya ?_ mb.out|refine ya ?_ ni.out|refine ya ?_ Zm.out)|exact HB.out)):P:=h
theorem Jaf {P:Prop} (h:P:=by (with_reducible repeat (first|apply Kd.kf|apply Kd.jf|apply Kd.Xf));exact Kd.Rf Dh.out (fun _ hk=>⟨⟨hk.1,hk.2.1⟩,hk.2.2⟩)):P:=h
theorem Kaf {P:Prop} (h:P:=by (with_reducible repeat (first|apply Kd.kf|apply Kd.jf|apply Kd.Xf));exact Dh.out):P:=h
theorem Laf {P:Prop} (h:P:=by (with_reducible repeat (first|apply Kd.Ka|apply Kd.La|apply Kd.Sa));exact ud.out):P:=h
theorem Maf {P:Prop} (h:P:=by (with_reducible repeat (first|apply Kd.Ka|apply Kd.La|apply Kd.Sa));exact Zf.out):P:=h
set_option linter.unusedVariables false
set_option linter.unusedSimpArgs false
attribute [local go_sem] Hg Fg Nh Mh cg bg Gg Eg
def jT:Option Int→Value
 | none=>.nilIface
 | some c=>.iface 0 (.int .i64 c)
theorem Ya:jT none = .nilIface:=rfl
theorem Xa (c:Int):jT (some c) = .iface 0 (.int .i64 c):=rfl
theorem info3:(Try.prog.info? 3).map (fun i=>(i.zero,i.size,i.bytes))=some (some (.int .i64 0),1,8):=by kernel_rfl
theorem zC:(Try.prog.info? 4).map (fun i=>(i.zero,i.size,i.bytes))=some (some (.bool false),1,1):=by kernel_rfl
theorem mO:(Try.prog.info? 22).map (fun i=>(i.zero,i.size,i.bytes))=some (some (.slice none 0 0),1,24):=by kernel_rfl
theorem kO:(Try.prog.info? 73).map (fun i=>(i.zero,i.size,i.bytes))=some (some (.slice none 0 0),1,24):=by kernel_rfl
theorem jO:(Try.prog.info? 83).map (fun i=>(i.zero,i.size,i.bytes))=some (some (.agg #[(.slice none 0 0),(.int .i64 0),(.int .i64 0),(.int .i64 0),(.int .i64 0)]),5,56):=by kernel_rfl
theorem tK:(Try.prog.info? 122).map (fun i=>(i.zero,i.size,i.bytes))=some (some (.agg #[(.int .i64 0),(.int .i64 0),(.int .i64 0),(.int .i64 0),(.int .i64 0),(.int .i64 0),(.string ⟨#[]⟩)]),7,64):=by kernel_rfl
structure S7 where
 f0:Int
 f1:Int
 f2:Bool
 f3:Int
def z7:S7:=⟨(0:Int),(0:Int),false,(0:Int)⟩
structure S8 where
 f0:Int
 f1:Int
 f2:Bool
 f3:Int
def z8:S8:=⟨(0:Int),(0:Int),false,(0:Int)⟩
structure S67 where
 f0:Int
 f1:Int
 f2:Int
 f3:Int
 f4:Int
def z67:S67:=⟨(0:Int),(0:Int),(0:Int),(0:Int),(0:Int)⟩
structure Kj where
 f0:Int
 f1:Int
 f2:Int
 f3:Int
 f4:Int
 f5:Int
 f6:ByteArray
def z141:Kj:=⟨(0:Int),(0:Int),(0:Int),(0:Int),(0:Int),(0:Int),(⟨#[]⟩:ByteArray)⟩
def Hu:Kd Kj:=Kd.AJ (Kd.pair (Kd.int .i64) (Kd.pair (Kd.int .i64) (Kd.pair (Kd.int .i64) (Kd.pair (Kd.int .i64) (Kd.pair (Kd.int .i64) (Kd.pair (Kd.int .i64) Kd.string)))))) (fun x:Kj=>(x.f0,x.f1,x.f2,x.f3,x.f4,x.f5,x.f6))
theorem UE {w:World} {x:Kj} {cs:List Value} (h:Hu.K w x cs):cs=[.int .i64 x.f0,.int .i64 x.f1,.int .i64 x.f2,.int .i64 x.f3,.int .i64 x.f4,.int .i64 x.f5,.string x.f6]:=by
 obtain ⟨_,_,rfl,rfl,⟨_,_,rfl,rfl,⟨_,_,rfl,rfl,⟨_,_,rfl,rfl,⟨_,_,rfl,rfl,⟨_,_,rfl,rfl,rfl⟩⟩⟩⟩⟩⟩:=h;exact rfl
def Ib (xs:List Kj) (i:Int):Kj:=xs.getD i.toNat z141
theorem Kx {w:World} {A:Option Addr} {n:Nat} {xs:List Kj} (h:Kd.C Hu w A n xs) (i:Int) (h0:0 ≤ i) (h1:i < n):∃ ad , A=some ad∧w.cell? (ad.add (i.toNat * 7))=some (.int .i64 (Ib xs i).f0)∧w.cell? ⟨(ad.add (i.toNat * 7)).block,(ad.add (i.toNat * 7)).off + 1,none⟩=some (.int .i64 (Ib xs i).f1)∧w.cell? ⟨(ad.add (i.toNat * 7)).block,(ad.add (i.toNat * 7)).off + 2,none⟩=some (.int .i64 (Ib xs i).f2)∧w.cell? ⟨(ad.add (i.toNat * 7)).block,(ad.add (i.toNat * 7)).off + 3,none⟩=some (.int .i64 (Ib xs i).f3)∧w.cell? ⟨(ad.add (i.toNat * 7)).block,(ad.add (i.toNat * 7)).off + 4,none⟩=some (.int .i64 (Ib xs i).f4)∧w.cell? ⟨(ad.add (i.toNat * 7)).block,(ad.add (i.toNat * 7)).off + 5,none⟩=some (.int .i64 (Ib xs i).f5)∧w.cell? ⟨(ad.add (i.toNat * 7)).block,(ad.add (i.toNat * 7)).off + 6,none⟩=some (.string (Ib xs i).f6):=by
 obtain ⟨ad,c,e,_,hK,hc0⟩:=Kd.vA h z141 i h0 h1;have hc:∀ j u,c[j]? = some u→w.cell? (ad.add (i.toNat * 7 + j))=some u:=hc0;obtain rfl:=UE hK;exact ⟨ad,e,hc 0 _ rfl,by rw [← ie _ _ 1 (by omega)];exact hc 1 _ rfl,by rw [← ie _ _ 2 (by omega)];exact hc 2 _ rfl,by rw [← ie _ _ 3 (by omega)];exact hc 3 _ rfl,by rw [← ie _ _ 4 (by omega)];exact hc 4 _ rfl,by rw [← ie _ _ 5 (by omega)];exact hc 5 _ rfl,by rw [← ie _ _ 6 (by omega)];exact hc 6 _ rfl⟩
structure Bi where
 f0:(List Kj)
 f1:Int
 f2:Int
 f3:Int
 f4:Int
def FR:Bi:=⟨([]:List Kj),(0:Int),(0:Int),(0:Int),(0:Int)⟩
def Iu:Kd Bi:=Kd.AJ (Kd.pair (Kd.slice 141 Hu) (Kd.pair (Kd.int .i64) (Kd.pair (Kd.int .i64) (Kd.pair (Kd.int .i64) (Kd.int .i64))))) (fun x:Bi=>(x.f0,x.f1,x.f2,x.f3,x.f4))
theorem XE {w:World} {x:Bi} {cs:List Value} (h:Iu.K w x cs):∃ A0 c0,cs=[.slice A0 x.f0.length c0,.int .i64 x.f1,.int .i64 x.f2,.int .i64 x.f3,.int .i64 x.f4]∧x.f0.length ≤ c0∧Hu.C w A0 x.f0.length x.f0:=by
 obtain ⟨_,_,rfl,⟨A0,c0,rfl,l0,g0⟩,⟨_,_,rfl,rfl,⟨_,_,rfl,rfl,⟨_,_,rfl,rfl,rfl⟩⟩⟩⟩:=h;exact ⟨A0,c0,rfl,l0,g0⟩
def mc (xs:List Bi) (i:Int):Bi:=xs.getD i.toNat FR
theorem Lx {w:World} {A:Option Addr} {n:Nat} {xs:List Bi} (h:Kd.C Iu w A n xs) (i:Int) (h0:0 ≤ i) (h1:i < n):∃ ad A0 c0,A=some ad∧w.cell? (ad.add (i.toNat * 5))=some (.slice A0 (mc xs i).f0.length c0)∧w.cell? ⟨(ad.add (i.toNat * 5)).block,(ad.add (i.toNat * 5)).off + 1,none⟩=some (.int .i64 (mc xs i).f1)∧w.cell? ⟨(ad.add (i.toNat * 5)).block,(ad.add (i.toNat * 5)).off + 2,none⟩=some (.int .i64 (mc xs i).f2)∧w.cell? ⟨(ad.add (i.toNat * 5)).block,(ad.add (i.toNat * 5)).off + 3,none⟩=some (.int .i64 (mc xs i).f3)∧w.cell? ⟨(ad.add (i.toNat * 5)).block,(ad.add (i.toNat * 5)).off + 4,none⟩=some (.int .i64 (mc xs i).f4)∧(mc xs i).f0.length ≤ c0∧Hu.C w A0 (mc xs i).f0.length (mc xs i).f0:=by
 obtain ⟨ad,c,e,_,hK,hc0⟩:=Kd.vA h FR i h0 h1;have hc:∀ j u,c[j]? = some u→w.cell? (ad.add (i.toNat * 5 + j))=some u:=hc0;obtain ⟨A0,c0,rfl,l0,g0⟩:=XE hK;exact ⟨ad,A0,c0,e,hc 0 _ rfl,by rw [← ie _ _ 1 (by omega)];exact hc 1 _ rfl,by rw [← ie _ _ 2 (by omega)];exact hc 2 _ rfl,by rw [← ie _ _ 3 (by omega)];exact hc 3 _ rfl,by rw [← ie _ _ 4 (by omega)];exact hc 4 _ rfl,l0,g0⟩
structure wR where
 f0:(List Int)
 f1:Int
 f2:Int
 f3:Int
 f4:(List Bi)
def e7:Kd wR:=Kd.AJ (Kd.pair (Kd.slice 3 (Kd.int .i64)) (Kd.pair (Kd.int .i64) (Kd.pair (Kd.int .i64) (Kd.pair (Kd.int .i64) (Kd.slice 106 Iu))))) (fun x:wR=>(x.f0,x.f1,x.f2,x.f3,x.f4))
theorem IG {w:World} {x:wR} {cs:List Value} (h:e7.K w x cs):∃ A0 c0 A4 c4,cs=[.slice A0 x.f0.length c0,.int .i64 x.f1,.int .i64 x.f2,.int .i64 x.f3,.slice A4 x.f4.length c4]∧x.f0.length ≤ c0∧(Kd.int .i64).C w A0 x.f0.length x.f0∧x.f4.length ≤ c4∧Iu.C w A4 x.f4.length x.f4:=by
 obtain ⟨_,_,rfl,⟨A0,c0,rfl,l0,g0⟩,⟨_,_,rfl,rfl,⟨_,_,rfl,rfl,⟨_,_,rfl,rfl,⟨A4,c4,rfl,l4,g4⟩⟩⟩⟩⟩:=h;exact ⟨A0,c0,A4,c4,rfl,l0,g0,l4,g4⟩
structure Zb where
 f0:Int
 f1:Int
 f2:Int
 f3:Int
 f4:Int
 f5:Int
 f6:ByteArray
def Vh:Zb:=⟨(0:Int),(0:Int),(0:Int),(0:Int),(0:Int),(0:Int),(⟨#[]⟩:ByteArray)⟩
def fe:Kd Zb:=Kd.AJ (Kd.pair (Kd.int .i64) (Kd.pair (Kd.int .i64) (Kd.pair (Kd.int .i64) (Kd.pair (Kd.int .i64) (Kd.pair (Kd.int .i64) (Kd.pair (Kd.int .i64) Kd.string)))))) (fun x:Zb=>(x.f0,x.f1,x.f2,x.f3,x.f4,x.f5,x.f6))
theorem WE:Kd.Heap fe:=Kd.uz _ (Kd.th (Kd.fh .i64) (Kd.th (Kd.fh .i64) (Kd.th (Kd.fh .i64) (Kd.th (Kd.fh .i64) (Kd.th (Kd.fh .i64) (Kd.th (Kd.fh .i64) Kd.rz))))))
theorem VE {w:World} {x:Zb} {cs:List Value} (h:fe.K w x cs):cs=[.int .i64 x.f0,.int .i64 x.f1,.int .i64 x.f2,.int .i64 x.f3,.int .i64 x.f4,.int .i64 x.f5,.string x.f6]:=by
 obtain ⟨_,_,rfl,rfl,⟨_,_,rfl,rfl,⟨_,_,rfl,rfl,⟨_,_,rfl,rfl,⟨_,_,rfl,rfl,⟨_,_,rfl,rfl,rfl⟩⟩⟩⟩⟩⟩:=h;exact rfl
theorem Ce {w:World} {base:Nat} {ok:Nat→Prop} {x:Zb} {cs:List Value} (h:fe.M w base ok x cs):cs=[.int .i64 x.f0,.int .i64 x.f1,.int .i64 x.f2,.int .i64 x.f3,.int .i64 x.f4,.int .i64 x.f5,.string x.f6]:=by
 obtain ⟨_,_,rfl,rfl,⟨_,_,rfl,rfl,⟨_,_,rfl,rfl,⟨_,_,rfl,rfl,⟨_,_,rfl,rfl,⟨_,_,rfl,rfl,rfl⟩⟩⟩⟩⟩⟩:=h;exact rfl
theorem Ji (w:World) (base:Nat) (ok:Nat→Prop) (x:Zb)  : fe.M w base ok x [.int .i64 x.f0,.int .i64 x.f1,.int .i64 x.f2,.int .i64 x.f3,.int .i64 x.f4,.int .i64 x.f5,.string x.f6]:=⟨[.int .i64 x.f0],[.int .i64 x.f1,.int .i64 x.f2,.int .i64 x.f3,.int .i64 x.f4,.int .i64 x.f5,.string x.f6],rfl,rfl,⟨[.int .i64 x.f1],[.int .i64 x.f2,.int .i64 x.f3,.int .i64 x.f4,.int .i64 x.f5,.string x.f6],rfl,rfl,⟨[.int .i64 x.f2],[.int .i64 x.f3,.int .i64 x.f4,.int .i64 x.f5,.string x.f6],rfl,rfl,⟨[.int .i64 x.f3],[.int .i64 x.f4,.int .i64 x.f5,.string x.f6],rfl,rfl,⟨[.int .i64 x.f4],[.int .i64 x.f5,.string x.f6],rfl,rfl,⟨[.int .i64 x.f5],[.string x.f6],rfl,rfl,rfl⟩⟩⟩⟩⟩⟩
def oa (xs:List Zb) (i:Int):Zb:=xs.getD i.toNat Vh
theorem lu {w:World} {A:Option Addr} {n:Nat} {xs:List Zb} (h:Kd.C fe w A n xs) (i:Int) (h0:0 ≤ i) (h1:i < n):∃ ad , A=some ad∧w.cell? (ad.add (i.toNat * 7))=some (.int .i64 (oa xs i).f0)∧w.cell? ⟨(ad.add (i.toNat * 7)).block,(ad.add (i.toNat * 7)).off + 1,none⟩=some (.int .i64 (oa xs i).f1)∧w.cell? ⟨(ad.add (i.toNat * 7)).block,(ad.add (i.toNat * 7)).off + 2,none⟩=some (.int .i64 (oa xs i).f2)∧w.cell? ⟨(ad.add (i.toNat * 7)).block,(ad.add (i.toNat * 7)).off + 3,none⟩=some (.int .i64 (oa xs i).f3)∧w.cell? ⟨(ad.add (i.toNat * 7)).block,(ad.add (i.toNat * 7)).off + 4,none⟩=some (.int .i64 (oa xs i).f4)∧w.cell? ⟨(ad.add (i.toNat * 7)).block,(ad.add (i.toNat * 7)).off + 5,none⟩=some (.int .i64 (oa xs i).f5)∧w.cell? ⟨(ad.add (i.toNat * 7)).block,(ad.add (i.toNat * 7)).off + 6,none⟩=some (.string (oa xs i).f6):=by
 obtain ⟨ad,c,e,_,hK,hc0⟩:=Kd.vA h Vh i h0 h1;have hc:∀ j u,c[j]? = some u→w.cell? (ad.add (i.toNat * 7 + j))=some u:=hc0;obtain rfl:=VE hK;exact ⟨ad,e,hc 0 _ rfl,by rw [← ie _ _ 1 (by omega)];exact hc 1 _ rfl,by rw [← ie _ _ 2 (by omega)];exact hc 2 _ rfl,by rw [← ie _ _ 3 (by omega)];exact hc 3 _ rfl,by rw [← ie _ _ 4 (by omega)];exact hc 4 _ rfl,by rw [← ie _ _ 5 (by omega)];exact hc 5 _ rfl,by rw [← ie _ _ 6 (by omega)];exact hc 6 _ rfl⟩
structure Yd where
 f0:(List Zb)
 f1:Int
 f2:Int
 f3:Int
 f4:Int
def gy:Yd:=⟨([]:List Zb),(0:Int),(0:Int),(0:Int),(0:Int)⟩
def Jl:Kd Yd:=Kd.AJ (Kd.pair (Kd.slice 122 fe) (Kd.pair (Kd.int .i64) (Kd.pair (Kd.int .i64) (Kd.pair (Kd.int .i64) (Kd.int .i64))))) (fun x:Yd=>(x.f0,x.f1,x.f2,x.f3,x.f4))
theorem GG:Kd.Heap Jl:=Kd.uz _ (Kd.th (Kd.sB 122 WE) (Kd.th (Kd.fh .i64) (Kd.th (Kd.fh .i64) (Kd.th (Kd.fh .i64) (Kd.fh .i64)))))
theorem FG {w:World} {x:Yd} {cs:List Value} (h:Jl.K w x cs):∃ A0 c0,cs=[.slice A0 x.f0.length c0,.int .i64 x.f1,.int .i64 x.f2,.int .i64 x.f3,.int .i64 x.f4]∧x.f0.length ≤ c0∧fe.C w A0 x.f0.length x.f0:=by
 obtain ⟨_,_,rfl,⟨A0,c0,rfl,l0,g0⟩,⟨_,_,rfl,rfl,⟨_,_,rfl,rfl,⟨_,_,rfl,rfl,rfl⟩⟩⟩⟩:=h;exact ⟨A0,c0,rfl,l0,g0⟩
theorem Gr {w:World} {base:Nat} {ok:Nat→Prop} {x:Yd} {cs:List Value} (h:Jl.M w base ok x cs):∃ v0,cs=[v0,.int .i64 x.f1,.int .i64 x.f2,.int .i64 x.f3,.int .i64 x.f4]∧fe.R 122 w base ok v0 x.f0:=by
 obtain ⟨_,_,rfl,⟨v0,rfl,g0⟩,⟨_,_,rfl,rfl,⟨_,_,rfl,rfl,⟨_,_,rfl,rfl,rfl⟩⟩⟩⟩:=h;exact ⟨v0,rfl,g0⟩
theorem Pw (w:World) (base:Nat) (ok:Nat→Prop) (x:Yd) {v0:Value} (g0:fe.R 122 w base ok v0 x.f0):Jl.M w base ok x [v0,.int .i64 x.f1,.int .i64 x.f2,.int .i64 x.f3,.int .i64 x.f4]:=⟨[v0],[.int .i64 x.f1,.int .i64 x.f2,.int .i64 x.f3,.int .i64 x.f4],rfl,⟨v0,rfl,g0⟩,⟨[.int .i64 x.f1],[.int .i64 x.f2,.int .i64 x.f3,.int .i64 x.f4],rfl,rfl,⟨[.int .i64 x.f2],[.int .i64 x.f3,.int .i64 x.f4],rfl,rfl,⟨[.int .i64 x.f3],[.int .i64 x.f4],rfl,rfl,rfl⟩⟩⟩⟩
def Ga (xs:List Yd) (i:Int):Yd:=xs.getD i.toNat gy
theorem Nk {w:World} {A:Option Addr} {n:Nat} {xs:List Yd} (h:Kd.C Jl w A n xs) (i:Int) (h0:0 ≤ i) (h1:i < n):∃ ad A0 c0,A=some ad∧w.cell? (ad.add (i.toNat * 5))=some (.slice A0 (Ga xs i).f0.length c0)∧w.cell? ⟨(ad.add (i.toNat * 5)).block,(ad.add (i.toNat * 5)).off + 1,none⟩=some (.int .i64 (Ga xs i).f1)∧w.cell? ⟨(ad.add (i.toNat * 5)).block,(ad.add (i.toNat * 5)).off + 2,none⟩=some (.int .i64 (Ga xs i).f2)∧w.cell? ⟨(ad.add (i.toNat * 5)).block,(ad.add (i.toNat * 5)).off + 3,none⟩=some (.int .i64 (Ga xs i).f3)∧w.cell? ⟨(ad.add (i.toNat * 5)).block,(ad.add (i.toNat * 5)).off + 4,none⟩=some (.int .i64 (Ga xs i).f4)∧(Ga xs i).f0.length ≤ c0∧fe.C w A0 (Ga xs i).f0.length (Ga xs i).f0:=by
 obtain ⟨ad,c,e,_,hK,hc0⟩:=Kd.vA h gy i h0 h1;have hc:∀ j u,c[j]? = some u→w.cell? (ad.add (i.toNat * 5 + j))=some u:=hc0;obtain ⟨A0,c0,rfl,l0,g0⟩:=FG hK;exact ⟨ad,A0,c0,e,hc 0 _ rfl,by rw [← ie _ _ 1 (by omega)];exact hc 1 _ rfl,by rw [← ie _ _ 2 (by omega)];exact hc 2 _ rfl,by rw [← ie _ _ 3 (by omega)];exact hc 3 _ rfl,by rw [← ie _ _ 4 (by omega)];exact hc 4 _ rfl,l0,g0⟩
structure S45 where
 f0:(List Int)
 f1:Int
 f2:Int
 f3:Int
 f4:(List Yd)
def z45:S45:=⟨([]:List Int),(0:Int),(0:Int),(0:Int),([]:List Yd)⟩
structure LF where
 f0:Int
 f1:Int
 f2:Int
 f3:ByteArray
 f4:(List LF)
def kR (d:Kd LF):Kd LF:=Kd.AJ (Kd.pair (Kd.int .i64) (Kd.pair (Kd.int .i64) (Kd.pair (Kd.int .i64) (Kd.pair Kd.string (Kd.slice 137 d))))) (fun x:LF=>(x.f0,x.f1,x.f2,x.f3,x.f4))
theorem PN:Kd.Sub kR [137]:=Kd.sC _ (Kd.Gi (Kd.sub_const _ (by decide)) (Kd.Gi (Kd.sub_const _ (by decide)) (Kd.Gi (Kd.sub_const _ (by decide)) (Kd.Gi (Kd.sub_const _ (by decide)) (Kd.sr 137 (by decide) Kd.MA)))))
theorem SR:∀ n,(Kd.upto kR 5 [137] n).sz=5:=Kd.qC (fun _=>rfl)
def yZ:Kd LF:=Kd.fix kR 5 [137] SR (Kd.IA PN)
structure Es where
 f0:Int
 f1:Int
 f2:Int
 f3:(List LF)
 f4:(List Es)
 f5:(List Es)
def lR (d:Kd Es):Kd Es:=Kd.AJ (Kd.pair (Kd.int .i64) (Kd.pair (Kd.int .i64) (Kd.pair (Kd.int .i64) (Kd.pair (Kd.slice 137 yZ) (Kd.pair (Kd.slice 133 d) (Kd.slice 133 d)))))) (fun x:Es=>(x.f0,x.f1,x.f2,x.f3,x.f4,x.f5))
theorem QN:Kd.Sub lR [133,137]:=Kd.sC _ (Kd.Gi (Kd.sub_const _ (by decide)) (Kd.Gi (Kd.sub_const _ (by decide)) (Kd.Gi (Kd.sub_const _ (by decide)) (Kd.Gi (Kd.sub_const _ (by decide)) (Kd.Gi (Kd.sr 133 (by decide) Kd.MA) (Kd.sr 133 (by decide) Kd.MA))))))
theorem TR:∀ n,(Kd.upto lR 6 [133,137] n).sz=6:=Kd.qC (fun _=>rfl)
def zZ:Kd Es:=Kd.fix lR 6 [133,137] TR (Kd.IA QN)
theorem AG {α:Type} {d:Kd α} {e:Nat} {w:World} {base:Nat} {ok:Nat→Prop} {v:Value} {xs:List α} (h:aa (d.R e w base ok v xs)):v.oneCell' = true:=by
 obtain ⟨A,c,rfl⟩:=Kd.ic h.out
 rfl
theorem zG {α:Type} {d:Kd α} {e:Nat} {w:World} {base:Nat} {ok:Nat→Prop} {v:Value} {xs:List α} (h:aa (d.S e w base ok v xs)):v.oneCell' = true:=by
 obtain ⟨A,c,rfl⟩:=Kd.ic (Kd.JJ h.out)
 rfl
theorem CG {α:Type} {d:Kd α} {e:Nat} {w:World} {base:Nat} {ok:Nat→Prop} {v:Value} {xs:List α} (h:aa (Kd.N d e w base ok v xs)):v.oneCell' = true:=by
 obtain ⟨A,c,rfl⟩:=Kd.nL h.out
 rfl
theorem BG {α:Type} {d:Kd α} {e:Nat} {w:World} {base:Nat} {ok:Nat→Prop} {v:Value} {xs:List α} (h:aa (d.Q e w base ok v xs)):v.oneCell' = true:=by
 obtain ⟨A,c,rfl,_⟩:=Kd.br h.out
 rfl
def Lj (P:Program) (t:TypeId) {α:Type} (d:Kd α) (fit:α→Prop):Prop :=
 ∀ {H:Type} {enc:TypeId × Value→H} {w:World} {base:Nat} {spare:Nat→Bool} {held:Bool} {fuel:Nat} {cs:List Value} {x:DataW H × List MemPlace},
  DataW.trod enc P w base spare held fuel t cs=some x→∃ a:α,d.K w a cs∧fit a
theorem PE {P:Program} {t:TypeId} {k:IntKind} (ht:P.underlying t=some (.int k)):Lj P t (Kd.int k) (fun n=>(Lit.int k n).wf=true):=by
 intro H enc w base spare held fuel cs x h;obtain ⟨n,rfl,_,hw⟩:=DataW.trod_int ht h;exact ⟨n,rfl,hw⟩
def gn (n:Int):Prop:=-9223372036854775808 ≤ n∧n ≤ 9223372036854775807
theorem wf_i64 {n:Int} (h:(Lit.int .i64 n).wf=true):gn n:=by
 simp [Lit.wf,IntKind.min,IntKind.max,IntKind.signed,IntKind.bits] at h;unfold gn;omega
theorem Hf {P:Program} {t:TypeId} (ht:P.underlying t=some (.int .i64)):Lj P t (Kd.int .i64) gn:=by
 intro H enc w base spare held fuel cs x h;obtain ⟨n,h1,h2⟩:=PE ht h;exact ⟨n,h1,wf_i64 h2⟩
theorem Kw {P:Program} {t:TypeId} (ht:P.underlying t=some .string):Lj P t Kd.string (fun s=>s.size ≤ 9223372036854775807):=by
 intro H enc w base spare held fuel cs x h;obtain ⟨s,rfl,_,hw⟩:=DataW.trod_string ht h;exact ⟨s,rfl,by simpa [maxLen] using hw⟩
theorem Vs {α:Type} {p:Nat→α→Prop}:∀ n,(∀ i,i < n→∃ a,p i a)→∃ xs:List α,xs.length=n∧∀ (i:Nat) (a:α),xs[i]? = some a→p i a
 | 0,_=>⟨[],rfl,fun i a h=>by simp at h⟩
 | n + 1,h=>by
  obtain ⟨xs,hl,hx⟩:=Vs n (fun i hi=>h i (by omega));obtain ⟨a,ha⟩:=h n (by omega);refine ⟨xs ++ [a],by simp [hl],fun i b hb=>?_⟩
  rcases Nat.lt_or_ge i xs.length with hi|hi
  ·rw [List.getElem?_append_left hi] at hb;exact hx i b hb
  ·have:i=n:=by
    have:=(List.getElem?_eq_some_iff.1 hb).1;simp [hl] at this;omega
   subst this;rw [List.getElem?_append_right hi,hl] at hb;simp at hb;exact hb ▸ ha
theorem Dn {P:Program} {t e e':TypeId} {α:Type} {d:Kd α} {fit:α→Prop} (ht:P.underlying t=some (.slice e)) (hs:P.cellsOf e=d.sz) (h:Lj P e d fit):Lj P t (Kd.slice e' d) (fun l=>l.length ≤ 9223372036854775807∧∀ a ∈ l,fit a):=by
 intro H enc w base spare held fuel cs x hx
 rcases Go.Deep.open_slice ht hx with ⟨rfl,_⟩|⟨a,len,cap,m,n,D,Pl,rfl,hb,hl,hm,hmm,_,hel⟩
 ·exact ⟨[],⟨none,0,rfl,Nat.le_refl _,rfl,by simp,fun hp=>absurd hp (by simp)⟩,by simp,by simp⟩
 ·have hle:len ≤ m:=by rw [hmm];split <;> omega
  have sS:len ≤ 9223372036854775807:=by simp only [maxLen] at hm;omega
  obtain ⟨xs,hxl,hxs⟩:=Vs (α:=α) (p:=fun i y=>∃ c,c.length=d.sz∧d.K w y c∧(∀ j u,c[j]? = some u→w.cell? (a.add (i * d.sz + j))=some u)∧fit y) len (fun i hi=>by
   obtain ⟨cs',h1,h2⟩:=hel i (by omega);obtain ⟨y,hy,hf⟩:=h h2;obtain ⟨_,Us,Ou⟩:=World.cells?_some h1;refine ⟨y,cs',by rw [Us,hs],hy,fun j u hu=>?_,hf⟩;have hj:j < P.cellsOf e:=by rw [← Us];exact (List.getElem?_eq_some_iff.1 hu).1
   rw [← hs,← Go.Deep.add_add,Ou j hj]
   exact hu)
  refine ⟨xs,⟨some a,cap,by rw [hxl],by omega,rfl,by omega,fun _=>⟨a,rfl,fun j p hj=>?_⟩⟩,by omega,fun y hy=>?_⟩
  ·obtain ⟨c,h1,h2,h3,_⟩:=hxs j p hj;exact ⟨c,h1,h2,h3⟩
  ·obtain ⟨i,hi,rfl⟩:=List.getElem_of_mem hy;obtain ⟨c,_,_,_,h4⟩:=hxs i _ (List.getElem?_eq_getElem hi);exact h4
def Wx (P:Program) (fs:List Field) (off:Nat) {α:Type} (d:Kd α) (fit:α→Prop):Prop :=
 ∀ {H:Type} {enc:TypeId × Value→H} {w:World} {base:Nat} {spare:Nat→Bool} {held:Bool} {n:Nat} {cs:List Value},
  (∀ f ∈ fs,∃ y,DataW.trod enc P w base spare held n f.type ((cs.drop f.offset).take (P.cellsOf f.type))=some y)→cs.length=off + d.sz→∃ a:α,d.K w a (cs.drop off)∧fit a
theorem Gp {P:Program} {f:Field} {off:Nat} {α:Type} {d:Kd α} {fit:α→Prop} (ho:f.offset=off) (hs:P.cellsOf f.type=d.sz) (h:Lj P f.type d fit):Wx P [f] off d fit:=by
 intro H enc w base spare held n cs hf hl;obtain ⟨y,hy⟩:=hf f (by simp);rw [ho,hs,List.take_of_length_le (by rw [List.length_drop];omega)] at hy;exact h hy
theorem De {P:Program} {f:Field} {fs:List Field} {off off2:Nat} {α β:Type} {d:Kd α} {d2:Kd β} {fit:α→Prop} {iT:β→Prop} (ho:f.offset=off) (hs:P.cellsOf f.type=d.sz) (TZ:off2=off + d.sz) (h:Lj P f.type d fit) (h2:Wx P fs off2 d2 iT):Wx P (f :: fs) off (Kd.pair d d2) (fun p=>fit p.1∧iT p.2):=by
 intro H enc w base spare held n cs hf hl;have hl':cs.length=off + (d.sz + d2.sz):=hl;obtain ⟨y,hy⟩:=hf f (by simp);rw [ho,hs] at hy;obtain ⟨a,ha,fa⟩:=h hy;obtain ⟨b,hb,fb⟩:=h2 (fun g hg=>hf g (List.mem_cons_of_mem _ hg)) (by omega);refine ⟨(a,b),⟨(cs.drop off).take d.sz,cs.drop off2,?_,ha,hb⟩,fa,fb⟩;rw [TZ,← List.drop_drop,List.take_append_drop]
theorem um {P:Program} {t:TypeId} {fs:Array Field} {α:Type} {d:Kd α} {fit:α→Prop} (ht:P.underlying t=some (.struct fs)) (hs:P.cellsOf t=d.sz) (h:Wx P fs.toList 0 d fit):Lj P t d fit:=by
 intro H enc w base spare held fuel cs x hx;obtain ⟨xs,n,_,_,hl,hxl,hf⟩:=DataW.trod_struct ht hx
 have:=h (w:=w) (enc:=enc) (base:=base) (spare:=spare) (held:=held) (n:=n) (cs:=cs) (fun f hfm=>by
  obtain ⟨i,hi,rfl⟩:=List.getElem_of_mem hfm;have hi':i < fs.size:=by simpa using hi
  have h1:=hf i (fs.toList[i]) (by simp [hi']);rw [List.getElem?_eq_getElem (by omega)] at h1
  exact ⟨_,h1⟩) (by omega)
 simpa using this
theorem Br {P:Program} {t:TypeId} {α β:Type} {d:Kd α} {fit:α→Prop} {g:β→α} (gi:α→β) (hg:∀ a,g (gi a)=a) (h:Lj P t d fit):Lj P t (Kd.AJ d g) (fun b=>fit (g b)):=by
 intro H enc w base spare held fuel cs x hx;obtain ⟨a,ha,hf⟩:=h hx;refine ⟨gi a,?_,?_⟩
 ·show d.K w (g (gi a)) cs
  rw [hg];exact ha
 ·show fit (g (gi a))
  rw [hg];exact hf
theorem yG {P:Program} {t:TypeId} {fs:Array Field} {α:Type} {d:Kd α} {fit:α→Prop} {r:Reach} {b0:Nat} {H:Type} {enc:TypeId × Value→H} {w:World} {base:Nat} {spare:Nat→Bool} {held:Bool} {v:Value} {dt:DataW H} {p:List MemPlace}
  (ht:P.underlying t=some (.struct fs)) (h:Lj P t d fit) (hv:Value.okWide P w r b0 t v) (hd:DataW.Trod enc P w base spare held t v dt p) :
  ∃ (a:α) (cs:Array Value),v = .agg cs∧d.K w a cs.toList∧fit a:=by
 obtain ⟨cs,rfl,hsz⟩:=Go.WideShapes.okWide_struct ht hv;obtain ⟨fuel,hf⟩:=hd;obtain ⟨a,ha,hfa⟩:=h hf;exact ⟨a,cs,rfl,by simpa [Value.cells] using ha,hfa⟩
theorem pK:Lj Try.prog 22 (Kd.slice 3 (Kd.int .i64)) (fun l=>l.length ≤ 9223372036854775807∧∀ a ∈ l,gn a):=Dn Try.underlying22 (by kernel_rfl) (Hf Try.underlying3)
def xB (x:Kj):Prop:=gn x.f0∧gn x.f1∧gn x.f2∧gn x.f3∧gn x.f4∧gn x.f5∧(fun s=>s.size ≤ 9223372036854775807) x.f6
theorem vG:Lj Try.prog 141 Hu xB:=Br (fun p=>⟨p.1,p.2.1,p.2.2.1,p.2.2.2.1,p.2.2.2.2.1,p.2.2.2.2.2.1,p.2.2.2.2.2.2⟩) (fun _=>rfl) (um Try.underlying141 (by kernel_rfl) (De rfl (by kernel_rfl) (by kernel_rfl) (Hf Try.underlying3) (De rfl (by kernel_rfl) (by kernel_rfl) (Hf Try.underlying3) (De rfl (by kernel_rfl) (by kernel_rfl) (Hf Try.underlying3) (De rfl (by kernel_rfl) (by kernel_rfl) (Hf Try.underlying3) (De rfl (by kernel_rfl) (by kernel_rfl) (Hf Try.underlying3) (De rfl (by kernel_rfl) (by kernel_rfl) (Hf Try.underlying3) (Gp rfl (by kernel_rfl) (Kw Try.underlying9)))))))))
theorem xG:Lj Try.prog 104 (Kd.slice 141 Hu) (fun l=>l.length ≤ 9223372036854775807∧∀ a ∈ l,xB a):=Dn Try.underlying104 (by kernel_rfl) vG
def yB (x:Bi):Prop:=(fun l=>l.length ≤ 9223372036854775807∧∀ a ∈ l,xB a) x.f0∧gn x.f1∧gn x.f2∧gn x.f3∧gn x.f4
theorem wG:Lj Try.prog 106 Iu yB:=Br (fun p=>⟨p.1,p.2.1,p.2.2.1,p.2.2.2.1,p.2.2.2.2⟩) (fun _=>rfl) (um Try.underlying106 (by kernel_rfl) (De rfl (by kernel_rfl) (by kernel_rfl) xG (De rfl (by kernel_rfl) (by kernel_rfl) (Hf Try.underlying3) (De rfl (by kernel_rfl) (by kernel_rfl) (Hf Try.underlying3) (De rfl (by kernel_rfl) (by kernel_rfl) (Hf Try.underlying3) (Gp rfl (by kernel_rfl) (Hf Try.underlying3)))))))
theorem oK:Lj Try.prog 38 (Kd.slice 106 Iu) (fun l=>l.length ≤ 9223372036854775807∧∀ a ∈ l,yB a):=Dn Try.underlying38 (by kernel_rfl) wG
def XH (x:wR):Prop:=(fun l=>l.length ≤ 9223372036854775807∧∀ a ∈ l,gn a) x.f0∧gn x.f1∧gn x.f2∧gn x.f3∧(fun l=>l.length ≤ 9223372036854775807∧∀ a ∈ l,yB a) x.f4
theorem nK:Lj Try.prog 40 e7 XH:=Br (fun p=>⟨p.1,p.2.1,p.2.2.1,p.2.2.2.1,p.2.2.2.2⟩) (fun _=>rfl) (um Try.underlying40 (by kernel_rfl) (De rfl (by kernel_rfl) (by kernel_rfl) pK (De rfl (by kernel_rfl) (by kernel_rfl) (Hf Try.underlying3) (De rfl (by kernel_rfl) (by kernel_rfl) (Hf Try.underlying3) (De rfl (by kernel_rfl) (by kernel_rfl) (Hf Try.underlying3) (Gp rfl (by kernel_rfl) oK))))))
def xe.f (Ma:List (Zb)) (Pa:Int) (Qa:Int) (Oa:Int) (Wc:Int):Option (List Int):=if Pa=0 then (some (([Oa]:List Int))) else (if Pa=1 then (some (([Oa,Wc]:List Int))) else (some ([]:List Int)))
theorem xe.calls (Bb:Option Addr) (Ab:Nat) (Ma:List (Zb)) (Pa:Int) (Qa:Int) (Oa:Int) (Wc:Int) (r:List Int) (w:World) (od:Kd.C fe w Bb Ma.length Ma) (Nd:Ma.length ≤ Ab) (h:xe.f Ma Pa Qa Oa Wc=some r) :
  Calls Try.prog 75 #[.agg #[.slice Bb Ma.length Ab,.int .i64 Pa,.int .i64 Qa,.int .i64 Oa,.int .i64 Wc]] w fun e w'=>∃ zj:Value,e = .returned (zj)∧Kd.R (Kd.int .i64) 3 w' w.heap.size (fun _=>True) zj r∧Below w.heap.size w w':=by
 have mB:=Try.underlying83;have Qg:=aa.mk od;have Sg:=aa.mk Nd;clear od Nd;have HB:=aa.mk (Below.refl w.heap.size w);have H:(if Pa=0 then (some (([Oa]:List Int))) else (if Pa=1 then (some (([Oa,Wc]:List Int))) else (some ([]:List Int))))=some r:=h;clear h
 by_cases c2:Pa=0
 ·rw [if_pos c2] at H;have Jm:=beq_iff_eq.mpr c2;have Ro:=bne_eq_false_iff_eq.mpr c2;clear c2;obtain ⟨Dd,Ue⟩:∃ y_:List Int,y_=(([Oa]:List Int)):=⟨_,rfl⟩;replace H:(some Dd)=some r:=by first|(rw [Ue];with_reducible exact H)|(have Mc:=(Option.bind_some _ _).symm.trans H;rw [Ue];with_reducible exact Mc)|(have Mc:=(Option.bind_some _ _).symm.trans H;with_reducible exact Mc)|with_reducible exact H|(rw [Ue];exact H)|exact H
  have ji:=aa.mk Ue;clear Ue;obtain rfl:=Option.some.inj H;go_enter Try.func75,Try.ntmps75;go_wp2_with (first|((with_reducible refine Lb (N:=1) rfl ?_);refine Jc ?hg (N:=1) ?hd (cs:=#[.slice Bb Ma.length Ab,.int .i64 Pa,.int .i64 Qa,.int .i64 Oa,.int .i64 Wc]) (t:=83) ?hr ?_;(case hd|hg=>rfl);(case hr=>exact Vae);intro Ja hg w3 qd hb;have Kb:=aa.mk (Fa Yae hb);have Ob:=aa.mk (qd);have fc:=aa.mk ((by rw [hg];exact (Ra Yae):w.heap.size ≤ Ja));have Sc:=aa.mk ((by rw [hg];exact (Ra Yae):w.heap.size ≤ Ja));clear HB;have HB:=Kb;have ta:=Ob;have Af:=fc;have mb:=Sc;clear Kb Ob fc Sc hb qd hg;have yP:w3.cell? ⟨Ja,0,none⟩=some (.slice Bb Ma.length Ab):=(qa ta.out 0).trans rfl;have xP:w3.cell? ⟨Ja,1,none⟩=some (.int .i64 Pa):=(qa ta.out 1).trans rfl;have wP:w3.cell? ⟨Ja,2,none⟩=some (.int .i64 Qa):=(qa ta.out 2).trans rfl;have vP:w3.cell? ⟨Ja,3,none⟩=some (.int .i64 Oa):=(qa ta.out 3).trans rfl;have uP:w3.cell? ⟨Ja,4,none⟩=some (.int .i64 Wc):=(qa ta.out 4).trans rfl;have bP:=Aa ta.out 0;have ZO:=Aa ta.out 1;have YO:=Aa ta.out 2;have XO:=Aa ta.out 3;have WO:=Aa ta.out 4)|((with_reducible refine Lb (N:=9) rfl ?_);refine Kd.jk (Kd.int .i64) _ 3 ?hg (N:=9) ?hd (xs:=([Oa]:List Int)) (inner:=[.int .i64 Oa]) (ok:=fun _=>True) (Ag:=fun _=>True) ?hr ?hp (fun _ hk=>hk) trivial (Below.refl _ _) (Nat.le_refl _) (by simp) ?_;(case hd|hg=>rfl);(case hr=>exact Vae);(case hp=>exact (Fc.one (show Kd.M (Kd.int .i64) _ _ _ Oa [.int .i64 Oa] from rfl) (Fc.none _ _)));intro Ng w5 ez hb Hl Je;clear Hl Je;(first|rw [← ji.out] at ez|(simp only [Int.reduceToNat] at ez;rw [← ji.out] at ez));have Kb:=aa.mk (Kd.Xc ez (Ra Xae));have Ob:=aa.mk (Ua (g:=Ja) (o:=.cells #[.slice Bb Ma.length Ab,.int .i64 Pa,.int .i64 Qa,.int .i64 Oa,.int .i64 Wc] 83 (0,0)) Zae hb);have fc:=aa.mk (Fa Xae hb);clear ta HB;have Pe:=Kb;have ta:=Ob;have HB:=fc;clear Kb Ob fc hb ez));go_ret;exact ⟨_,eaf,Haf,aaf⟩
 ·rw [if_neg c2] at H;have Jm:=beq_eq_false_iff_ne.mpr c2;have Ro:=bne_iff_ne.mpr c2
  by_cases c7:Pa=1
  ·rw [if_pos c7] at H;have Zr:=beq_iff_eq.mpr c7;have nI:=bne_eq_false_iff_eq.mpr c7;clear c7;obtain ⟨Yc,Ff⟩:∃ y_:List Int,y_=(([Oa,Wc]:List Int)):=⟨_,rfl⟩;replace H:(some Yc)=some r:=by first|(rw [Ff];with_reducible exact H)|(have Mc:=(Option.bind_some _ _).symm.trans H;rw [Ff];with_reducible exact Mc)|(have Mc:=(Option.bind_some _ _).symm.trans H;with_reducible exact Mc)|with_reducible exact H|(rw [Ff];exact H)|exact H
   have zl:=aa.mk Ff;clear Ff;obtain rfl:=Option.some.inj H;go_enter Try.func75,Try.ntmps75;go_wp2_with (first|((with_reducible refine Lb (N:=1) rfl ?_);refine Jc ?hg (N:=1) ?hd (cs:=#[.slice Bb Ma.length Ab,.int .i64 Pa,.int .i64 Qa,.int .i64 Oa,.int .i64 Wc]) (t:=83) ?hr ?_;(case hd|hg=>rfl);(case hr=>exact Vae);intro Ja hg w8 qd hb;have Kb:=aa.mk (Fa Yae hb);have Ob:=aa.mk (qd);have fc:=aa.mk ((by rw [hg];exact (Ra Yae):w.heap.size ≤ Ja));have Sc:=aa.mk ((by rw [hg];exact (Ra Yae):w.heap.size ≤ Ja));clear HB;have HB:=Kb;have ta:=Ob;have Af:=fc;have mb:=Sc;clear Kb Ob fc Sc hb qd hg;have ak:w8.cell? ⟨Ja,0,none⟩=some (.slice Bb Ma.length Ab):=(qa ta.out 0).trans rfl;have Zj:w8.cell? ⟨Ja,1,none⟩=some (.int .i64 Pa):=(qa ta.out 1).trans rfl;have Yj:w8.cell? ⟨Ja,2,none⟩=some (.int .i64 Qa):=(qa ta.out 2).trans rfl;have Xj:w8.cell? ⟨Ja,3,none⟩=some (.int .i64 Oa):=(qa ta.out 3).trans rfl;have Wj:w8.cell? ⟨Ja,4,none⟩=some (.int .i64 Wc):=(qa ta.out 4).trans rfl;have Vj:=Aa ta.out 0;have Uj:=Aa ta.out 1;have Tj:=Aa ta.out 2;have Sj:=Aa ta.out 3;have Rj:=Aa ta.out 4)|((with_reducible refine Lb (N:=16) rfl ?_);refine Kd.jk (Kd.int .i64) _ 3 ?hg (N:=16) ?hd (xs:=([Oa,Wc]:List Int)) (inner:=[.int .i64 Oa,.int .i64 Wc]) (ok:=fun _=>True) (Ag:=fun _=>True) ?hr ?hp (fun _ hk=>hk) trivial (Below.refl _ _) (Nat.le_refl _) (by simp) ?_;(case hd|hg=>rfl);(case hr=>exact Vae);(case hp=>exact (Fc.one (show Kd.M (Kd.int .i64) _ _ _ Oa [.int .i64 Oa] from rfl) (Fc.one (show Kd.M (Kd.int .i64) _ _ _ Wc [.int .i64 Wc] from rfl) (Fc.none _ _))));intro Kv Gt en hb Hl Je;clear Hl Je;(first|rw [← zl.out] at en|(simp only [Int.reduceToNat] at en;rw [← zl.out] at en));have Kb:=aa.mk (Kd.Xc en (Ra Xae));have Ob:=aa.mk (Ua (g:=Ja) (o:=.cells #[.slice Bb Ma.length Ab,.int .i64 Pa,.int .i64 Qa,.int .i64 Oa,.int .i64 Wc] 83 (0,0)) Zae hb);have fc:=aa.mk (Fa Xae hb);clear ta HB;have Tk:=Kb;have ta:=Ob;have HB:=fc;clear Kb Ob fc hb en));go_ret;exact ⟨_,eaf,by (with_reducible repeat (first|apply Kd.Ka|apply Kd.La|apply Kd.Sa));exact Tk.out,aaf⟩
  ·rw [if_neg c7] at H;have Zr:=beq_eq_false_iff_ne.mpr c7;have nI:=bne_iff_ne.mpr c7;obtain rfl:=Option.some.inj H;go_enter Try.func75,Try.ntmps75;go_wp2_with (first|((with_reducible refine Lb (N:=1) rfl ?_);refine Jc ?hg (N:=1) ?hd (cs:=#[.slice Bb Ma.length Ab,.int .i64 Pa,.int .i64 Qa,.int .i64 Oa,.int .i64 Wc]) (t:=83) ?hr ?_;(case hd|hg=>rfl);(case hr=>exact Vae);intro Ja hg vu qd hb;have Kb:=aa.mk (Fa Yae hb);have Ob:=aa.mk (qd);have fc:=aa.mk ((by rw [hg];exact (Ra Yae):w.heap.size ≤ Ja));have Sc:=aa.mk ((by rw [hg];exact (Ra Yae):w.heap.size ≤ Ja));clear HB;have HB:=Kb;have ta:=Ob;have Af:=fc;have mb:=Sc;clear Kb Ob fc Sc hb qd hg;have iu:vu.cell? ⟨Ja,0,none⟩=some (.slice Bb Ma.length Ab):=(qa ta.out 0).trans rfl;have gu:vu.cell? ⟨Ja,1,none⟩=some (.int .i64 Pa):=(qa ta.out 1).trans rfl;have fu:vu.cell? ⟨Ja,2,none⟩=some (.int .i64 Qa):=(qa ta.out 2).trans rfl;have eu:vu.cell? ⟨Ja,3,none⟩=some (.int .i64 Oa):=(qa ta.out 3).trans rfl;have cu:vu.cell? ⟨Ja,4,none⟩=some (.int .i64 Wc):=(qa ta.out 4).trans rfl;have Wt:=Aa ta.out 0;have Vt:=Aa ta.out 1;have Ut:=Aa ta.out 2;have Tt:=Aa ta.out 3;have St:=Aa ta.out 4));go_ret;exact ⟨_,eaf,by first|exact Kd.Zs _ _ _ _ _|exact Kd.AU _ _ _ _ _|exact Kd.iU _ _ _ _ _|exact Kd.rU _ _ _ _ _|exact Kd.nU _ _ _ _ _,aaf⟩
def jb.l0:Nat→List Int→Int→Int→Int→Option (Int)
 | 0,_,_,_,_=>none
 | k + 1,x0,x1,x7,x8=>if x8 < x7 then (if 0 ≤ x8 then (if x8 < (x0.length:Int) then (if x1=(rd x0 x8) then (some x8) else (jb.l0 k x0 x1 x7 (wrap64 (x8 + 1)))) else (none)) else (none)) else (some (-1))
def jb.f (k:Nat) (l0:List Int) (a1:Int):Option (Int):=jb.l0 k l0 a1 (l0.length:Int) 0
theorem jb.En:∀ k,(∀ y0 y1 y2 y3,Bg (jb.l0 k y0 y1 y2 y3) (jb.l0 (k + 1) y0 y1 y2 y3))
 | 0=>fun _ _ _ _ r h=>by simp [jb.l0] at h
 | k + 1=>by
  have Vy:=jb.En k
  ·intro y0 y1 y2 y3;unfold jb.l0
   repeat' first
   | (with_reducible exact Vy _ _ _ _)
   | (with_reducible exact Bg.refl _)
   | (with_reducible exact Bg.none _)
   | (with_reducible refine Bg.ite ?_ ?_)
   | (with_reducible refine Bg.bind ?_ (fun _=>?_))
   | exact Vy _ _ _ _
   | exact Bg.none _
   | refine Bg.ite ?_ ?_
   | refine Bg.bind ?_ (fun _=>?_)
theorem jb.mono:∀ a0 a1 k,Bg (jb.f k a0 a1) (jb.f (k + 1) a0 a1):=by
 intro a0 a1 k;have Vy:=jb.En k;unfold jb.f
 repeat' first
   | (with_reducible exact Vy _ _ _ _)
   | (with_reducible exact Bg.refl _)
   | (with_reducible exact Bg.none _)
   | (with_reducible refine Bg.ite ?_ ?_)
   | (with_reducible refine Bg.bind ?_ (fun _=>?_))
   | exact Vy _ _ _ _
   | exact Bg.none _
   | refine Bg.ite ?_ ?_
   | refine Bg.bind ?_ (fun _=>?_)
theorem jb.calls (k:Nat) (A0:Option Addr) (c0:Nat) (l0:List Int) (a1:Int) (r:Int) (w:World) (Jh:Kd.C (Kd.int .i64) w A0 l0.length l0) (hc0:l0.length ≤ c0) (h:jb.f k l0 a1=some r) :
  Calls Try.prog 110 #[.slice A0 l0.length c0,.int .i64 a1] w fun e w'=>e = .returned (.int .i64 r)∧Nb w w':=by
 have xk:=aa.mk Jh;have ey:=aa.mk hc0;clear Jh hc0;have H:(jb.l0 k l0 a1 (l0.length:Int) 0)=some r:=h;clear h;have H':=aa.mk H;clear H;go_enter Try.func110,Try.ntmps110;go_wp2
 go_loopg [8] k (fun kq v8 w'=>∃ (jd:Int),v8 = .int .i64 jd∧aa (jb.l0 kq l0 a1 (l0.length:Int) jd=some r)∧aa (kq ≤ k)∧Nb w w')
 case atStart=>exact ⟨(0),daf,H',⟨Nat.le_refl _⟩,kaf⟩
 case round =>
  clear H'
  try clear c1
  try clear p2
  (try clear HA);(try clear Gf);obtain ⟨jd,rfl,HA,Gf,⟨m1,rfl⟩⟩:=hrel;cases gk with
  | zero=>exact absurd HA.out (by simp [jb.l0])
  | succ k1 =>
   have H:=HA.out;clear HA;simp only [jb.l0] at H
   by_cases c3:jd < (l0.length:Int)
   ·rw [if_pos c3] at H;have Yg:decide (jd < (l0.length:Int))=true:=decide_eq_true c3;clear c3
    by_cases c4:0 ≤ jd
    ·rw [if_pos c4] at H;have Yk:decide (0 ≤ jd)=true:=decide_eq_true c4;clear c4
     by_cases c5:jd < (l0.length:Int)
     ·rw [if_pos c5] at H;have Yq:decide (jd < (l0.length:Int))=true:=decide_eq_true c5;clear c5
      by_cases c6:a1=(rd l0 jd)
      ·rw [if_pos c6] at H;have Xq:=beq_iff_eq.mpr c6;have kQ:=bne_eq_false_iff_eq.mpr c6;clear c6;obtain rfl:=Option.some.inj H;have Pf:0 ≤ (jd:Int):=Ia;have Nf:jd < (l0.length:Int):=Ia;obtain ⟨Rl,bk,gf⟩:=Kd.Ud xk.out jd Pf Nf;cases bk;replace Pf:=eq_true Pf;replace Nf:=eq_true Nf;go_wp2;go_ret;exact ⟨waf,kaf⟩
      ·rw [if_neg c6] at H;have Xq:=beq_eq_false_iff_ne.mpr c6;have kQ:=bne_iff_ne.mpr c6;have H':=aa.mk H;clear H;have Pf:0 ≤ (jd:Int):=Ia;have Nf:jd < (l0.length:Int):=Ia;obtain ⟨Rl,bk,gf⟩:=Kd.Ud xk.out jd Pf Nf;cases bk;replace Pf:=eq_true Pf;replace Nf:=eq_true Nf;go_wp2
       go_roundg k1
       case measure=>have:=Gf.out;omega
       case rel=>exact ⟨(wrap64 (jd + 1)),daf,H',⟨by have:=Gf.out;omega⟩,kaf⟩
     ·rw [if_neg c5] at H;exact absurd H (by simp)
    ·rw [if_neg c4] at H;exact absurd H (by simp)
   ·rw [if_neg c3] at H;have Yg:decide (jd < (l0.length:Int))=false:=decide_eq_false c3;clear c3;obtain rfl:=Option.some.inj H;go_wp2;go_ret;exact ⟨waf,kaf⟩
def Tb.f (k:Nat) (l0:List Int) (a1:Int):Option (Bool):=(jb.f k l0 a1).bind fun t101=>(some (decide (t101 ≥ 0)))
theorem Tb.mono:∀ a0 a1 k,Bg (Tb.f k a0 a1) (Tb.f (k + 1) a0 a1):=by
 intro a0 a1 k;unfold Tb.f
 repeat' first
   | (with_reducible exact jb.mono _ _ _)
   | (with_reducible exact Bg.refl _)
   | (with_reducible exact Bg.none _)
   | (with_reducible refine Bg.ite ?_ ?_)
   | (with_reducible refine Bg.bind ?_ (fun _=>?_))
   | exact jb.mono _ _ _
   | exact Bg.none _
   | refine Bg.ite ?_ ?_
   | refine Bg.bind ?_ (fun _=>?_)
theorem Tb.calls (k:Nat) (A0:Option Addr) (c0:Nat) (l0:List Int) (a1:Int) (r:Bool) (w:World) (Jh:Kd.C (Kd.int .i64) w A0 l0.length l0) (hc0:l0.length ≤ c0) (h:Tb.f k l0 a1=some r) :
  Calls Try.prog 83 #[.slice A0 l0.length c0,.int .i64 a1] w fun e w'=>e = .returned (.bool r)∧Nb w w':=by
 have xk:=aa.mk Jh;have ey:=aa.mk hc0;clear Jh hc0;have H:((jb.f k l0 a1).bind fun t101=>(some (decide (t101 ≥ 0))))=some r:=h;clear h;replace H:=Option.bind_eq_some_iff.mp H;obtain ⟨t101,wE,H⟩:=H
 try dsimp only at H
 have A3:=aa.mk wE;clear wE;obtain rfl:=Option.some.inj H;go_enter Try.func83,Try.ntmps83;go_wp2_with (first|((with_reducible refine Sb (f:=110) rfl ?_);refine Ke (some 7) rfl rfl Try.func110 (by kernel_rfl) rfl #[.slice A0 l0.length c0,.int .i64 a1] rfl baf ?_;(with_reducible refine (jb.calls k _ _ l0 a1 t101 _ ?Gd ?Ed A3.out).mono ?_);(case Gd=>repeat (first|exact xk.out|(with_reducible refine Kd.ee ?_ _)|(with_reducible refine Kd.Zd ?_ _)|(with_reducible refine Kd.We ?_)));(case Ed=>exact ey.out);rintro e w' ⟨rfl,⟨nd,rfl⟩⟩;refine ⟨_,rfl,?_⟩));go_ret;exact ⟨waf,kaf⟩
end Go.Proofs.Ytoomcmaifgkkfaa.P
end
section
namespace Go.Proofs.Ytoomcmaifgkkfaa.P
open Go.RowKit Go.Proofs.ua.zb Go.Proofs.ua.Lc Go.Proofs.ua.Pd
set_option linter.unusedVariables false
set_option linter.unusedSimpArgs false
open Go.Shelf
def Xp:Go.Shelf.Ren:=⟨fun | 189=>112 | 125=>129 | 257=>128 | 128=>150 | 129=>151 | 294=>141 | 295=>142 | 296=>143 | 297=>144 | 298=>145 | 299=>146 | 216=>147 | 300=>148 | 301=>149 | 328=>155 | 329=>156 | 330=>157 | 331=>158 | 332=>159 | 215=>160 | 343=>162|n=>n,fun | 28=>22 | 3=>3 | 46=>130 | 0=>0 | 51=>159 | 53=>161 | 4=>4 | 183=>151 | 182=>150 | 131=>156 | 5=>5 | 9=>9 | 218=>163 | 222=>167 | 228=>170 | 229=>171|n=>n,fun|n=>n⟩
theorem Xo:Go.Proofs.Lays.n189 Try.prog Xp:={
 mixed:=by kernel_rfl
 f125:=Try.func129.trans (congrArg some (by kernel_rfl))
 f128:=Try.func150.trans (congrArg some (by kernel_rfl))
 f129:=Try.func151.trans (congrArg some (by kernel_rfl))
 f189:=Try.func112.trans (congrArg some (by kernel_rfl))
 f215:=Try.func160.trans (congrArg some (by kernel_rfl))
 f216:=Try.func147.trans (congrArg some (by kernel_rfl))
 f257:=Try.func128.trans (congrArg some (by kernel_rfl))
 f294:=Try.func141.trans (congrArg some (by kernel_rfl))
 f295:=Try.func142.trans (congrArg some (by kernel_rfl))
 f296:=Try.func143.trans (congrArg some (by kernel_rfl))
 f297:=Try.func144.trans (congrArg some (by kernel_rfl))
 f298:=Try.func145.trans (congrArg some (by kernel_rfl))
 f299:=Try.func146.trans (congrArg some (by kernel_rfl))
 f300:=Try.func148.trans (congrArg some (by kernel_rfl))
 f301:=Try.func149.trans (congrArg some (by kernel_rfl))
 f328:=Try.func155.trans (congrArg some (by kernel_rfl))
 f329:=Try.func156.trans (congrArg some (by kernel_rfl))
 f330:=Try.func157.trans (congrArg some (by kernel_rfl))
 f331:=Try.func158.trans (congrArg some (by kernel_rfl))
 f332:=Try.func159.trans (congrArg some (by kernel_rfl))
 f343:=Try.func162.trans (congrArg some (by kernel_rfl))
 t0:=Try.underlying0
 a0:=Try.isAgg0
 z0:=Try.sizeOf0
 v0:=Try.zeroValue0
 t3:=Try.underlying3
 a3:=Try.isAgg3
 z3:=Try.sizeOf3
 v3:=Try.zeroValue3
 t4:=Try.underlying4
 a4:=Try.isAgg4
 z4:=Try.sizeOf4
 v4:=Try.zeroValue4
 t5:=Try.underlying5
 a5:=Try.isAgg5
 z5:=Try.sizeOf5
 v5:=Try.zeroValue5
 t9:=Try.underlying9
 a9:=Try.isAgg9
 z9:=Try.sizeOf9
 v9:=Try.zeroValue9
 t28:=Try.underlying22
 a28:=Try.isAgg22
 z28:=Try.sizeOf22
 v28:=Try.zeroValue22
 t46:=Try.underlying130
 a46:=Try.isAgg130
 z46:=Try.sizeOf130
 v46:=Try.zeroValue130
 t51:=Try.underlying159
 a51:=Try.isAgg159
 z51:=Try.sizeOf159
 v51:=Try.zeroValue159
 t53:=Try.underlying161
 a53:=Try.isAgg161
 z53:=Try.sizeOf161
 v53:=Try.zeroValue161
 t131:=Try.underlying156
 a131:=Try.isAgg156
 z131:=Try.sizeOf156
 v131:=Try.zeroValue156
 t182:=Try.underlying150
 a182:=Try.isAgg150
 z182:=Try.sizeOf150
 v182:=Try.zeroValue150
 t183:=Try.underlying151
 a183:=Try.isAgg151
 z183:=Try.sizeOf151
 v183:=Try.zeroValue151
 t218:=Try.underlying163
 a218:=Try.isAgg163
 z218:=Try.sizeOf163
 v218:=Try.zeroValue163
 t222:=Try.underlying167
 a222:=Try.isAgg167
 z222:=Try.sizeOf167
 v222:=Try.zeroValue167
 t228:=Try.underlying170
 a228:=Try.isAgg170
 z228:=Try.sizeOf170
 v228:=Try.zeroValue170
 t229:=Try.underlying171
 a229:=Try.isAgg171
 z229:=Try.sizeOf171
 v229:=Try.zeroValue171 }
open Go.Sort Go.RowKit in
theorem bn (blk off cap:Nat) (zs:List Int) (w:World) (hH:Holds (Value.int .i64) w blk off zs.toArray) (hblk:blk < w.heap.size) (hsz:zs.length < 4611686018427387904) :
  Calls Try.prog 112 #[.slice (some ⟨blk,off,none⟩) zs.length cap] w fun e w' =>
   e = .returned (.tuple #[])∧∃ n os,w' = grow (putRow (Value.int .i64) (Sort.ahead w n) blk off (zs.mergeSort fun x y=>decide (x ≤ y)).toArray) os:=Any.slices_Sort_int Xo blk off cap zs w hH hblk hsz
def Oo:Go.Shelf.Ren:=⟨fun | 20=>113|n=>n,fun | 22=>22 | 3=>3 | 4=>4 | 0=>0|n=>n,fun|n=>n⟩
theorem Wm:Go.Proofs.Lays2.n20 Try.prog Oo:={
 mixed:=by kernel_rfl
 f20:=Try.func113.trans (congrArg some (by kernel_rfl))
 t0:=Try.underlying0
 a0:=Try.isAgg0
 z0:=Try.sizeOf0
 v0:=Try.zeroValue0
 t3:=Try.underlying3
 a3:=Try.isAgg3
 z3:=Try.sizeOf3
 v3:=Try.zeroValue3
 t4:=Try.underlying4
 a4:=Try.isAgg4
 z4:=Try.sizeOf4
 v4:=Try.zeroValue4
 t22:=Try.underlying22
 a22:=Try.isAgg22
 z22:=Try.sizeOf22
 v22:=Try.zeroValue22
 i3:=by kernel_rfl }
open Go.RowKit Go.Lib Go.Sort in
theorem Cl (blk off cap:Nat) (zs:List Int) (w:World) (hH:Holds (Value.int .i64) w blk off zs.toArray) (hsz:zs.length ≤ 9223372036854775807) (hcap:zs.length ≤ cap) :
  Calls Try.prog 113 #[.slice (some ⟨blk,off,none⟩) zs.length cap] w fun e w'=>e = .returned (.slice (some ⟨blk,off,none⟩) (Lib.compact zs).length cap)∧∃ q,w' = putRow (Value.int .i64) (Sort.ahead w q) blk off (Lib.compact zs ++ List.replicate (zs.length - (Lib.compact zs).length) 0).toArray:=Any.slices_Compact_int Wm blk off cap zs w hH hsz hcap
open Go.RowKit Go.Lib Go.Sort in
theorem ej (a:Option Addr) (cap:Nat) (w:World) :
  Calls Try.prog 113 #[.slice a 0 cap] w fun e w'=>e = .returned (.slice a 0 cap)∧w' = w:=Any.slices_Compact_int_empty Wm a cap w
open Go.RowKit Go.Sort in
theorem Fk (p:Option Addr) (cap:Nat) (w:World) :
  Calls Try.prog 112 #[.slice p 0 cap] w fun e w'=>e = .returned (.tuple #[])∧w' = w:=Any.slices_Sort_int_none Xo p cap w
end Go.Proofs.Ytoomcmaifgkkfaa.P
end
section
namespace Go.Proofs.Ytoomcmaifgkkfaa.P
open Go.RowKit Go.Proofs.ua.zb Go.Proofs.ua.Lc Go.Proofs.ua.Pd
set_option linter.unusedVariables false
set_option linter.unusedSimpArgs false
def Lh (l:List Int):List Int:=Go.Lib.compact (l.mergeSort fun x y=>decide (x ≤ y))
def ef.f (l0:List Int):Option (List Int):=if l0.length ≤ 4398046511104 then some (Lh l0) else none
theorem Xs (zs:List Int):(Go.Lib.compact zs).length ≤ zs.length:=by
 unfold Go.Lib.compact Go.Lib.compactUpTo;rw [List.length_map];have:=List.length_filter_le (Go.Lib.keeps zs.toArray) (List.range zs.length)
 rwa [List.length_range] at this
open Go.RowKit Go.Lib Go.Sort in
theorem YK (B g n c:Nat) (P:Nat→Prop) (l0:List Int) (w:World) (hn:l0.length=n) (hgB:B ≤ g) (hP:P g) (hl:n ≤ 4398046511104) (hown:w.ownsRow B 3 1 (.slice (some ⟨g,0,none⟩) n c) n (Xk (Value.int .i64) l0)) :
  Calls Try.prog 86 #[.slice (some ⟨g,0,none⟩) n c] w fun e w'=>∃ zj:Value,e = .returned zj∧Kd.R (Kd.int .i64) 3 w' B P zj (Lh l0)∧w.grownBy w' (some g):=by
 obtain ⟨cur,hb,h1,h2,h3,h4⟩:∃ cur,w.heap[g]? = some (.cells cur 3 (0,0))∧n ≤ c∧c ≤ maxLen∧cur.size=c * 1∧cur.toList.take (n * 1)=Xk (Value.int .i64) l0:=by
  rcases hown.2 with ⟨h0,_⟩|⟨g',cap',cur,hv,_,hh,a1,a2,a3,a4⟩
  ·cases h0
  ·cases hv;exact ⟨cur,hh,a1,a2,a3,a4⟩
 subst hn;rw [Nat.mul_one] at h4;have HH:=aa.mk (holds_of_blockI (ss:=l0) hb (by rw [h4];rfl));have HG:=aa.mk (Array.getElem?_eq_some_iff.1 hb).1;have HB:=aa.mk hb;have H1:=aa.mk h1;have H2:=aa.mk h2;have H3:=aa.mk h3;have H4:=aa.mk h4;clear hown hb h1 h2 h3 h4;obtain ⟨s,hs⟩:∃ s:List Int,s=l0.mergeSort fun x y=>decide (x ≤ y):=⟨_,rfl⟩
 have sR:s.length=l0.length:=by rw [hs];exact List.length_mergeSort l0
 have HS:=aa.mk hs;have yR:=aa.mk sR;clear hs sR;go_enter Try.func86,Try.ntmps86
 go_upto_region 2 with (go_at_call 112;(with_reducible refine (bn g 0 c l0 w HH.out HG.out (by omega)).mono ?_);rintro e w1 ⟨rfl,m,os,hw1⟩;have HW1:=aa.mk hw1;clear hw1)
 have Sm:=aa.mk (show w1.heap[g]? = some (.cells (putCells (Value.int .i64) 0 s.toArray cur) 3 (0,0)) from by rw [HW1.out,← HS.out];exact heap_sortedI _ HB.out);have kC:=aa.mk (show w.grownBy w1 (some g) from by rw [HW1.out];exact grownBy_sortedI _);have R5:=aa.mk (holds_of_blockI (ss:=s) Sm.out (take_putCellsI cur s (by have:=H3.out;have:=H1.out;have:=yR.out;omega)));have U9:(Go.Lib.compact s).length ≤ s.length:=Xs s;have HCP:=aa.mk U9;clear U9;have HL:=aa.mk hl;clear hl;have nJ:=aa.mk (Cl g 0 c s w1 R5.out (by have:=HL.out;have:=yR.out;omega) (by have:=H1.out;have:=yR.out;omega));rw [yR.out] at nJ;go_wp2_with (go_at_call 113;(refine nJ.out.mono ?_);rintro e w2 ⟨rfl,q,hw2⟩;have bN:=aa.mk hw2;clear hw2);go_ret
 have hz:(Go.Lib.compact s ++ List.replicate (l0.length - (Go.Lib.compact s).length) 0).length=s.length:=by
  rw [List.length_append,List.length_replicate];have:=HCP.out;have:=yR.out;omega
 refine ⟨_,rfl,?_,?_⟩
 ·have hr:=ownsRow_sortedI (w:=w1) (base:=B) (n:=q) (os:=#[]) (ss:=s) (ts:=Go.Lib.compact s ++ List.replicate (l0.length - (Go.Lib.compact s).length) 0) hz hgB Sm.out (by rw [yR.out];exact H1.out) H2.out (by simp [putCells,H3.out]);rw [grow_empty,← bN.out] at hr
  have hR:Kd.R (Kd.int .i64) 3 w2 B P (.slice (some ⟨g,0,none⟩) s.length c) (Go.Lib.compact s ++ List.replicate (l0.length - (Go.Lib.compact s).length) 0):=Kd.fA (by rw [hz];exact hr) (fun k hk=>by
   have:g=k:=by simpa [Value.ownBlock] using hk
   subst this
   exact hP)
  have ht:=Kd.Tx (m:=(Go.Lib.compact s).length) hR (by rw [hz];exact HCP.out);rw [List.take_left] at ht;unfold Lh;rw [← HS.out];exact ht
 ·have h2:=grownBy_sortedI (w:=w1) (g:=g) (n:=q) (os:=#[]) (Go.Lib.compact s ++ List.replicate (l0.length - (Go.Lib.compact s).length) 0).toArray;rw [grow_empty,← bN.out] at h2;exact kC.out.trans h2
theorem ef.calls (nh:Nat→Prop) (Sd:Value) (l0:List Int) (r:List Int) (w0 w:World) (hB:Below w0.heap.size w0 w) (uh:Kd.R (Kd.int .i64) 3 w w0.heap.size nh Sd l0) (h:ef.f l0=some r) :
  Calls Try.prog 86 #[Sd] w fun e w'=>∃ zj:Value,e = .returned (zj)∧Kd.R (Kd.int .i64) 3 w' w0.heap.size (fun k_=>(nh k_ ∨ w.heap.size ≤ k_)) zj r∧Below w0.heap.size w0 w'∧Kept w w' (fun k_=>nh k_):=by
 unfold ef.f at h;have hl:l0.length ≤ 4398046511104:=Decidable.byContradiction fun hn=>by rw [if_neg hn] at h;cases h
 rw [if_pos hl] at h;obtain rfl:=Option.some.inj h;have ho:=Kd.cq uh;have hbase:=Kd.ug uh;have hP:=uh.1
 rcases ho.2 with ⟨rfl,h0⟩|⟨g,cap,cur,rfl,hg,_⟩
 ·obtain rfl:l0=[]:=List.eq_nil_of_length_eq_zero h0;clear ho uh hbase hP h;have HB:=aa.mk hB;clear hB;go_enter Try.func86,Try.ntmps86
  go_upto_region 2 with (go_at_call 112;(with_reducible refine (Fk none 0 w).mono ?_);rintro e w1 ⟨rfl,rfl⟩)
  go_wp2_with (go_at_call 113;(with_reducible refine (ej none 0 _).mono ?_);rintro e w2 ⟨rfl,rfl⟩);go_ret;exact ⟨_,rfl,by rw [show Lh []=[] from by simp [Lh,Go.Lib.compact,Go.Lib.compactUpTo]];exact Kd.Zs _ _ _ _ _,HB.out,Kept.refl _ _⟩
 ·have d_:=hP g rfl;refine (YK w0.heap.size g l0.length cap (fun k_=>(nh k_ ∨ w.heap.size ≤ k_)) l0 w rfl hg (Or.inl d_) hl ho).mono ?_;rintro e w' ⟨v,he,hr,V8⟩;exact ⟨v,he,hr,zn hB _ hB.size V8 (fun k hk=>by cases hk;exact hg),Kept.Te V8 (Kept.refl _ _) (fun k hk=>by cases hk;exact Or.inl d_)⟩
theorem Mw (w:World) (o:Obj):∃ W1,W1=w.alloc o∧Below w.heap.size w W1∧W1.heap[w.heap.size]? = some o:=⟨_,rfl,ia (Below.refl _ _) _,si _ _⟩
theorem dm (w:World) (o p:Obj):∃ W1,W1=(w.alloc o).alloc p∧Below w.heap.size w W1∧W1.heap[w.heap.size]? = some o∧W1.heap[w.heap.size + 1]? = some p:=by
 refine ⟨_,rfl,ia (ia (Below.refl _ _) _) _,Ca (si _ _) _,?_⟩;have h:=si (w.alloc o) p;have hz:(w.alloc o).heap.size=w.heap.size + 1:=by simp
 rwa [hz] at h
theorem Cg {w:World} {g:Nat} {t:TypeId} {a b c d e:Value} (h:w.heap[g]? = some (.cells #[a,b,c,d,e] t (0,0))):w.cell? ⟨g,0,none⟩=some a∧w.cell? ⟨g,1,none⟩=some b∧w.cell? ⟨g,2,none⟩=some c∧w.cell? ⟨g,3,none⟩=some d∧w.cell? ⟨g,4,none⟩=some e :=
 ⟨(qa h 0).trans rfl,(qa h 1).trans rfl,(qa h 2).trans rfl,(qa h 3).trans rfl,(qa h 4).trans rfl⟩
theorem OB {w:World} {i:Nat} {t:TypeId} {a b c d e f g:Value} (h:w.heap[i]? = some (.cells #[a,b,c,d,e,f,g] t (0,0))):w.cell? ⟨i,0,none⟩=some a∧w.cell? ⟨i,1,none⟩=some b∧w.cell? ⟨i,2,none⟩=some c∧w.cell? ⟨i,3,none⟩=some d∧w.cell? ⟨i,4,none⟩=some e∧w.cell? ⟨i,5,none⟩=some f∧w.cell? ⟨i,6,none⟩=some g :=
 ⟨(qa h 0).trans rfl,(qa h 1).trans rfl,(qa h 2).trans rfl,(qa h 3).trans rfl,(qa h 4).trans rfl,(qa h 5).trans rfl,(qa h 6).trans rfl⟩
theorem xj {α:Type} (d:Kd α) (e:Nat) (w:World) (base:Nat) (h:base ≤ w.heap.size):d.R e (w.alloc (.cells #[] e (0,0))) base (fun _=>True) (.slice (some ⟨w.heap.size,0,none⟩) 0 0) []:=by
 refine ⟨fun _ _=>trivial,[],?_,⟨by simp,fun i p hp=>by simp at hp⟩⟩;have h2:=World.ownsRow_lit (base:=base) (e:=e) (size:=d.sz) w #[] 0 h (by simp [maxLen]) (by simp)
 simpa using h2
theorem LA {α:Type} {d:Kd α} {e B:Nat} {ok:Nat→Prop} {W w':World} {v:Value} {xs:List α} (h:d.R e w' W.heap.size ok v xs) (hB:B ≤ W.heap.size):d.R e w' B (fun k=>W.heap.size ≤ k∧k < w'.heap.size) v xs :=
 Kd.Xc (Kd.Db (Kd.Fe h) (fun _ hk=>⟨hk.2.1,hk.2.2.1⟩)) hB
theorem MN {α:Type} {d:Kd α} {e B:Nat} {ok:Nat→Prop} {W w':World} {v:Value} {xs:List α} (h:Kd.S d e w' W.heap.size ok v xs) (hB:B ≤ W.heap.size):Kd.S d e w' B (fun k=>W.heap.size ≤ k∧k < w'.heap.size) v xs :=
 Kd.nu (Kd.Rf (Kd.Mm h) (fun _ hk=>⟨hk.2.1,hk.2.2.1⟩)) hB
def k2:Kd (Int × Int):=Kd.pair (Kd.int .i64) (Kd.int .i64)
theorem YR:k2.sz=2:=rfl
def aq (xs:List (Int × Int)) (i:Int):Int × Int:=xs.getD i.toNat (0,0)
theorem vo {xs:List (Int × Int)} {i:Nat} (h:i < xs.length):aq xs (i:Int)=xs[i]:=by simp [aq,List.getD_eq_getElem?_getD,h]
theorem xC {w:World} {x:Int × Int} {cs:List Value} (h:k2.K w x cs):cs=[.int .i64 x.1,.int .i64 x.2]:=by
 obtain ⟨c0,c1,rfl,h0,h1⟩:=h;have e0:c0=[.int .i64 x.1]:=h0;have e1:c1=[.int .i64 x.2]:=h1;rw [e0,e1]
 rfl
theorem Qw (w:World) (base:Nat) (ok:Nat→Prop) (x:Int × Int):k2.M w base ok x [.int .i64 x.1,.int .i64 x.2]:=⟨[.int .i64 x.1],[.int .i64 x.2],rfl,rfl,rfl⟩
theorem CI {w:World} {A:Option Addr} {n:Nat} {xs:List (Int × Int)} (h:Kd.C k2 w A n xs) (i:Int) (h0:0 ≤ i) (h1:i < n) :
  ∃ ad,A=some ad∧w.cell? (ad.add (i.toNat * 2))=some (.int .i64 (aq xs i).1)∧w.cell? ⟨(ad.add (i.toNat * 2)).block,(ad.add (i.toNat * 2)).off + 1,none⟩=some (.int .i64 (aq xs i).2):=by
 obtain ⟨ad,c,e,_,hK,hc⟩:=Kd.vA h (0,0) i h0 h1;obtain rfl:=xC hK;have c0:=hc 0 _ rfl;have c1:=hc 1 _ rfl;refine ⟨ad,e,c0,?_⟩;rw [← ie ad (i.toNat * 2) 1 (by omega)];exact c1
theorem zM {W:World} {e base g n cap:Nat} {ok:Nat→Prop} {xs:List (Int × Int)} (h:Kd.R k2 e W base ok (.slice (some ⟨g,0,none⟩) n cap) xs) {i:Nat} (hi:i < n) :
  W.cell? ⟨g,i * 2,none⟩=some (.int .i64 (aq xs (i:Int)).1)∧W.cell? ⟨g,i * 2 + 1,none⟩=some (.int .i64 (aq xs (i:Int)).2)∧W.frozen? ⟨g,i * 2,none⟩=false∧W.frozen? ⟨g,i * 2 + 1,none⟩=false:=by
 obtain ⟨c,_,hM,hc,hf⟩:=Kd.wh h (0,0) (i:Int) (by omega) (by omega);obtain rfl:=xC (k2.we hM);have c0:=hc 0 _ rfl;have c1:=hc 1 _ rfl;have f0:=hf 0;have f1:=hf 1;rw [Int.toNat_natCast] at c0 c1 f0 f1;exact ⟨c0,c1,f0,f1⟩
def JE (xs:List (Int × Int)) (i j:Nat) (v:Int):List (Int × Int):=xs.set i (if j=0 then (v,(aq xs (i:Int)).2) else ((aq xs (i:Int)).1,v))
theorem nG (xs:List (Int × Int)) (i j:Nat) (v:Int):(JE xs i j v).length=xs.length:=by simp [JE]
theorem RN {W:World} {e base g n cap:Nat} {ok:Nat→Prop} {xs:List (Int × Int)} (h:Kd.R k2 e W base ok (.slice (some ⟨g,0,none⟩) n cap) xs) {i j:Nat} (hi:i < n) (hj:j < 2) (v:Int) :
  Kd.R k2 e (W.setCell ⟨g,i * 2 + j,none⟩ (.int .i64 v)) base ok (.slice (some ⟨g,0,none⟩) n cap) (JE xs i j v)∧W.grownBy (W.setCell ⟨g,i * 2 + j,none⟩ (.int .i64 v)) (some g):=by
 obtain ⟨c0,c1,_,_⟩:=zM h hi;have hl:[Value.int .i64 (aq xs (i:Int)).1,.int .i64 (aq xs (i:Int)).2].length=k2.sz:=rfl
 have hs:=Kd.gp h (i:Int) (by omega) (by omega) (c:=[.int .i64 (aq xs (i:Int)).1,.int .i64 (aq xs (i:Int)).2]) (seg:=[.int .i64 v]) (j:=j) hl (fun q u hq=>by
  rw [Int.toNat_natCast]
  match q,hq with
  | 0,hq=>cases hq;exact c0
  | 1,hq=>cases hq;exact c1
  | q + 2,hq=>simp at hq) (show j + 1 ≤ 2 by omega) (x':=if j=0 then (v,(aq xs (i:Int)).2) else ((aq xs (i:Int)).1,v)) (Ag:=fun _=>False) (by
  rcases (show j=0 ∨ j=1 by omega) with rfl|rfl
  ·exact Qw _ _ _ _
  ·exact Qw _ _ _ _) (fun _ hk=>hk.elim)
 simp only [Int.toNat_natCast,YR] at hs;exact hs
theorem Cx (x y:Int) (w:World):Calls Try.prog 87 #[.agg #[.int .i64 x,.int .i64 y],.agg #[.int .i64 x,.int .i64 y]] w fun e w'=>e = .returned (.bool true)∧Below w.heap.size w w':=by
 obtain ⟨W1,hW,hB,hx,hy⟩:=dm w (.cells #[.int .i64 x,.int .i64 y] 85 (0,0)) (.cells #[.int .i64 x,.int .i64 y] 85 (0,0));have HW:=aa.mk hW;have HB:=aa.mk (Below.refl W1.heap.size W1);have FY:=aa.mk hB;have HX:=aa.mk hx;have HY:=aa.mk hy;clear hW hB hx hy;go_enter Try.func87,Try.ntmps87
 go_upto_region 1 with (fail)
 rw [← HW.out];clear HW;go_wp2
 go_loopg [5] 2 (fun gg v5 wr=>∃ i:Nat,v5 = .int .i64 i∧i ≤ 2∧2 - i ≤ gg∧aa (Below W1.heap.size W1 wr))
 case atStart=>exact ⟨0,rfl,by omega,by omega,HB⟩
 case round =>
  clear HB;(try clear HB);obtain ⟨i,rfl,hi,BA,HB⟩:=hrel;have a0:=(qa (Ua HX.out HB.out) 0).trans rfl;have a1:=(qa (Ua HX.out HB.out) 1).trans rfl;have b0:=(qa (Ua HY.out HB.out) 0).trans rfl;have b1:=(qa (Ua HY.out HB.out) 1).trans rfl
  rcases (show i=0 ∨ i=1 ∨ i=2 by omega) with rfl|rfl|rfl
  ·go_upto_region 4 with (fail)
   go_quiet (fail)
   go_wp2
   go_roundg 1
   case measure=>omega
   case rel=>exact ⟨1,rfl,by omega,by omega,⟨ga HB.out _⟩⟩
  ·go_upto_region 4 with (fail)
   go_quiet (fail)
   go_wp2
   go_roundg 0
   case measure=>omega
   case rel=>exact ⟨2,rfl,by omega,by omega,⟨ga HB.out _⟩⟩
  ·go_wp2;go_ret;exact ⟨rfl,Fa FY.out HB.out⟩
theorem Xv (A B:Option Addr) (c d:Nat) (l:List (Int × Int)) (w:World) (hA:Kd.C k2 w A l.length l) (hc:l.length ≤ c) (hB:Kd.C k2 w B l.length l) (hd:l.length ≤ d) :
  Calls Try.prog 44 #[.slice A l.length c,.slice B l.length d] w fun e w'=>e = .returned (.bool true)∧Below w.heap.size w w':=by
 have hm:=hA.2.1;have HA:=aa.mk hA;have HB:=aa.mk hB;have uE:=aa.mk (Below.refl w.heap.size w);clear hA hB;go_enter Try.func44,Try.ntmps44;go_wp2
 go_loopg [5] l.length (fun gg v5 wr=>∃ x:Int,v5 = .int .i64 x∧0 ≤ x∧x ≤ (l.length:Int)∧l.length - x.toNat ≤ gg∧aa (Below w.heap.size w wr))
 case atStart=>exact ⟨0,rfl,by omega,by omega,by omega,uE⟩
 case round =>
  clear uE;(try clear HW);obtain ⟨x,rfl,hx0,hx1,BA,HW⟩:=hrel
  by_cases hlt:x < (l.length:Int)
  ·have Xh:decide (x < (l.length:Int))=true:=decide_eq_true hlt;obtain ⟨ad,e1,a0,a1⟩:=CI (Kd.yb HA.out HW.out) x hx0 hlt;obtain ⟨bd,e2,b0,b1⟩:=CI (Kd.yb HB.out HW.out) x hx0 hlt;subst e1;subst e2;have aN:=aa.mk (ja HW.out);have jJ:=aa.mk (And.intro hx0 hlt)
   go_upto_region 6 with (fail)
   refine Pj (n:=10) (S:=fun w'=>w'.cell? (ad.add (x.toNat * 2))=some (.int .i64 (aq l x).1)∧w'.cell? ⟨(ad.add (x.toNat * 2)).block,(ad.add (x.toNat * 2)).off + 1,none⟩=some (.int .i64 (aq l x).2)∧w'.cell? (bd.add (x.toNat * 2))=some (.int .i64 (aq l x).1)∧w'.cell? ⟨(bd.add (x.toNat * 2)).block,(bd.add (x.toNat * 2)).off + 1,none⟩=some (.int .i64 (aq l x).2)) (ds:=[8]) #[false,false,false,false,false,false,false,false,false,false] (by kernel_rfl) rfl rfl ⟨a0,a1,b0,b1⟩ (fun hHeld=>?_);generalize wr.drew=wd at aN hHeld ⊢;refine Dc (i:=0) (N:=some 17) (v:=?_) (a':=?_) #[true,false,false,false,false,false,false,false,false,false] rfl rfl (by kernel_rfl) (fun _ _ _ h=>h) (Or.inl ⟨by rfl,?_⟩) ?_ ?_;rotate_left
   ·exact Rae
   rotate_left
   ·exact Qae
   refine Dc (i:=1) (N:=some 18) (v:=?_) (a':=?_) #[true,true,false,false,false,false,false,false,false,false] rfl rfl (by kernel_rfl) (fun _ _ _ h=>h) (Or.inl ⟨by rfl,?_⟩) ?_ ?_;rotate_left
   ·exact Rae
   rotate_left
   ·exact Qae
   refine Dc (i:=2) (N:=some 19) (v:=?_) (a':=?_) #[true,true,true,false,false,false,false,false,false,false] rfl rfl (by kernel_rfl) (fun _ _ _ h=>h) (Or.inl ⟨by rfl,?_⟩) ?_ ?_;rotate_left
   ·exact Rae
   rotate_left
   ·exact Qae
   refine Dc (i:=4) (N:=some 21) (v:=?_) (a':=?_) #[true,true,true,false,true,false,false,false,false,false] rfl rfl (by kernel_rfl) (fun _ _ _ h=>h) (Or.inl ⟨by rfl,?_⟩) ?_ ?_;rotate_left
   ·exact Rae
   rotate_left
   ·exact Qae
   refine Dc (i:=5) (N:=some 22) (v:=?_) (a':=?_) #[true,true,true,false,true,true,false,false,false,false] rfl rfl (by kernel_rfl) (fun _ _ _ h=>h) (Or.inl ⟨by rfl,?_⟩) ?_ ?_;rotate_left
   ·exact Rae
   rotate_left
   ·exact Qae
   refine Dc (i:=6) (N:=some 23) (v:=?_) (a':=?_) #[true,true,true,false,true,true,true,false,false,false] rfl rfl (by kernel_rfl) (fun _ _ _ h=>h) (Or.inl ⟨by rfl,?_⟩) ?_ ?_;rotate_left
   ·exact Rae
   rotate_left
   ·exact Qae
   refine ah (i:=3) (N:=some 20) (v:=?_) (a':=?_) #[true,true,true,true,true,true,true,false,false,false] rfl rfl (by kernel_rfl) (fun _ _ _ h=>h) (Or.inl ⟨by rfl,?_⟩) hHeld ?_ ?_;rotate_left
   ·rintro w' ⟨s0,s1,s2,s3⟩;go_simp;with_reducible rfl
   rotate_left
   ·exact Qae
   refine ah (i:=7) (N:=some 24) (v:=?_) (a':=?_) #[true,true,true,true,true,true,true,true,false,false] rfl rfl (by kernel_rfl) (fun _ _ _ h=>h) (Or.inl ⟨by rfl,?_⟩) hHeld ?_ ?_;rotate_left
   ·rintro w' ⟨s0,s1,s2,s3⟩;go_simp;with_reducible rfl
   rotate_left
   ·exact Qae
   refine Ts (i:=8) (N:=some 25) #[true,true,true,true,true,true,true,true,true,false] rfl rfl (by kernel_rfl) (by decide) (fun K hK=>?_);refine Oq Try.func87 (by kernel_rfl) rfl #[.agg #[.int .i64 (aq l x).1,.int .i64 (aq l x).2],.agg #[.int .i64 (aq l x).1,.int .i64 (aq l x).2]] (by rfl) rfl rfl Faf ?_;with_reducible refine (Cx _ _ wd).mono ?_
   rintro e w2 ⟨rfl,hb⟩;refine ⟨_,rfl,?_⟩;have bN:=aa.mk (Fa aN.out hb);clear hb;refine hK.out _ _ ?_;clear hK K;refine Ze (a':=?_) ?_ ?_;rotate_left
   ·show Act.put _ (some 25) _=_
    exact Qae
   refine Dc (i:=9) (N:=some 26) (v:=?_) (a':=?_) #[true,true,true,true,true,true,true,true,true,true] rfl rfl (by kernel_rfl) (fun _ _ _ h=>h) (Or.inl ⟨by rfl,?_⟩) ?_ ?_;rotate_left
   ·exact Rae
   rotate_left
   ·exact Qae
   refine Ym (by kernel_rfl) ?_;clear hHeld a0 a1 b0 b1;go_wp2
   go_roundg (l.length - (x + 1).toNat)
   case measure=>have:=jJ.out;omega
   case rel=>exact ⟨x + 1,rfl,by omega,by omega,by omega,bN⟩
  ·have Xh:decide (x < (l.length:Int))=false:=decide_eq_false hlt;go_wp2;go_ret;exact ⟨rfl,HW.out⟩
noncomputable def Cf.f (_:Nat) (l m:List (Int × Int)):Option Bool:=if l=m then some true else none
theorem Cf.calls (k:Nat) (A0:Option Addr) (c0:Nat) (l0:List (Int × Int)) (A1:Option Addr) (c1:Nat) (l1:List (Int × Int)) (r:Bool) (w:World) (Jh:Kd.C k2 w A0 l0.length l0) (hc0:l0.length ≤ c0) (hr1:Kd.C k2 w A1 l1.length l1) (hc1:l1.length ≤ c1) (h:Cf.f k l0 l1=some r) :
  Calls Try.prog 44 #[.slice A0 l0.length c0,.slice A1 l1.length c1] w fun e w'=>e = .returned (.bool r)∧Below w.heap.size w w':=by
 unfold Cf.f at h
 by_cases hq:l0=l1
 ·subst hq;rw [if_pos rfl] at h;cases h;exact Xv A0 A1 c0 c1 l0 w Jh hc0 hr1 hc1
 ·rw [if_neg hq] at h;cases h
theorem Nz (l:List (Int × Int)):Ev (fun k=>Cf.f k l l) true:=⟨0,fun k _=>by unfold Cf.f;rw [if_pos rfl]⟩
def WH (xs:List (Int × Int)) (q:Nat):Int:=if q % 2=0 then (aq xs ((q / 2:Nat):Int)).1 else (aq xs ((q / 2:Nat):Int)).2
def Jn (a:Int) (n:Nat):List (Int × Int):=(List.range n).map fun (i:Nat)=>(a + 2 * (i:Int),a + 2 * (i:Int) + 1)
theorem Hr (a:Int) (n:Nat):(Jn a n).length=n:=by simp [Jn]
theorem OK {xs:List (Int × Int)} {i j:Nat} {v:Int} (hi:i < xs.length) (hj:j < 2) (q:Nat):WH (JE xs i j v) q=if q=i * 2 + j then v else WH xs q:=by
 have hg:∀ m:Nat,aq (JE xs i j v) (m:Int)=if m=i then (if j=0 then (v,(aq xs (i:Int)).2) else ((aq xs (i:Int)).1,v)) else aq xs (m:Int):=by
  intro m;unfold JE aq;simp only [Int.toNat_natCast,List.getD_eq_getElem?_getD,List.getElem?_set]
  by_cases h:i=m
  ·subst h;simp [hi]
  ·rw [if_neg h,if_neg (fun e=>h e.symm)]
 unfold WH;rw [hg]
 rcases (show j=0 ∨ j=1 by omega) with rfl|rfl
 ·by_cases h:q / 2=i
  ·rw [if_pos h]
   by_cases h2:q % 2=0
   ·rw [if_pos h2,if_pos (show q=i * 2 + 0 by omega)];rfl
   ·rw [if_neg h2,if_neg (show ¬ q=i * 2 + 0 by omega),if_neg h2,h];rfl
  ·rw [if_neg h,if_neg (show ¬ q=i * 2 + 0 by omega)]
 ·by_cases h:q / 2=i
  ·rw [if_pos h]
   by_cases h2:q % 2=0
   ·rw [if_pos h2,if_neg (show ¬ q=i * 2 + 1 by omega),if_pos h2,h];rfl
   ·rw [if_neg h2,if_pos (show q=i * 2 + 1 by omega)];rfl
  ·rw [if_neg h,if_neg (show ¬ q=i * 2 + 1 by omega)]
theorem VH {a:Int} {n q:Nat} (h:q < 2 * n):WH (Jn a n) q=a + (q:Int):=by
 have hq:q / 2 < n:=by omega
 unfold WH;rw [vo (by rw [Hr];exact hq)];unfold Jn;rw [List.getElem_map,List.getElem_range]
 by_cases h2:q % 2=0
 ·rw [if_pos h2];simp only;omega
 ·rw [if_neg h2];simp only;omega
theorem bI {xs:List (Int × Int)} {a:Int} (h:∀ q,q < 2 * xs.length→WH xs q=a + (q:Int)):xs=Jn a xs.length:=by
 apply List.ext_getElem
 ·rw [Hr]
 ·intro i h1 h2;have p0:=h (2 * i) (by omega);have p1:=h (2 * i + 1) (by omega);have e0:(2 * i) / 2=i:=by omega
  have e1:(2 * i + 1) / 2=i:=by omega
  unfold WH at p0 p1;rw [if_pos (by omega),e0,vo h1] at p0;rw [if_neg (by omega),e1,vo h1] at p1;simp only [Jn,List.getElem_map,List.getElem_range];exact Prod.ext (by rw [p0];simp only;omega) (by rw [p1];simp only;omega)
def Qf.f (_:Nat) (l:List (Int × Int)) (a:Int):Option (Int × List (Int × Int)):=if 0 ≤ a∧a + 2 * (l.length:Int) ≤ 4611686018427387904 then some (a + 2 * (l.length:Int),Jn a l.length) else none
theorem Sv (l:List (Int × Int)) (a:Int) (h0:0 ≤ a) (h1:a + 2 * (l.length:Int) ≤ 4611686018427387904):Ev (fun k=>Qf.f k l a) (a + 2 * (l.length:Int),Jn a l.length):=⟨0,fun k _=>by unfold Qf.f;rw [if_pos ⟨h0,h1⟩]⟩
theorem Qf.calls (k:Nat) (nh:Nat→Prop) (Sd:Value) (l0:List (Int × Int)) (a1:Int) (r1:Int) (r2:List (Int × Int)) (w0 w:World) (hB:Below w0.heap.size w0 w) (uh:Kd.R k2 85 w w0.heap.size nh Sd l0) (h:Qf.f k l0 a1=some (r1,r2)) :
  Calls Try.prog 45 #[Sd,.int .i64 a1] w fun e w'=>e = .returned (.int .i64 r1)∧Kd.R k2 85 w' w0.heap.size (fun k_=>(nh k_ ∨ w.heap.size ≤ k_)) Sd r2∧Below w0.heap.size w0 w'∧Kept w w' (fun k_=>nh k_):=by
 unfold Qf.f at h
 by_cases hq:0 ≤ a1∧a1 + 2 * (l0.length:Int) ≤ 4611686018427387904
 case neg=>rw [if_neg hq] at h;cases h
 rw [if_pos hq] at h;cases h;obtain ⟨ha0,ha1⟩:=hq;obtain ⟨A,c,rfl⟩:=Kd.ic uh;have HR:=aa.mk (Kd.Db uh (Wk:=fun k_=>nh k_ ∨ w.heap.size ≤ k_) (fun k_ hk=>.inl hk));have HB:=aa.mk hB;have HK:=aa.mk (Kept.refl w (fun k_=>nh k_));have HP:=aa.mk uh.1;clear uh hB;go_enter Try.func45,Try.ntmps45;go_wp2
 go_loopg [1,5] l0.length (fun gg v1 v5 wr=>∃ (i:Nat) (xs:List (Int × Int)),v1 = .int .i64 (a1 + 2 * (i:Int))∧v5 = .int .i64 (i:Int)∧i ≤ l0.length∧l0.length - i ≤ gg∧xs.length=l0.length∧aa (∀ q,q < 2 * i→WH xs q=a1 + (q:Int))∧aa (Kd.R k2 85 wr w0.heap.size (fun k_=>nh k_ ∨ w.heap.size ≤ k_) (.slice A l0.length c) xs)∧aa (Below w0.heap.size w0 wr)∧aa (Kept w wr (fun k_=>nh k_)))
 case atStart=>exact ⟨0,l0,by simp,rfl,Nat.zero_le _,by omega,rfl,⟨fun q hq=>by omega⟩,HR,HB,HK⟩
 case round =>
  clear HR HB HK;(try clear HF);(try clear HR);(try clear HB);(try clear HK);obtain ⟨i,xs,rfl,rfl,hi,BA,hxl,HF,HR,HB,HK⟩:=hrel;have WM:=aa.mk hxl;clear hxl
  by_cases hlt:i < l0.length
  ·have Xh:decide ((i:Int) < (l0.length:Int))=true:=decide_eq_true (by omega);go_wp2
   go_loopg [1,6] 2 (fun g2 v1 v6 wz=>∃ (j:Nat) (ys:List (Int × Int)),v1 = .int .i64 (a1 + 2 * (i:Int) + (j:Int))∧v6 = .int .i64 (j:Int)∧j ≤ 2∧2 - j ≤ g2∧aa (ys.length=l0.length)∧aa (∀ q,q < 2 * i + j→WH ys q=a1 + (q:Int))∧aa (Kd.R k2 85 wz w0.heap.size (fun k_=>nh k_ ∨ w.heap.size ≤ k_) (.slice A l0.length c) ys)∧aa (Below w0.heap.size w0 wz)∧aa (Kept w wz (fun k_=>nh k_)))
   case atStart=>exact ⟨0,xs,by simp,rfl,by omega,by omega,WM,HF,HR,HB,HK⟩
   case round =>
    clear HR HB HK HF WM;(try clear qY);(try clear HF);(try clear HR);(try clear HB);(try clear HK);obtain ⟨j,ys,rfl,rfl,hj,hg2,qY,HF,HR,HB,HK⟩:=hrel
    by_cases hj2:j < 2
    ·have N0:decide ((j:Int) < 2)=true:=decide_eq_true (by omega);have p0:0 ≤ (i:Int):=by omega
     have p1:(i:Int) < (l0.length:Int):=by omega
     have p2:0 ≤ (j:Int):=by omega
     have p3:(j:Int) < 2:=by omega
     obtain ⟨g,cap,e1,sW,BK,hgc⟩:=Kd.Uh HR.out (by rw [qY.out];omega);obtain rfl:A=some ⟨g,0,none⟩:=by injection e1
     clear e1 hgc;have kJ:=aa.mk sW;have HPG:=aa.mk (HP.out g rfl);have HST:=aa.mk (RN HR.out hlt hj2 (a1 + 2 * (i:Int) + (j:Int)))
     obtain ⟨cv,hc,hf⟩:∃ cv:Value,wr.cell? ⟨g,i * 2 + j,none⟩=some cv∧wr.frozen? ⟨g,i * 2 + j,none⟩=false:=by
      obtain ⟨c0,c1,f0,f1⟩:=zM HR.out hlt
      rcases (show j=0 ∨ j=1 by omega) with rfl|rfl
      ·exact ⟨_,c0,f0⟩
      ·exact ⟨_,c1,f1⟩
     go_wp2
     go_roundg (2 - (j + 1))
     case measure=>omega
     case rel =>
      have hyl:=qY.out;refine ⟨j + 1,_,by go_num,by go_num,by omega,by omega,⟨(nG _ _ _ _).trans hyl⟩,⟨fun q hq=>?_⟩,⟨HST.out.1⟩,⟨ya HB.out kJ.out⟩,⟨HK.out.setCell (Or.inl HPG.out) _⟩⟩;rw [OK (by omega) hj2]
      by_cases e:q=i * 2 + j
      ·rw [if_pos e,e];omega
      ·rw [if_neg e];exact HF.out q (by omega)
    ·have N0:decide ((j:Int) < 2)=false:=decide_eq_false (by omega);obtain rfl:j=2:=by omega
     go_wp2
     go_roundg (l0.length - (i + 1))
     case measure=>omega
     case rel=>exact ⟨i + 1,ys,by go_num,by go_num,by omega,by omega,qY.out,⟨fun q hq=>HF.out q (by omega)⟩,HR,HB,HK⟩
  ·have Xh:decide ((i:Int) < (l0.length:Int))=false:=decide_eq_false (by omega);obtain rfl:i=l0.length:=by omega
   have HE:=aa.mk (bI (xs:=xs) (a:=a1) (fun q hq=>HF.out q (by have:=WM.out;omega)));rw [WM.out] at HE;rw [HE.out] at HR;go_wp2;go_ret;exact ⟨rfl,HR.out,HB.out,HK.out⟩
def tf.f (_:Nat) (l:List (Int × Int)) (a:Int):Option Int:=if 0 ≤ a∧a + 2 * (l.length:Int) ≤ 4611686018427387904∧l=Jn a l.length then some (a + 2 * (l.length:Int)) else none
theorem Wv (a:Int) (n:Nat) (h0:0 ≤ a) (h1:a + 2 * (n:Int) ≤ 4611686018427387904):Ev (fun k=>tf.f k (Jn a n) a) (a + 2 * (n:Int)):=⟨0,fun k _=>by unfold tf.f;rw [Hr,if_pos ⟨h0,h1,rfl⟩]⟩
theorem tf.calls (k:Nat) (A0:Option Addr) (c0:Nat) (l0:List (Int × Int)) (a1:Int) (r:Int) (w:World) (Jh:Kd.C k2 w A0 l0.length l0) (hc0:l0.length ≤ c0) (h:tf.f k l0 a1=some r) :
  Calls Try.prog 46 #[.slice A0 l0.length c0,.int .i64 a1] w fun e w'=>e = .returned (.int .i64 r)∧Below w.heap.size w w':=by
 unfold tf.f at h
 by_cases hq:0 ≤ a1∧a1 + 2 * (l0.length:Int) ≤ 4611686018427387904∧l0=Jn a1 l0.length
 case neg=>rw [if_neg hq] at h;cases h
 rw [if_pos hq] at h;cases h;obtain ⟨ha0,ha1,hl⟩:=hq;have HR:=aa.mk Jh;have HB:=aa.mk (Below.refl w.heap.size w);have HF:=aa.mk (show ∀ q,q < 2 * l0.length→WH l0 q=a1 + (q:Int) from fun q hq=>by rw [hl];exact VH hq);clear Jh hl;go_enter Try.func46,Try.ntmps46;go_wp2
 go_loopg [1,5] l0.length (fun gg v1 v5 wr=>∃ i:Nat,v1 = .int .i64 (a1 + 2 * (i:Int))∧v5 = .int .i64 (i:Int)∧i ≤ l0.length∧l0.length - i ≤ gg∧aa (Below w.heap.size w wr))
 case atStart=>exact ⟨0,by simp,rfl,Nat.zero_le _,by omega,HB⟩
 case round =>
  clear HB;(try clear HB);obtain ⟨i,rfl,rfl,hi,BA,HB⟩:=hrel
  by_cases hlt:i < l0.length
  ·have Xh:decide ((i:Int) < (l0.length:Int))=true:=decide_eq_true (by omega);go_wp2
   go_loopg [1,6] 2 (fun g2 v1 v6 wz=>∃ j:Nat,v1 = .int .i64 (a1 + 2 * (i:Int) + (j:Int))∧v6 = .int .i64 (j:Int)∧j ≤ 2∧2 - j ≤ g2∧aa (Below w.heap.size w wz))
   case atStart=>exact ⟨0,by simp,rfl,by omega,by omega,HB⟩
   case round =>
    clear HB;(try clear HB);obtain ⟨j,rfl,rfl,hj,hg2,HB⟩:=hrel;have p0:0 ≤ (i:Int):=by omega
    have p1:(i:Int) < (l0.length:Int):=by omega
    obtain ⟨ad,e1,x0,x1⟩:=CI (Kd.yb HR.out HB.out) (i:Int) p0 p1;subst e1;rw [vo hlt,Int.toNat_natCast] at x0 x1;have q0:=HF.out (2 * i) (by omega);have q1:=HF.out (2 * i + 1) (by omega);unfold WH at q0 q1;rw [if_pos (by omega),show 2 * i / 2=i by omega,vo hlt] at q0;rw [if_neg (by omega),show (2 * i + 1) / 2=i by omega,vo hlt] at q1;rw [q0,show a1 + ((2 * i:Nat):Int)=a1 + 2 * (i:Int) by omega] at x0;rw [q1,show a1 + ((2 * i + 1:Nat):Int)=a1 + 2 * (i:Int) + 1 by omega] at x1;clear q0 q1
    rcases (show j=0 ∨ j=1 ∨ j=2 by omega) with rfl|rfl|rfl
    ·have e:(a1 + 2 * (i:Int) != a1 + 2 * (i:Int) + ((0:Nat):Int))=false:=by simp
     go_wp2
     go_roundg 1
     case measure=>omega
     case rel=>exact ⟨1,by go_num,rfl,by omega,by omega,HB⟩
    ·have e:(a1 + 2 * (i:Int) + 1 != a1 + 2 * (i:Int) + ((1:Nat):Int))=false:=by simp
     go_wp2
     go_roundg 0
     case measure=>omega
     case rel=>exact ⟨2,by go_num,rfl,by omega,by omega,HB⟩
    ·go_wp2
     go_roundg (l0.length - (i + 1))
     case measure=>omega
     case rel=>exact ⟨i + 1,by go_num,by go_num,by omega,by omega,HB⟩
  ·have Xh:decide ((i:Int) < (l0.length:Int))=false:=decide_eq_false (by omega);obtain rfl:i=l0.length:=by omega
   go_wp2;go_ret;exact ⟨rfl,HB.out⟩
theorem yC:(Try.prog.info? 85).map (fun i=>(i.zero,i.size,i.bytes))=some (some (.agg #[.int .i64 0,.int .i64 0]),2,16):=by kernel_rfl
def Gn (l:List Int) (n:Int):Nat:=(l.takeWhile (fun x=>decide (x < n))).length
def jj (l:List Int) (n:Int):List Int:=if Gn l n < l.length∧rd l (Gn l n:Int)=n then l else l.take (Gn l n) ++ [n] ++ l.drop (Gn l n)
theorem om (x:Int) (l:List Int) (j:Nat):rd (x :: l) ((j + 1:Nat):Int)=rd l (j:Int):=by
 simp [rd]
theorem rK (l:List Int) (n:Int):∀ i:Nat,i ≤ l.length→(∀ j:Nat,j < i→rd l (j:Int) < n)→(i=l.length ∨ ¬ rd l (i:Int) < n)→Gn l n=i:=by
 induction l with
 | nil =>
  intro i hi _ _;simp at hi;simp [Gn,hi]
 | cons x l ih =>
  intro i hi ha hb;cases i with
  | zero =>
   have hx:¬ x < n:=by
    rcases hb with h|h
    ·simp at h
    ·simpa [rd] using h
   simp [Gn,hx]
  | succ i =>
   have hx:x < n:=by simpa [rd] using ha 0 (by omega)
   have h:=ih i (by simpa using hi) (fun j hj=>by have:=ha (j + 1) (by omega);rwa [om] at this) (by
    rcases hb with h|h
    ·exact Or.inl (by simpa using h)
    ·rw [om] at h
     exact Or.inr h)
   unfold Gn at h ⊢;simp [List.takeWhile_cons,hx,h]
def Ci.f (l0:List Int) (a1:Int):Option (List Int):=if l0.length ≤ 4398046511104 then some (jj l0 a1) else none
theorem gA {e:Nat} {W:World} {base:Nat} (h:base ≤ W.heap.size) (n:Int) (t:Nat):Kd.R (Kd.int .i64) e ((W.alloc (.cells #[.int .i64 n] t (0,0))).alloc (.cells #[] e (0,0))) base (fun _=>True) (.slice (some ⟨W.heap.size + 1,0,none⟩) 0 0) []:=by
 have h2:=xj (Kd.int .i64) e (W.alloc (.cells #[.int .i64 n] t (0,0))) base (by simp;omega)
 simpa using h2
theorem tv {e:Nat} (w:World) (base:Nat) (n:Int) (h:base ≤ w.heap.size):Kd.R (Kd.int .i64) e (w.alloc (.cells #[.int .i64 n] e (0,0))) base (fun _=>True) (.slice (some ⟨w.heap.size,0,none⟩) 1 1) [n]:=by
 refine ⟨fun _ _=>trivial,[.int .i64 n],?_,⟨rfl,fun i p hp=>?_⟩⟩
 ·have h2:=World.ownsRow_lit (base:=base) (e:=e) (size:=1) w #[.int .i64 n] 1 h (by simp [maxLen]) (by simp);exact h2
 ·cases i with
  | zero =>
   simp at hp;subst hp
   rfl
  | succ i=>simp at hp
theorem Ci.calls (nh:Nat→Prop) (Sd:Value) (l0:List Int) (a1:Int) (r:List Int) (w0 w:World) (hB:Below w0.heap.size w0 w) (uh:Kd.R (Kd.int .i64) 3 w w0.heap.size nh Sd l0) (h:Ci.f l0 a1=some r) :
  Calls Try.prog 55 #[Sd,.int .i64 a1] w fun e w'=>∃ zj:Value,e = .returned (zj)∧Kd.R (Kd.int .i64) 3 w' w0.heap.size (fun k_=>(nh k_ ∨ w.heap.size ≤ k_)) zj r∧Below w0.heap.size w0 w'∧Kept w w' (fun k_=>nh k_):=by
 unfold Ci.f at h;have hl:l0.length ≤ 4398046511104:=Decidable.byContradiction fun hn=>by rw [if_neg hn] at h;cases h
 rw [if_pos hl] at h;obtain rfl:=Option.some.inj h;obtain ⟨A,c,rfl⟩:=Kd.ic uh;obtain ⟨_,hnc,hC⟩:=Kd.Wa uh;have HO:=aa.mk uh;have uE:=aa.mk hB;have mJ:=aa.mk hC;have HL:=aa.mk hl;have hm6:l0.length ≤ 9223372036854775807:=by omega
 clear uh hB hC h hl;go_enter Try.func55,Try.ntmps55;go_wp2
 go_loopg [5] l0.length (fun gg v5 wr=>∃ i:Nat,i ≤ l0.length∧l0.length - i ≤ gg∧v5 = .int .i64 i∧aa (∀ j:Nat,j < i→rd l0 (j:Int) < a1)∧aa (Below w.heap.size w wr))
 case atStart=>exact ⟨0,Nat.zero_le _,by omega,rfl,⟨fun j hj=>absurd hj (by omega)⟩,⟨Below.refl _ _⟩⟩
 case round =>
  (try clear HA);(try clear NJ);obtain ⟨i,hi,hg,rfl,HA,NJ⟩:=hrel;have key:∀ hstop:(i=l0.length ∨ ¬ rd l0 (i:Int) < a1),Gn l0 a1=i:=fun hstop=>rK l0 a1 i hi HA.out hstop
  have HKEY:=aa.mk key;clear key
  by_cases hgo:i < l0.length∧rd l0 (i:Int) < a1
  case pos =>
   obtain ⟨hlt,hc⟩:=hgo;have Xh:decide ((i:Int) < (l0.length:Int))=true:=decide_eq_true (by omega);have p1:0 ≤ (i:Int):=by omega
   have p2:(i:Int) < (l0.length:Int):=by omega
   obtain ⟨ad,e1,hx⟩:=Kd.Ud (Kd.yb mJ.out NJ.out) (i:Int) p1 p2;subst e1;simp only [Int.toNat_natCast] at hx;have hcb:decide (rd l0 (i:Int) < a1)=true:=decide_eq_true hc;have HC:=aa.mk hc;clear hc;go_wp2
   go_roundg (l0.length - (i + 1))
   case measure=>omega
   case rel=>exact ⟨i + 1,by omega,by omega,by go_num,⟨fun j hj=>by by_cases e:j=i;(rw [e];exact HC.out);(exact HA.out j (by omega))⟩,NJ⟩
  have qV:=aa.mk (HKEY.out (by by_cases h:i < l0.length;(exact Or.inr (fun hc=>hgo ⟨h,hc⟩));(exact Or.inl (by omega))))
  by_cases pW:i < l0.length∧rd l0 (i:Int)=a1
  case pos =>
   obtain ⟨hlt,he⟩:=pW;have Xh:decide ((i:Int) < (l0.length:Int))=true:=decide_eq_true (by omega);have p1:0 ≤ (i:Int):=by omega
   have p2:(i:Int) < (l0.length:Int):=by omega
   obtain ⟨ad,e1,hx⟩:=Kd.Ud (Kd.yb mJ.out NJ.out) (i:Int) p1 p2;subst e1;simp only [Int.toNat_natCast] at hx;have hcb:decide (rd l0 (i:Int) < a1)=false:=decide_eq_false (by omega);have heb:(rd l0 (i:Int) == a1)=true:=beq_iff_eq.2 he;have HE:=aa.mk (show jj l0 a1=l0 from by unfold jj;rw [qV.out,if_pos ⟨hlt,he⟩]);clear he hgo;go_wp2;go_ret;exact ⟨_,rfl,by rw [HE.out];exact Kd.Db (Kd.Xb HO.out NJ.out) (fun _ hk=>Or.inl hk),Fa uE.out NJ.out,Kept.Wh NJ.out _⟩
  have HE:=aa.mk (show jj l0 a1=l0.take i ++ [a1] ++ l0.drop i from by unfold jj;rw [qV.out,if_neg pW]);have p1:0 ≤ (i:Int):=by omega
  have p3:(i:Int) ≤ (l0.length:Int):=by omega
  have hi0:=info3;obtain ⟨i0,hi1,hi2⟩:=Option.map_eq_some_iff.1 hi0;have U8:i0.size=1:=by simp only [Prod.mk.injEq] at hi2;exact hi2.2.1
  have GS:=KB 22 3 .i64 Try.underlying22 hi1 A l0.length c (i:Int) p1 p3 hnc;have ES:=Xu 22 3 .i64 Try.underlying22 hi1 1 U8 A l0.length c (i:Int) p1 p3;simp only [Int.toNat_natCast,Nat.mul_one] at GS ES;clear hi0 hi2 U8
  have gS:(decide ((i:Int) < (l0.length:Int))=false∧¬ i < l0.length) ∨ (decide ((i:Int) < (l0.length:Int))=true∧i < l0.length∧(i:Int) < (l0.length:Int)∧decide (rd l0 (i:Int) < a1)=false∧(rd l0 (i:Int) == a1)=false):=by
   by_cases h:i < l0.length
   ·exact Or.inr ⟨decide_eq_true (by omega),h,by omega,decide_eq_false (fun hc=>hgo ⟨h,hc⟩),beq_eq_false_iff_ne.2 (fun hc=>pW ⟨h,hc⟩)⟩
   ·exact Or.inl ⟨decide_eq_false (by omega),h⟩
  clear hgo pW
  rcases gS with ⟨Xh,hlt⟩|⟨Xh,hlt,p2,hcb,heb⟩
  ·go_upto_region 6 with (fail)
   have Sp:=aa.mk (ja NJ.out);refine Pj (n:=13) (S:=fun w'=>True) (ds:=[]) #[false,false,false,false,false,false,false,false,false,false,false,false,false] (by kernel_rfl) rfl rfl trivial (fun hHeld=>?_);generalize wr.drew=wd at Sp hHeld ⊢;refine Dc (i:=1) (N:=some 34) (v:=?_) (a':=?_) #[false,true,false,false,false,false,false,false,false,false,false,false,false] rfl rfl (by kernel_rfl) (fun _ _ _ h=>h) (Or.inl ⟨by rfl,?_⟩) ?_ ?_;rotate_left
   ·exact Rae
   rotate_left
   ·exact Qae
   refine Dc (i:=2) (N:=some 35) (v:=?_) (a':=?_) #[false,true,true,false,false,false,false,false,false,false,false,false,false] rfl rfl (by kernel_rfl) (fun _ _ _ h=>h) (Or.inl ⟨by rfl,?_⟩) ?_ ?_;rotate_left
   ·exact Rae
   rotate_left
   ·exact Qae
   refine Dc (i:=3) (N:=some 36) (v:=?_) (a':=?_) #[false,true,true,true,false,false,false,false,false,false,false,false,false] rfl rfl (by kernel_rfl) (fun _ _ _ h=>h) (Or.inl ⟨by rfl,?_⟩) ?_ ?_;rotate_left
   ·exact Rae
   rotate_left
   ·exact Qae
   refine Dc (i:=5) (N:=some 38) (v:=?_) (a':=?_) #[false,true,true,true,false,true,false,false,false,false,false,false,false] rfl rfl (by kernel_rfl) (fun _ _ _ h=>h) (Or.inl ⟨by rfl,?_⟩) ?_ ?_;rotate_left
   ·exact Rae
   rotate_left
   ·exact Qae
   refine Dc (i:=8) (N:=some 41) (v:=?_) (a':=?_) #[false,true,true,true,false,true,false,false,true,false,false,false,false] rfl rfl (by kernel_rfl) (fun _ _ _ h=>h) (Or.inl ⟨by rfl,?_⟩) ?_ ?_;rotate_left
   ·exact Rae
   rotate_left
   ·exact Qae
   refine Dc (i:=9) (N:=some 42) (v:=?_) (a':=?_) #[false,true,true,true,false,true,false,false,true,true,false,false,false] rfl rfl (by kernel_rfl) (fun _ _ _ h=>h) (Or.inl ⟨by rfl,?_⟩) ?_ ?_;rotate_left
   ·exact Rae
   rotate_left
   ·exact Qae
   refine Dc (i:=10) (N:=some 43) (v:=?_) (a':=?_) #[false,true,true,true,false,true,false,false,true,true,true,false,false] rfl rfl (by kernel_rfl) (fun _ _ _ h=>h) (Or.inl ⟨by rfl,?_⟩) ?_ ?_;rotate_left
   ·exact Rae
   rotate_left
   ·exact Qae
   refine TL (σ:=Nat × Value × Nat) 3 #[true,true,true,true,true,true,true,false,true,true,true,false,false] (fun s=>[(33,.slice (some ⟨s.1,0,none⟩) 0 0),(37,s.2.1),(39,.slice (some ⟨s.2.2,0,none⟩) 1 1)]) (fun s w'=>Below w.heap.size w w'∧Kd.R (Kd.int .i64) 3 w' w.heap.size (fun _=>True) s.2.1 (l0.take i)∧Kd.R (Kd.int .i64) 3 w' w.heap.size (fun _=>True) (.slice (some ⟨s.2.2,0,none⟩) 1 1) [a1]) ?_ ?_;rotate_left
   ·intro Pu;refine QJ (i:=0) (j:=6) (Ni:=some 33) (Nj:=some 39) #[true,true,true,true,false,true,false,false,true,true,true,false,false] #[false,true,true,true,false,true,true,false,true,true,true,false,false] rfl rfl rfl rfl (by kernel_rfl) (by decide) (by decide) (fun K hK=>?_) (fun K hK=>?_)
    ·skip
     refine Dk (w1:=?_) (v:=?_) (by rfl) rfl ?_ ?_;rotate_left 2
     ·go_simp
      constructor
      ·rfl
      ·rfl
     refine hK.out _ _ trivial (fun hHeld=>?_);clear hK K;refine Ze (a':=?_) ?_ ?_;rotate_left
     ·show Act.put _ (some 33) _=_
      exact Qae
     refine QJ (i:=4) (j:=6) (Ni:=some 37) (Nj:=some 39) #[true,true,true,true,true,true,false,false,true,true,true,false,false] #[true,true,true,true,false,true,true,false,true,true,true,false,false] rfl rfl rfl rfl (by kernel_rfl) (by decide) (by decide) (fun K hK=>?_) (fun K hK=>?_)
     ·skip
      refine Kd.Tc (Kd.int .i64) (w0:=w) w.heap.size (by rfl) (.tmp 33) (.tmp 36) 22 3 (.int .i64 0) 8 rfl Try.underlying22 info3 rfl (by decide) (by omega) (.slice (some ⟨wd.heap.size,0,none⟩) 0 0) [] (l0.take i) A i c (fun _=>True) (fun _=>False) rfl rfl (xj (Kd.int .i64) 3 wd w.heap.size Sp.out.size) ?aR (fun _ _ h=>h) (fun _ hk=>hk.elim) (fun _ _=>trivial) (ia Sp.out _) (ia Sp.out _).size (by simp;have:=HL.out;omega) ?_
      (case aR=>have h:=Kd.Ks (m:=i) (Kd.yb (w1:=wd.alloc (.cells #[] 3 (0,0))) mJ.out (ia Sp.out _)) (by omega);rw [List.length_take,Nat.min_eq_left (by omega)] at h;exact h)
      intro v1 w1 ho hb hg hat;have qE:=aa.mk ho;have Sm:=aa.mk hb;clear ho hb hg hat;refine hK.out _ _ trivial (fun hHeld=>?_);clear hK K;refine Ze (a':=?_) ?_ ?_;rotate_left
      ·show Act.put _ (some 37) _=_
       exact Qae
      refine dn (i:=6) (N:=some 39) #[true,true,true,true,true,true,true,false,true,true,true,false,false] rfl rfl (by kernel_rfl) (by decide) (fun K hK=>?_);refine Dk (w1:=?_) (v:=?_) (by rfl) rfl ?_ ?_;rotate_left 2
      ·go_simp
       constructor
       ·rfl
       ·rfl
      refine hK.out _ _ trivial (fun hHeld=>?_);clear hK K;refine Ze (a':=?_) ?_ ?_;rotate_left
      ·show Act.put _ (some 39) _=_
       exact Qae
      exact Ze Baf (Pu (wd.heap.size,v1,w1.heap.size) _ ⟨ia Sm.out _,Kd.Ka qE.out _,tv w1 w.heap.size a1 Sm.out.size⟩)
     ·skip
      refine Dk (w1:=?_) (v:=?_) (by rfl) rfl ?_ ?_;rotate_left 2
      ·go_simp
       constructor
       ·rfl
       ·rfl
      refine hK.out _ _ trivial (fun hHeld=>?_);clear hK K;refine Ze (a':=?_) ?_ ?_;rotate_left
      ·show Act.put _ (some 39) _=_
       exact Qae
      refine dn (i:=4) (N:=some 37) #[true,true,true,true,true,true,true,false,true,true,true,false,false] rfl rfl (by kernel_rfl) (by decide) (fun K hK=>?_);refine Kd.Tc (Kd.int .i64) (w0:=w) w.heap.size (by rfl) (.tmp 33) (.tmp 36) 22 3 (.int .i64 0) 8 rfl Try.underlying22 info3 rfl (by decide) (by omega) (.slice (some ⟨wd.heap.size,0,none⟩) 0 0) [] (l0.take i) A i c (fun _=>True) (fun _=>False) rfl rfl (Kd.Ka (xj (Kd.int .i64) 3 wd w.heap.size Sp.out.size) _) ?aR (fun _ _ h=>h) (fun _ hk=>hk.elim) (fun _ _=>trivial) (ia (ia Sp.out _) _) (ia (ia Sp.out _) _).size (by simp;have:=HL.out;omega) ?_
      (case aR=>have h:=Kd.Ks (m:=i) (Kd.yb (w1:=((wd.alloc (.cells #[] 3 (0,0))).alloc (.cells #[.int .i64 a1] 3 (0,0)))) mJ.out (ia (ia Sp.out _) _)) (by omega);rw [List.length_take,Nat.min_eq_left (by omega)] at h;exact h)
      intro v1 w1 ho hb hg hat;have qE:=aa.mk ho;have Sm:=aa.mk hb;have dR:=aa.mk (Kd.Db (Kd.Zq (Kd.uj rfl (show Kd.R (Kd.int .i64) 3 ((wd.alloc (.cells #[] 3 (0,0))).alloc (.cells #[.int .i64 a1] 3 (0,0))) w.heap.size (fun _=>True) (.slice (some ⟨wd.heap.size + 1,0,none⟩) 1 1) [a1] from by have h:=tv (e:=3) (wd.alloc (.cells #[] 3 (0,0))) w.heap.size a1 (by simp;have:=Sp.out.size;omega);simpa using h)) hg (fun k_ hk e=>by simp [Value.ownBlock] at hk e;omega)) (fun _ _=>(trivial:True)));clear ho hb hg hat;refine hK.out _ _ trivial (fun hHeld=>?_);clear hK K;refine Ze (a':=?_) ?_ ?_;rotate_left
      ·show Act.put _ (some 37) _=_
       exact Qae
      exact Ze Baf (Pu (wd.heap.size,v1,wd.heap.size + 1) _ ⟨Sm.out,qE.out,dR.out⟩)
    ·skip
     refine Dk (w1:=?_) (v:=?_) (by rfl) rfl ?_ ?_;rotate_left 2
     ·go_simp
      constructor
      ·rfl
      ·rfl
     refine hK.out _ _ trivial (fun hHeld=>?_);clear hK K;refine Ze (a':=?_) ?_ ?_;rotate_left
     ·show Act.put _ (some 39) _=_
      exact Qae
     refine dn (i:=0) (N:=some 33) #[true,true,true,true,false,true,true,false,true,true,true,false,false] rfl rfl (by kernel_rfl) (by decide) (fun K hK=>?_);refine Dk (w1:=?_) (v:=?_) (by rfl) rfl ?_ ?_;rotate_left 2
     ·go_simp
      constructor
      ·rfl
      ·rfl
     refine hK.out _ _ trivial (fun hHeld=>?_);clear hK K;refine Ze (a':=?_) ?_ ?_;rotate_left
     ·show Act.put _ (some 33) _=_
      exact Qae
     refine dn (i:=4) (N:=some 37) #[true,true,true,true,true,true,true,false,true,true,true,false,false] rfl rfl (by kernel_rfl) (by decide) (fun K hK=>?_);refine Kd.Tc (Kd.int .i64) (w0:=w) w.heap.size (by rfl) (.tmp 33) (.tmp 36) 22 3 (.int .i64 0) 8 rfl Try.underlying22 info3 rfl (by decide) (by omega) (.slice (some ⟨wd.heap.size + 1,0,none⟩) 0 0) [] (l0.take i) A i c (fun _=>True) (fun _=>False) rfl rfl (gA Sp.out.size a1 3) ?aR (fun _ _ h=>h) (fun _ hk=>hk.elim) (fun _ _=>trivial) (ia (ia Sp.out _) _) (ia (ia Sp.out _) _).size (by simp;have:=HL.out;omega) ?_
     (case aR=>have h:=Kd.Ks (m:=i) (Kd.yb (w1:=((wd.alloc (.cells #[.int .i64 a1] 3 (0,0))).alloc (.cells #[] 3 (0,0)))) mJ.out (ia (ia Sp.out _) _)) (by omega);rw [List.length_take,Nat.min_eq_left (by omega)] at h;exact h)
     intro v1 w1 ho hb hg hat;have qE:=aa.mk ho;have Sm:=aa.mk hb;have dR:=aa.mk (Kd.Db (Kd.Zq (Kd.uj rfl (show Kd.R (Kd.int .i64) 3 ((wd.alloc (.cells #[.int .i64 a1] 3 (0,0))).alloc (.cells #[] 3 (0,0))) w.heap.size (fun _=>True) (.slice (some ⟨wd.heap.size,0,none⟩) 1 1) [a1] from Kd.Ka (tv wd w.heap.size a1 Sp.out.size) _)) hg (fun k_ hk e=>by simp [Value.ownBlock] at hk e;omega)) (fun _ _=>(trivial:True)));clear ho hb hg hat;refine hK.out _ _ trivial (fun hHeld=>?_);clear hK K;refine Ze (a':=?_) ?_ ?_;rotate_left
     ·show Act.put _ (some 37) _=_
      exact Qae
     exact Ze Baf (Pu (wd.heap.size + 1,v1,wd.heap.size) _ ⟨Sm.out,qE.out,dR.out⟩)
   rintro ⟨s1,s2,s3⟩ W3 ⟨FP,lF,rS⟩;have hHeld:=trivial;have xp:=aa.mk FP;have Rp:=aa.mk lF;have oV:=aa.mk rS;clear FP lF rS;refine Ze (a':=?_) ?_ ?_;rotate_left
   ·simp only [Jk,Act.put,List.setIfInBounds_toArray,List.set_cons_zero,List.set_cons_succ]
    rfl
   refine dn (i:=7) (N:=some 40) #[true,true,true,true,true,true,true,true,true,true,true,false,false] rfl rfl (by kernel_rfl) (by decide) (fun K hK=>?_);refine Kd.Tc (Kd.int .i64) (w0:=w) w.heap.size (by rfl) (.tmp 37) (.tmp 39) 22 3 (.int .i64 0) 8 rfl Try.underlying22 info3 rfl (by decide) (by omega) s2 (l0.take i) [a1] (some ⟨s3,0,none⟩) 1 1 (fun _=>True) (fun _=>False) rfl rfl Rp.out ?aR (fun _ _ h=>h) (fun _ hk=>hk.elim) (fun _ _=>trivial) xp.out xp.out.size (by rw [List.length_take];have:=HL.out;omega) ?_
   (case aR=>exact (Kd.Wa oV.out).2.2)
   intro v4 w4 ho hb hg hat;have O5:=aa.mk ho;have fy:=aa.mk hb;clear ho hb hg hat Rp xp oV;refine hK.out _ _ trivial (fun hHeld=>?_);clear hK K;refine Ze (a':=?_) ?_ ?_;rotate_left
   ·show Act.put _ (some 40) _=_
    exact Qae
   refine dn (i:=11) (N:=some 44) #[true,true,true,true,true,true,true,true,true,true,true,true,false] rfl rfl (by kernel_rfl) (by decide) (fun K hK=>?_);refine Kd.Tc (Kd.int .i64) (w0:=w) w.heap.size (by rfl) (.tmp 40) (.tmp 43) 22 3 (.int .i64 0) 8 rfl Try.underlying22 info3 rfl (by decide) (by omega) v4 (l0.take i ++ [a1]) (l0.drop i) _ (l0.length - i) (c - i) (fun _=>True) (fun _=>False) rfl rfl O5.out ?Y4 (fun _ _ h=>h) (fun _ hk=>hk.elim) (fun _ _=>trivial) fy.out fy.out.size (by rw [List.length_append,List.length_take,List.length_singleton];have:=HL.out;omega) ?_
   (case Y4=>have h:=Kd.rJ (m:=i) (c:=c) (Kd.yb mJ.out fy.out) (by omega) hnc;rw [List.length_drop] at h;simp only [show (Kd.int .i64).sz=1 from rfl,Nat.mul_one,Option.map_some] at h;exact h)
   intro v5 w5 ho hb hg hat;have N5:=aa.mk ho;have oJ:=aa.mk hb;clear ho hb hg hat;refine hK.out _ _ trivial (fun hHeld=>?_);clear hK K;refine Ze (a':=?_) ?_ ?_;rotate_left
   ·show Act.put _ (some 44) _=_
    exact Qae
   refine Dc (i:=12) (N:=some 4) (v:=?_) (a':=?_) #[true,true,true,true,true,true,true,true,true,true,true,true,true] rfl rfl (by kernel_rfl) (fun _ _ _ h=>h) (Or.inl ⟨by rfl,?_⟩) ?_ ?_;rotate_left
   ·exact Rae
   rotate_left
   ·exact Qae
   refine Ym (by kernel_rfl) ?_;clear hHeld;go_wp2
   all_goals (go_ret;exact ⟨_,rfl,by rw [HE.out];exact Kd.Xc (Kd.Db (Kd.Fe N5.out) (fun _ hk=>Or.inr hk.2.1)) uE.out.size,Fa uE.out oJ.out,Kept.Wh oJ.out _⟩)
  ·obtain ⟨ad,e1,hx⟩:=Kd.Ud (Kd.yb mJ.out NJ.out) (i:Int) p1 p2;subst e1;simp only [Int.toNat_natCast] at hx
   go_upto_region 6 with (fail)
   have Sp:=aa.mk (ja NJ.out);refine Pj (n:=13) (S:=fun w'=>True) (ds:=[]) #[false,false,false,false,false,false,false,false,false,false,false,false,false] (by kernel_rfl) rfl rfl trivial (fun hHeld=>?_);generalize wr.drew=wd at Sp hHeld ⊢;refine Dc (i:=1) (N:=some 34) (v:=?_) (a':=?_) #[false,true,false,false,false,false,false,false,false,false,false,false,false] rfl rfl (by kernel_rfl) (fun _ _ _ h=>h) (Or.inl ⟨by rfl,?_⟩) ?_ ?_;rotate_left
   ·exact Rae
   rotate_left
   ·exact Qae
   refine Dc (i:=2) (N:=some 35) (v:=?_) (a':=?_) #[false,true,true,false,false,false,false,false,false,false,false,false,false] rfl rfl (by kernel_rfl) (fun _ _ _ h=>h) (Or.inl ⟨by rfl,?_⟩) ?_ ?_;rotate_left
   ·exact Rae
   rotate_left
   ·exact Qae
   refine Dc (i:=3) (N:=some 36) (v:=?_) (a':=?_) #[false,true,true,true,false,false,false,false,false,false,false,false,false] rfl rfl (by kernel_rfl) (fun _ _ _ h=>h) (Or.inl ⟨by rfl,?_⟩) ?_ ?_;rotate_left
   ·exact Rae
   rotate_left
   ·exact Qae
   refine Dc (i:=5) (N:=some 38) (v:=?_) (a':=?_) #[false,true,true,true,false,true,false,false,false,false,false,false,false] rfl rfl (by kernel_rfl) (fun _ _ _ h=>h) (Or.inl ⟨by rfl,?_⟩) ?_ ?_;rotate_left
   ·exact Rae
   rotate_left
   ·exact Qae
   refine Dc (i:=8) (N:=some 41) (v:=?_) (a':=?_) #[false,true,true,true,false,true,false,false,true,false,false,false,false] rfl rfl (by kernel_rfl) (fun _ _ _ h=>h) (Or.inl ⟨by rfl,?_⟩) ?_ ?_;rotate_left
   ·exact Rae
   rotate_left
   ·exact Qae
   refine Dc (i:=9) (N:=some 42) (v:=?_) (a':=?_) #[false,true,true,true,false,true,false,false,true,true,false,false,false] rfl rfl (by kernel_rfl) (fun _ _ _ h=>h) (Or.inl ⟨by rfl,?_⟩) ?_ ?_;rotate_left
   ·exact Rae
   rotate_left
   ·exact Qae
   refine Dc (i:=10) (N:=some 43) (v:=?_) (a':=?_) #[false,true,true,true,false,true,false,false,true,true,true,false,false] rfl rfl (by kernel_rfl) (fun _ _ _ h=>h) (Or.inl ⟨by rfl,?_⟩) ?_ ?_;rotate_left
   ·exact Rae
   rotate_left
   ·exact Qae
   refine TL (σ:=Nat × Value × Nat) 3 #[true,true,true,true,true,true,true,false,true,true,true,false,false] (fun s=>[(33,.slice (some ⟨s.1,0,none⟩) 0 0),(37,s.2.1),(39,.slice (some ⟨s.2.2,0,none⟩) 1 1)]) (fun s w'=>Below w.heap.size w w'∧Kd.R (Kd.int .i64) 3 w' w.heap.size (fun _=>True) s.2.1 (l0.take i)∧Kd.R (Kd.int .i64) 3 w' w.heap.size (fun _=>True) (.slice (some ⟨s.2.2,0,none⟩) 1 1) [a1]) ?_ ?_;rotate_left
   ·intro Pu;refine QJ (i:=0) (j:=6) (Ni:=some 33) (Nj:=some 39) #[true,true,true,true,false,true,false,false,true,true,true,false,false] #[false,true,true,true,false,true,true,false,true,true,true,false,false] rfl rfl rfl rfl (by kernel_rfl) (by decide) (by decide) (fun K hK=>?_) (fun K hK=>?_)
    ·skip
     refine Dk (w1:=?_) (v:=?_) (by rfl) rfl ?_ ?_;rotate_left 2
     ·go_simp
      constructor
      ·rfl
      ·rfl
     refine hK.out _ _ trivial (fun hHeld=>?_);clear hK K;refine Ze (a':=?_) ?_ ?_;rotate_left
     ·show Act.put _ (some 33) _=_
      exact Qae
     refine QJ (i:=4) (j:=6) (Ni:=some 37) (Nj:=some 39) #[true,true,true,true,true,true,false,false,true,true,true,false,false] #[true,true,true,true,false,true,true,false,true,true,true,false,false] rfl rfl rfl rfl (by kernel_rfl) (by decide) (by decide) (fun K hK=>?_) (fun K hK=>?_)
     ·skip
      refine Kd.Tc (Kd.int .i64) (w0:=w) w.heap.size (by rfl) (.tmp 33) (.tmp 36) 22 3 (.int .i64 0) 8 rfl Try.underlying22 info3 rfl (by decide) (by omega) (.slice (some ⟨wd.heap.size,0,none⟩) 0 0) [] (l0.take i) (some ad) i c (fun _=>True) (fun _=>False) rfl rfl (xj (Kd.int .i64) 3 wd w.heap.size Sp.out.size) ?aR (fun _ _ h=>h) (fun _ hk=>hk.elim) (fun _ _=>trivial) (ia Sp.out _) (ia Sp.out _).size (by simp;have:=HL.out;omega) ?_
      (case aR=>have h:=Kd.Ks (m:=i) (Kd.yb (w1:=wd.alloc (.cells #[] 3 (0,0))) mJ.out (ia Sp.out _)) (by omega);rw [List.length_take,Nat.min_eq_left (by omega)] at h;exact h)
      intro v1 w1 ho hb hg hat;have qE:=aa.mk ho;have Sm:=aa.mk hb;clear ho hb hg hat;refine hK.out _ _ trivial (fun hHeld=>?_);clear hK K;refine Ze (a':=?_) ?_ ?_;rotate_left
      ·show Act.put _ (some 37) _=_
       exact Qae
      refine dn (i:=6) (N:=some 39) #[true,true,true,true,true,true,true,false,true,true,true,false,false] rfl rfl (by kernel_rfl) (by decide) (fun K hK=>?_);refine Dk (w1:=?_) (v:=?_) (by rfl) rfl ?_ ?_;rotate_left 2
      ·go_simp
       constructor
       ·rfl
       ·rfl
      refine hK.out _ _ trivial (fun hHeld=>?_);clear hK K;refine Ze (a':=?_) ?_ ?_;rotate_left
      ·show Act.put _ (some 39) _=_
       exact Qae
      exact Ze Baf (Pu (wd.heap.size,v1,w1.heap.size) _ ⟨ia Sm.out _,Kd.Ka qE.out _,tv w1 w.heap.size a1 Sm.out.size⟩)
     ·skip
      refine Dk (w1:=?_) (v:=?_) (by rfl) rfl ?_ ?_;rotate_left 2
      ·go_simp
       constructor
       ·rfl
       ·rfl
      refine hK.out _ _ trivial (fun hHeld=>?_);clear hK K;refine Ze (a':=?_) ?_ ?_;rotate_left
      ·show Act.put _ (some 39) _=_
       exact Qae
      refine dn (i:=4) (N:=some 37) #[true,true,true,true,true,true,true,false,true,true,true,false,false] rfl rfl (by kernel_rfl) (by decide) (fun K hK=>?_);refine Kd.Tc (Kd.int .i64) (w0:=w) w.heap.size (by rfl) (.tmp 33) (.tmp 36) 22 3 (.int .i64 0) 8 rfl Try.underlying22 info3 rfl (by decide) (by omega) (.slice (some ⟨wd.heap.size,0,none⟩) 0 0) [] (l0.take i) (some ad) i c (fun _=>True) (fun _=>False) rfl rfl (Kd.Ka (xj (Kd.int .i64) 3 wd w.heap.size Sp.out.size) _) ?aR (fun _ _ h=>h) (fun _ hk=>hk.elim) (fun _ _=>trivial) (ia (ia Sp.out _) _) (ia (ia Sp.out _) _).size (by simp;have:=HL.out;omega) ?_
      (case aR=>have h:=Kd.Ks (m:=i) (Kd.yb (w1:=((wd.alloc (.cells #[] 3 (0,0))).alloc (.cells #[.int .i64 a1] 3 (0,0)))) mJ.out (ia (ia Sp.out _) _)) (by omega);rw [List.length_take,Nat.min_eq_left (by omega)] at h;exact h)
      intro v1 w1 ho hb hg hat;have qE:=aa.mk ho;have Sm:=aa.mk hb;have dR:=aa.mk (Kd.Db (Kd.Zq (Kd.uj rfl (show Kd.R (Kd.int .i64) 3 ((wd.alloc (.cells #[] 3 (0,0))).alloc (.cells #[.int .i64 a1] 3 (0,0))) w.heap.size (fun _=>True) (.slice (some ⟨wd.heap.size + 1,0,none⟩) 1 1) [a1] from by have h:=tv (e:=3) (wd.alloc (.cells #[] 3 (0,0))) w.heap.size a1 (by simp;have:=Sp.out.size;omega);simpa using h)) hg (fun k_ hk e=>by simp [Value.ownBlock] at hk e;omega)) (fun _ _=>(trivial:True)));clear ho hb hg hat;refine hK.out _ _ trivial (fun hHeld=>?_);clear hK K;refine Ze (a':=?_) ?_ ?_;rotate_left
      ·show Act.put _ (some 37) _=_
       exact Qae
      exact Ze Baf (Pu (wd.heap.size,v1,wd.heap.size + 1) _ ⟨Sm.out,qE.out,dR.out⟩)
    ·skip
     refine Dk (w1:=?_) (v:=?_) (by rfl) rfl ?_ ?_;rotate_left 2
     ·go_simp
      constructor
      ·rfl
      ·rfl
     refine hK.out _ _ trivial (fun hHeld=>?_);clear hK K;refine Ze (a':=?_) ?_ ?_;rotate_left
     ·show Act.put _ (some 39) _=_
      exact Qae
     refine dn (i:=0) (N:=some 33) #[true,true,true,true,false,true,true,false,true,true,true,false,false] rfl rfl (by kernel_rfl) (by decide) (fun K hK=>?_);refine Dk (w1:=?_) (v:=?_) (by rfl) rfl ?_ ?_;rotate_left 2
     ·go_simp
      constructor
      ·rfl
      ·rfl
     refine hK.out _ _ trivial (fun hHeld=>?_);clear hK K;refine Ze (a':=?_) ?_ ?_;rotate_left
     ·show Act.put _ (some 33) _=_
      exact Qae
     refine dn (i:=4) (N:=some 37) #[true,true,true,true,true,true,true,false,true,true,true,false,false] rfl rfl (by kernel_rfl) (by decide) (fun K hK=>?_);refine Kd.Tc (Kd.int .i64) (w0:=w) w.heap.size (by rfl) (.tmp 33) (.tmp 36) 22 3 (.int .i64 0) 8 rfl Try.underlying22 info3 rfl (by decide) (by omega) (.slice (some ⟨wd.heap.size + 1,0,none⟩) 0 0) [] (l0.take i) (some ad) i c (fun _=>True) (fun _=>False) rfl rfl (gA Sp.out.size a1 3) ?aR (fun _ _ h=>h) (fun _ hk=>hk.elim) (fun _ _=>trivial) (ia (ia Sp.out _) _) (ia (ia Sp.out _) _).size (by simp;have:=HL.out;omega) ?_
     (case aR=>have h:=Kd.Ks (m:=i) (Kd.yb (w1:=((wd.alloc (.cells #[.int .i64 a1] 3 (0,0))).alloc (.cells #[] 3 (0,0)))) mJ.out (ia (ia Sp.out _) _)) (by omega);rw [List.length_take,Nat.min_eq_left (by omega)] at h;exact h)
     intro v1 w1 ho hb hg hat;have qE:=aa.mk ho;have Sm:=aa.mk hb;have dR:=aa.mk (Kd.Db (Kd.Zq (Kd.uj rfl (show Kd.R (Kd.int .i64) 3 ((wd.alloc (.cells #[.int .i64 a1] 3 (0,0))).alloc (.cells #[] 3 (0,0))) w.heap.size (fun _=>True) (.slice (some ⟨wd.heap.size,0,none⟩) 1 1) [a1] from Kd.Ka (tv wd w.heap.size a1 Sp.out.size) _)) hg (fun k_ hk e=>by simp [Value.ownBlock] at hk e;omega)) (fun _ _=>(trivial:True)));clear ho hb hg hat;refine hK.out _ _ trivial (fun hHeld=>?_);clear hK K;refine Ze (a':=?_) ?_ ?_;rotate_left
     ·show Act.put _ (some 37) _=_
      exact Qae
     exact Ze Baf (Pu (wd.heap.size + 1,v1,wd.heap.size) _ ⟨Sm.out,qE.out,dR.out⟩)
   rintro ⟨s1,s2,s3⟩ W3 ⟨FP,lF,rS⟩;have hHeld:=trivial;have xp:=aa.mk FP;have Rp:=aa.mk lF;have oV:=aa.mk rS;clear FP lF rS;refine Ze (a':=?_) ?_ ?_;rotate_left
   ·simp only [Jk,Act.put,List.setIfInBounds_toArray,List.set_cons_zero,List.set_cons_succ]
    rfl
   refine dn (i:=7) (N:=some 40) #[true,true,true,true,true,true,true,true,true,true,true,false,false] rfl rfl (by kernel_rfl) (by decide) (fun K hK=>?_);refine Kd.Tc (Kd.int .i64) (w0:=w) w.heap.size (by rfl) (.tmp 37) (.tmp 39) 22 3 (.int .i64 0) 8 rfl Try.underlying22 info3 rfl (by decide) (by omega) s2 (l0.take i) [a1] (some ⟨s3,0,none⟩) 1 1 (fun _=>True) (fun _=>False) rfl rfl Rp.out ?aR (fun _ _ h=>h) (fun _ hk=>hk.elim) (fun _ _=>trivial) xp.out xp.out.size (by rw [List.length_take];have:=HL.out;omega) ?_
   (case aR=>exact (Kd.Wa oV.out).2.2)
   intro v4 w4 ho hb hg hat;have O5:=aa.mk ho;have fy:=aa.mk hb;clear ho hb hg hat Rp xp oV;refine hK.out _ _ trivial (fun hHeld=>?_);clear hK K;refine Ze (a':=?_) ?_ ?_;rotate_left
   ·show Act.put _ (some 40) _=_
    exact Qae
   refine dn (i:=11) (N:=some 44) #[true,true,true,true,true,true,true,true,true,true,true,true,false] rfl rfl (by kernel_rfl) (by decide) (fun K hK=>?_);refine Kd.Tc (Kd.int .i64) (w0:=w) w.heap.size (by rfl) (.tmp 40) (.tmp 43) 22 3 (.int .i64 0) 8 rfl Try.underlying22 info3 rfl (by decide) (by omega) v4 (l0.take i ++ [a1]) (l0.drop i) _ (l0.length - i) (c - i) (fun _=>True) (fun _=>False) rfl rfl O5.out ?Y4 (fun _ _ h=>h) (fun _ hk=>hk.elim) (fun _ _=>trivial) fy.out fy.out.size (by rw [List.length_append,List.length_take,List.length_singleton];have:=HL.out;omega) ?_
   (case Y4=>have h:=Kd.rJ (m:=i) (c:=c) (Kd.yb mJ.out fy.out) (by omega) hnc;rw [List.length_drop] at h;simp only [show (Kd.int .i64).sz=1 from rfl,Nat.mul_one,Option.map_some] at h;exact h)
   intro v5 w5 ho hb hg hat;have N5:=aa.mk ho;have oJ:=aa.mk hb;clear ho hb hg hat;refine hK.out _ _ trivial (fun hHeld=>?_);clear hK K;refine Ze (a':=?_) ?_ ?_;rotate_left
   ·show Act.put _ (some 44) _=_
    exact Qae
   refine Dc (i:=12) (N:=some 4) (v:=?_) (a':=?_) #[true,true,true,true,true,true,true,true,true,true,true,true,true] rfl rfl (by kernel_rfl) (fun _ _ _ h=>h) (Or.inl ⟨by rfl,?_⟩) ?_ ?_;rotate_left
   ·exact Rae
   rotate_left
   ·exact Qae
   refine Ym (by kernel_rfl) ?_;clear hHeld;go_wp2
   all_goals (go_ret;exact ⟨_,rfl,by rw [HE.out];exact Kd.Xc (Kd.Db (Kd.Fe N5.out) (fun _ hk=>Or.inr hk.2.1)) uE.out.size,Fa uE.out oJ.out,Kept.Wh oJ.out _⟩)
theorem Fu:∀ (l1 l2:List Int),l1.Pairwise (· < ·)→l2.Pairwise (· < ·)→(∀ x,x ∈ l1 ↔ x ∈ l2)→l1=l2:=by
 intro l1
 induction l1 with
 | nil =>
  intro l2 _ _ h;cases l2 with
  | nil=>rfl
  | cons y l2=>exact absurd ((h y).2 (by simp)) (by simp)
 | cons x l1 ih =>
  intro l2 h1 h2 h;cases l2 with
  | nil=>exact absurd ((h x).1 (by simp)) (by simp)
  | cons y l2 =>
   obtain ⟨a1,a2⟩:=List.pairwise_cons.1 h1;obtain ⟨b1,b2⟩:=List.pairwise_cons.1 h2
   have e:x=y:=by
    rcases List.mem_cons.1 ((h x).1 (by simp)) with e|e
    ·exact e
    ·rcases List.mem_cons.1 ((h y).2 (by simp)) with e2|e2
     ·exact e2.symm
     ·have:=a1 y e2;have:=b1 x e;omega
   subst e
   congr 1
   refine ih l2 a2 b2 (fun z=>?_)
   constructor
   ·intro hz
    rcases List.mem_cons.1 ((h z).1 (List.mem_cons_of_mem _ hz)) with e|e
    ·have:=a1 z hz;omega
    ·exact e
   ·intro hz
    rcases List.mem_cons.1 ((h z).2 (List.mem_cons_of_mem _ hz)) with e|e
    ·have:=b1 z hz;omega
    ·exact e
theorem gv (n:Int):jj [] n=[n]:=by simp [jj,Gn]
theorem Cs (x:Int) (l:List Int) (n:Int):jj (x :: l) n=if x < n then x :: jj l n else if x=n then x :: l else n :: x :: l:=by
 unfold jj
 by_cases h:x < n
 ·have e:Gn (x :: l) n=Gn l n + 1:=by unfold Gn;simp [List.takeWhile_cons,h]
  rw [e,if_pos h,om]
  by_cases h2:Gn l n < l.length∧rd l (Gn l n:Int)=n
  ·rw [if_pos h2,if_pos ⟨by simp;omega,h2.2⟩]
  ·rw [if_neg h2,if_neg (fun hc=>h2 ⟨by have:=hc.1;simp at this;omega,hc.2⟩)];simp
 ·have e:Gn (x :: l) n=0:=by unfold Gn;simp [List.takeWhile_cons,h]
  rw [e,if_neg h];have er:rd (x :: l) ((0:Nat):Int)=x:=rfl;rw [er]
  by_cases h2:x=n
  ·rw [if_pos h2,if_pos ⟨by simp,h2⟩]
  ·rw [if_neg h2,if_neg (fun hc=>h2 hc.2)];simp
theorem bA (l:List Int) (n x:Int):x ∈ jj l n ↔ x=n ∨ x ∈ l:=by
 induction l with
 | nil=>simp [gv]
 | cons y l ih =>
  rw [Cs]
  split
  ·rw [List.mem_cons,ih,List.mem_cons]
   constructor
   ·rintro (h|h|h)
    ·exact Or.inr (Or.inl h)
    ·exact Or.inl h
    ·exact Or.inr (Or.inr h)
   ·rintro (h|h|h)
    ·exact Or.inr (Or.inl h)
    ·exact Or.inl h
    ·exact Or.inr (Or.inr h)
  ·split
   ·rename_i h;subst h;simp
   ·simp
theorem bL (l:List Int) (n:Int) (h:l.Pairwise (· < ·)):(jj l n).Pairwise (· < ·):=by
 induction l with
 | nil=>simp [gv]
 | cons y l ih =>
  obtain ⟨h1,h2⟩:=List.pairwise_cons.1 h;rw [Cs]
  split
  ·rename_i hy;refine List.pairwise_cons.2 ⟨fun z hz=>?_,ih h2⟩
   rcases (bA _ _ _).1 hz with e|e
   ·omega
   ·exact h1 z e
  ·split
   ·exact h
   ·refine List.pairwise_cons.2 ⟨fun z hz=>?_,h⟩
    rcases List.mem_cons.1 hz with e|e
    ·omega
    ·have:=h1 z e;omega
theorem cA (l:List Int) (n:Int):(jj l n).length ≤ l.length + 1:=by
 induction l with
 | nil=>simp [gv]
 | cons y l ih =>
  rw [Cs]
  split
  ·simp;exact ih
  ·split <;> simp
theorem Yu (d:Array Int) (hd:∀ i j:Nat,i ≤ j→j < d.size→d[i]! ≤ d[j]!):∀ m:Nat,m ≤ d.size→(Go.Lib.compactUpTo d m).Pairwise (· < ·)∧∀ x,x ∈ Go.Lib.compactUpTo d m ↔ ∃ j,j < m∧d[j]! = x:=by
 intro m
 induction m with
 | zero =>
  intro _;simp [Go.Lib.compactUpTo]
 | succ m ih =>
  intro hm;obtain ⟨h1,h2⟩:=ih (by omega);rw [Go.Lib.compactUpTo_succ]
  by_cases hk:Go.Lib.keeps d m=true
  ·rw [if_pos hk];have hk2:m=0 ∨ d[m]! ≠ d[m - 1]!:=by simpa [Go.Lib.keeps] using hk
   refine ⟨List.pairwise_append.2 ⟨h1,by simp,fun a ha b hb=>?_⟩,fun x=>?_⟩
   ·rw [List.mem_singleton] at hb;subst hb;obtain ⟨j,hj,rfl⟩:=(h2 a).1 ha;have e1:=hd j (m - 1) (by omega) (by omega);have e2:=hd (m - 1) m (by omega) (by omega)
    rcases hk2 with e|e
    ·omega
    ·omega
   ·rw [List.mem_append,h2,List.mem_singleton]
    constructor
    ·rintro (⟨j,hj,e⟩|e)
     ·exact ⟨j,by omega,e⟩
     ·exact ⟨m,by omega,e.symm⟩
    ·rintro ⟨j,hj,e⟩
     by_cases hjm:j=m
     ·subst hjm;exact Or.inr e.symm
     ·exact Or.inl ⟨j,by omega,e⟩
  ·rw [if_neg hk,List.append_nil];refine ⟨h1,fun x=>?_⟩;rw [h2]
   have hk2:m ≠ 0∧d[m]! = d[m - 1]!:=by
    have:¬ (m=0 ∨ d[m]! ≠ d[m - 1]!):=by simpa [Go.Lib.keeps] using hk
    exact ⟨fun e=>this (Or.inl e),Decidable.byContradiction fun e=>this (Or.inr e)⟩
   constructor
   ·rintro ⟨j,hj,e⟩;exact ⟨j,by omega,e⟩
   ·rintro ⟨j,hj,e⟩
    by_cases hjm:j=m
    ·subst hjm;exact ⟨j - 1,by omega,by rw [← hk2.2];exact e⟩
    ·exact ⟨j,by omega,e⟩
theorem Pk (l:List Int):(Lh l).Pairwise (· < ·)∧∀ x,x ∈ Lh l ↔ x ∈ l:=by
 have hp:(l.mergeSort fun x y=>decide (x ≤ y)).Pairwise (fun a b=>decide (a ≤ b)=true):=List.pairwise_mergeSort (le:=fun x y:Int=>decide (x ≤ y)) (fun a b c h1 h2=>by simp at h1 h2 ⊢;omega) (fun a b=>by simp;omega) l;have hm:∀ x,x ∈ (l.mergeSort fun x y=>decide (x ≤ y)) ↔ x ∈ l:=fun x=>List.mem_mergeSort
 unfold Lh;generalize (l.mergeSort fun x y=>decide (x ≤ y))=s at hp hm
 have hd:∀ i j:Nat,i ≤ j→j < s.toArray.size→s.toArray[i]! ≤ s.toArray[j]!:=by
  intro i j hij hj;have hj':j < s.length:=by simpa using hj
  rcases Nat.lt_or_ge i j with h|h
  ·have:=List.pairwise_iff_getElem.1 hp i j (by omega) hj' h
   simpa [show i < s.length by omega,hj'] using this
  ·obtain rfl:i=j:=by omega
   exact Int.le_refl _
 obtain ⟨h1,h2⟩:=Yu s.toArray hd s.length (by simp);refine ⟨h1,fun x=>?_⟩;rw [← hm];refine (h2 x).trans ?_;rw [List.mem_iff_getElem]
 constructor
 ·rintro ⟨j,hj,e⟩;exact ⟨j,hj,by simpa [hj] using e⟩
 ·rintro ⟨j,hj,e⟩;exact ⟨j,hj,by simpa [hj] using e⟩
theorem Ys (l:List Int):(Lh l).length ≤ l.length:=by
 unfold Lh;have:=Xs (l.mergeSort fun x y=>decide (x ≤ y))
 rwa [List.length_mergeSort] at this
theorem DI (l:List Int):l.foldl jj []=Lh l:=by
 obtain ⟨h1,h2⟩:=Pk l
 have key:∀ (l a:List Int),a.Pairwise (· < ·)→(l.foldl jj a).Pairwise (· < ·)∧∀ x,x ∈ l.foldl jj a ↔ x ∈ a ∨ x ∈ l:=by
  intro l
  induction l with
  | nil=>intro a ha;exact ⟨ha,fun x=>by simp⟩
  | cons y l ih =>
   intro a ha;obtain ⟨k1,k2⟩:=ih (jj a y) (bL a y ha);refine ⟨k1,fun x=>?_⟩;rw [List.foldl_cons,k2,bA,List.mem_cons]
   constructor
   ·rintro ((h|h)|h)
    ·exact Or.inr (Or.inl h)
    ·exact Or.inl h
    ·exact Or.inr (Or.inr h)
   ·rintro (h|h|h)
    ·exact Or.inl (Or.inr h)
    ·exact Or.inl (Or.inl h)
    ·exact Or.inr h
 obtain ⟨k1,k2⟩:=key l [] List.Pairwise.nil;exact Fu _ _ k1 h1 (fun x=>by rw [k2,h2];simp)
theorem Pq (l a:List Int):(l.foldl jj a).length ≤ a.length + l.length:=by
 induction l generalizing a with
 | nil=>simp
 | cons y l ih =>
  have h1:=ih (jj a y);have h2:=cA a y;simp only [List.foldl_cons,List.length_cons];omega
attribute [local go_sem] Hg Fg Nh Mh cg bg Gg Eg
def Ye.f (Ma:List (Zb)) (Pa:Int) (Qa:Int) (Oa:Int) (Wc:Int):Option (List Int):=if Pa=0 then (some (([Oa]:List Int))) else (if Pa=1 then (some (([Oa,Wc]:List Int))) else (some (([]:List Int))))
theorem Ye.calls (Bb:Option Addr) (Ab:Nat) (Ma:List (Zb)) (Pa:Int) (Qa:Int) (Oa:Int) (Wc:Int) (r:List Int) (w:World) (od:Kd.C fe w Bb Ma.length Ma) (Nd:Ma.length ≤ Ab) (h:Ye.f Ma Pa Qa Oa Wc=some r) :
  Calls Try.prog 85 #[.agg #[.slice Bb Ma.length Ab,.int .i64 Pa,.int .i64 Qa,.int .i64 Oa,.int .i64 Wc]] w fun e w'=>∃ zj:Value,e = .returned (zj)∧Kd.R (Kd.int .i64) 3 w' w.heap.size (fun _=>True) zj r∧Below w.heap.size w w':=by
 have mB:=Try.underlying83;have Qg:=aa.mk od;have Sg:=aa.mk Nd;clear od Nd;have HB:=aa.mk (Below.refl w.heap.size w);have H:(if Pa=0 then (some (([Oa]:List Int))) else (if Pa=1 then (some (([Oa,Wc]:List Int))) else (some (([]:List Int)))))=some r:=h;clear h
 by_cases c2:Pa=0
 ·rw [if_pos c2] at H;have Jm:=beq_iff_eq.mpr c2;have Ro:=bne_eq_false_iff_eq.mpr c2;clear c2;obtain ⟨Dd,Ue⟩:∃ y_:List Int,y_=(([Oa]:List Int)):=⟨_,rfl⟩;replace H:(some Dd)=some r:=by first|(rw [Ue];with_reducible exact H)|(have Mc:=(Option.bind_some _ _).symm.trans H;rw [Ue];with_reducible exact Mc)|(have Mc:=(Option.bind_some _ _).symm.trans H;with_reducible exact Mc)|with_reducible exact H|(rw [Ue];exact H)|exact H
  have ji:=aa.mk Ue;clear Ue;obtain rfl:=Option.some.inj H;go_enter Try.func85,Try.ntmps85;go_wp2_with (first|((with_reducible refine Lb (N:=1) rfl ?_);refine Jc ?hg (N:=1) ?hd (cs:=#[.slice Bb Ma.length Ab,.int .i64 Pa,.int .i64 Qa,.int .i64 Oa,.int .i64 Wc]) (t:=83) ?hr ?_;(case hd|hg=>rfl);(case hr=>exact Vae);intro Ja hg w3 qd hb;have Kb:=aa.mk (Fa Yae hb);have Ob:=aa.mk (qd);have fc:=aa.mk ((by rw [hg];exact (Ra Yae):w.heap.size ≤ Ja));have Sc:=aa.mk ((by rw [hg];exact (Ra Yae):w.heap.size ≤ Ja));clear HB;have HB:=Kb;have ta:=Ob;have Af:=fc;have mb:=Sc;clear Kb Ob fc Sc hb qd hg;have yP:w3.cell? ⟨Ja,0,none⟩=some (.slice Bb Ma.length Ab):=(qa ta.out 0).trans rfl;have xP:w3.cell? ⟨Ja,1,none⟩=some (.int .i64 Pa):=(qa ta.out 1).trans rfl;have wP:w3.cell? ⟨Ja,2,none⟩=some (.int .i64 Qa):=(qa ta.out 2).trans rfl;have vP:w3.cell? ⟨Ja,3,none⟩=some (.int .i64 Oa):=(qa ta.out 3).trans rfl;have uP:w3.cell? ⟨Ja,4,none⟩=some (.int .i64 Wc):=(qa ta.out 4).trans rfl;have bP:=Aa ta.out 0;have ZO:=Aa ta.out 1;have YO:=Aa ta.out 2;have XO:=Aa ta.out 3;have WO:=Aa ta.out 4)|((with_reducible refine Lb (N:=9) rfl ?_);refine Kd.jk (Kd.int .i64) _ 3 ?hg (N:=9) ?hd (xs:=([Oa]:List Int)) (inner:=[.int .i64 Oa]) (ok:=fun _=>True) (Ag:=fun _=>True) ?hr ?hp (fun _ hk=>hk) trivial (Below.refl _ _) (Nat.le_refl _) (by simp) ?_;(case hd|hg=>rfl);(case hr=>exact Vae);(case hp=>exact (Fc.one (show Kd.M (Kd.int .i64) _ _ _ Oa [.int .i64 Oa] from rfl) (Fc.none _ _)));intro Ng w5 ez hb Hl Je;clear Hl Je;(first|rw [← ji.out] at ez|(simp only [Int.reduceToNat] at ez;rw [← ji.out] at ez));have Kb:=aa.mk (Kd.Xc ez (Ra Xae));have Ob:=aa.mk (Ua (g:=Ja) (o:=.cells #[.slice Bb Ma.length Ab,.int .i64 Pa,.int .i64 Qa,.int .i64 Oa,.int .i64 Wc] 83 (0,0)) Zae hb);have fc:=aa.mk (Fa Xae hb);clear ta HB;have Pe:=Kb;have ta:=Ob;have HB:=fc;clear Kb Ob fc hb ez));go_ret;exact ⟨_,eaf,Haf,aaf⟩
 ·rw [if_neg c2] at H;have Jm:=beq_eq_false_iff_ne.mpr c2;have Ro:=bne_iff_ne.mpr c2
  by_cases c7:Pa=1
  ·rw [if_pos c7] at H;have Zr:=beq_iff_eq.mpr c7;have nI:=bne_eq_false_iff_eq.mpr c7;clear c7;obtain ⟨Yc,Ff⟩:∃ y_:List Int,y_=(([Oa,Wc]:List Int)):=⟨_,rfl⟩;replace H:(some Yc)=some r:=by first|(rw [Ff];with_reducible exact H)|(have Mc:=(Option.bind_some _ _).symm.trans H;rw [Ff];with_reducible exact Mc)|(have Mc:=(Option.bind_some _ _).symm.trans H;with_reducible exact Mc)|with_reducible exact H|(rw [Ff];exact H)|exact H
   have zl:=aa.mk Ff;clear Ff;obtain rfl:=Option.some.inj H;go_enter Try.func85,Try.ntmps85;go_wp2_with (first|((with_reducible refine Lb (N:=1) rfl ?_);refine Jc ?hg (N:=1) ?hd (cs:=#[.slice Bb Ma.length Ab,.int .i64 Pa,.int .i64 Qa,.int .i64 Oa,.int .i64 Wc]) (t:=83) ?hr ?_;(case hd|hg=>rfl);(case hr=>exact Vae);intro Ja hg w8 qd hb;have Kb:=aa.mk (Fa Yae hb);have Ob:=aa.mk (qd);have fc:=aa.mk ((by rw [hg];exact (Ra Yae):w.heap.size ≤ Ja));have Sc:=aa.mk ((by rw [hg];exact (Ra Yae):w.heap.size ≤ Ja));clear HB;have HB:=Kb;have ta:=Ob;have Af:=fc;have mb:=Sc;clear Kb Ob fc Sc hb qd hg;have ak:w8.cell? ⟨Ja,0,none⟩=some (.slice Bb Ma.length Ab):=(qa ta.out 0).trans rfl;have Zj:w8.cell? ⟨Ja,1,none⟩=some (.int .i64 Pa):=(qa ta.out 1).trans rfl;have Yj:w8.cell? ⟨Ja,2,none⟩=some (.int .i64 Qa):=(qa ta.out 2).trans rfl;have Xj:w8.cell? ⟨Ja,3,none⟩=some (.int .i64 Oa):=(qa ta.out 3).trans rfl;have Wj:w8.cell? ⟨Ja,4,none⟩=some (.int .i64 Wc):=(qa ta.out 4).trans rfl;have Vj:=Aa ta.out 0;have Uj:=Aa ta.out 1;have Tj:=Aa ta.out 2;have Sj:=Aa ta.out 3;have Rj:=Aa ta.out 4)|((with_reducible refine Lb (N:=16) rfl ?_);refine Kd.jk (Kd.int .i64) _ 3 ?hg (N:=16) ?hd (xs:=([Oa,Wc]:List Int)) (inner:=[.int .i64 Oa,.int .i64 Wc]) (ok:=fun _=>True) (Ag:=fun _=>True) ?hr ?hp (fun _ hk=>hk) trivial (Below.refl _ _) (Nat.le_refl _) (by simp) ?_;(case hd|hg=>rfl);(case hr=>exact Vae);(case hp=>exact (Fc.one (show Kd.M (Kd.int .i64) _ _ _ Oa [.int .i64 Oa] from rfl) (Fc.one (show Kd.M (Kd.int .i64) _ _ _ Wc [.int .i64 Wc] from rfl) (Fc.none _ _))));intro Kv Gt en hb Hl Je;clear Hl Je;(first|rw [← zl.out] at en|(simp only [Int.reduceToNat] at en;rw [← zl.out] at en));have Kb:=aa.mk (Kd.Xc en (Ra Xae));have Ob:=aa.mk (Ua (g:=Ja) (o:=.cells #[.slice Bb Ma.length Ab,.int .i64 Pa,.int .i64 Qa,.int .i64 Oa,.int .i64 Wc] 83 (0,0)) Zae hb);have fc:=aa.mk (Fa Xae hb);clear ta HB;have Tk:=Kb;have ta:=Ob;have HB:=fc;clear Kb Ob fc hb en));go_ret;exact ⟨_,eaf,by (with_reducible repeat (first|apply Kd.Ka|apply Kd.La|apply Kd.Sa));exact Tk.out,aaf⟩
  ·rw [if_neg c7] at H;have Zr:=beq_eq_false_iff_ne.mpr c7;have nI:=bne_iff_ne.mpr c7;obtain ⟨sy,Hj⟩:∃ y_:List Int,y_=(([]:List Int)):=⟨_,rfl⟩;replace H:(some sy)=some r:=by first|(rw [Hj];with_reducible exact H)|(have Mc:=(Option.bind_some _ _).symm.trans H;rw [Hj];with_reducible exact Mc)|(have Mc:=(Option.bind_some _ _).symm.trans H;with_reducible exact Mc)|with_reducible exact H|(rw [Hj];exact H)|exact H
   have vv:=aa.mk Hj;clear Hj;obtain rfl:=Option.some.inj H;go_enter Try.func85,Try.ntmps85;go_wp2_with (first|((with_reducible refine Lb (N:=1) rfl ?_);refine Jc ?hg (N:=1) ?hd (cs:=#[.slice Bb Ma.length Ab,.int .i64 Pa,.int .i64 Qa,.int .i64 Oa,.int .i64 Wc]) (t:=83) ?hr ?_;(case hd|hg=>rfl);(case hr=>exact Vae);intro Ja hg vu qd hb;have Kb:=aa.mk (Fa Yae hb);have Ob:=aa.mk (qd);have fc:=aa.mk ((by rw [hg];exact (Ra Yae):w.heap.size ≤ Ja));have Sc:=aa.mk ((by rw [hg];exact (Ra Yae):w.heap.size ≤ Ja));clear HB;have HB:=Kb;have ta:=Ob;have Af:=fc;have mb:=Sc;clear Kb Ob fc Sc hb qd hg;have iu:vu.cell? ⟨Ja,0,none⟩=some (.slice Bb Ma.length Ab):=(qa ta.out 0).trans rfl;have gu:vu.cell? ⟨Ja,1,none⟩=some (.int .i64 Pa):=(qa ta.out 1).trans rfl;have fu:vu.cell? ⟨Ja,2,none⟩=some (.int .i64 Qa):=(qa ta.out 2).trans rfl;have eu:vu.cell? ⟨Ja,3,none⟩=some (.int .i64 Oa):=(qa ta.out 3).trans rfl;have cu:vu.cell? ⟨Ja,4,none⟩=some (.int .i64 Wc):=(qa ta.out 4).trans rfl;have Wt:=Aa ta.out 0;have Vt:=Aa ta.out 1;have Ut:=Aa ta.out 2;have Tt:=Aa ta.out 3;have St:=Aa ta.out 4)|((with_reducible refine Lb (N:=17) rfl ?_);refine Kd.jk (Kd.int .i64) _ 3 ?hg (N:=17) ?hd (xs:=([]:List Int)) (inner:=[]) (ok:=fun _=>True) (Ag:=fun _=>True) ?hr ?hp (fun _ hk=>hk) trivial (Below.refl _ _) (Nat.le_refl _) (by simp) ?_;(case hd|hg=>rfl);(case hr=>exact Vae);(case hp=>exact (Fc.none _ _));intro v109 RR dH hb Hl Je;clear Hl Je;(first|rw [← vv.out] at dH|(simp only [Int.reduceToNat] at dH;rw [← vv.out] at dH));have Kb:=aa.mk (Kd.Xc dH (Ra Xae));have Ob:=aa.mk (Ua (g:=Ja) (o:=.cells #[.slice Bb Ma.length Ab,.int .i64 Pa,.int .i64 Qa,.int .i64 Oa,.int .i64 Wc] 83 (0,0)) Zae hb);have fc:=aa.mk (Fa Xae hb);clear ta HB;have jt:=Kb;have ta:=Ob;have HB:=fc;clear Kb Ob fc hb dH));go_ret;exact ⟨_,eaf,by (with_reducible repeat (first|apply Kd.Ka|apply Kd.La|apply Kd.Sa));exact jt.out,aaf⟩
theorem LM {W w1:World} (hb:Below W.heap.size W w1):(∀ b o,b < W.heap.size→w1.cell? ⟨b,o,none⟩=W.cell? ⟨b,o,none⟩)∧(∀ b o,b < W.heap.size→w1.frozen? ⟨b,o,none⟩=W.frozen? ⟨b,o,none⟩) :=
 ⟨fun b o h=>hb.cell (p:=⟨b,o,none⟩) h,fun b o h=>hb.frozen (p:=⟨b,o,none⟩) h⟩
theorem Il {α:Type} {l:List α} {p:α→Bool} {k:Nat} {d:α} (hk:k < l.length) (h:(l.take k).any p=false) (hx:p (l.getD k d)=false):(l.take (k + 1)).any p=false:=by
 rw [List.take_succ_eq_append_getElem hk,List.any_append,h]
 simpa [List.getD_eq_getElem?_getD,List.getElem?_eq_getElem hk] using hx
theorem YD {α:Type} {l:List α} {p:α→Bool} {k:Nat} {d:α} (hk:k < l.length) (hx:p (l.getD k d)=true):l.any p=true:=by
 rw [List.any_eq_true];exact ⟨l[k],List.getElem_mem hk,by simpa [List.getD_eq_getElem?_getD,List.getElem?_eq_getElem hk] using hx⟩
theorem Ov (g:Nat) (lb:Array Value) (p:Zb→Bool) (eg:∀ args w,(callFunc g args).run Try.prog w = .ok (.enter g args) w) (A0:Option Addr) (c0:Nat) (l0:List Zb) (w:World) (Jh:Kd.C fe w A0 l0.length l0) (hc0:l0.length ≤ c0)
  (hp:∀ (W:World) (x:Zb),Below w.heap.size w W→Calls Try.prog g (#[(.agg #[.int .i64 x.f0,.int .i64 x.f1,.int .i64 x.f2,.int .i64 x.f3,.int .i64 x.f4,.int .i64 x.f5,.string x.f6])] ++ lb) W fun e w'=>e = .returned (.bool (p x))∧Below W.heap.size W w') :
  Calls Try.prog 137 #[.slice A0 l0.length c0,.func (.func g) #[] lb] w fun e w'=>(∃ i:Int,e = .returned (.int .i64 i)∧decide (0 ≤ i)=l0.any p)∧Below w.heap.size w w':=by
 have sS:=Jh.2.1;have xk:=aa.mk Jh;have ey:=aa.mk hc0;have HP:=aa.mk hp;clear Jh hc0 hp;go_enter Try.func137,Try.ntmps137;go_wp2
 go_loopg [5,8] l0.length (fun gg _ s8 wr=>∃ kk:Nat,kk ≤ l0.length∧l0.length - kk ≤ gg∧s8 = .int .i64 kk∧aa (Below w.heap.size w wr)∧aa ((l0.take kk).any p=false))
 case atStart=>exact ⟨0,Nat.zero_le _,by omega,rfl,⟨Below.refl _ w⟩,⟨by simp⟩⟩
 case round =>
  (try clear BW);(try clear HA);obtain ⟨kk,hkk,hg,rfl,BW,HA⟩:=hrel
  by_cases hlt:kk < l0.length
  ·have p1:0 ≤ (kk:Int):=by omega
   have q1:(kk:Int) < (l0.length:Int):=by omega
   obtain ⟨ad,e1,hx0,hx1,hx2,Ct,gr,QF,Tw⟩:=lu xk.out (kk:Int) p1 q1;cases e1;simp only [Int.toNat_natCast] at hx0 hx1 hx2 Ct gr QF Tw;replace hx0:=(BW.out.cell (World.block_lt_of_cell? w _ hx0)).trans hx0;replace hx1:=(BW.out.cell (World.block_lt_of_cell? w _ hx1)).trans hx1;replace hx2:=(BW.out.cell (World.block_lt_of_cell? w _ hx2)).trans hx2;replace Ct:=(BW.out.cell (World.block_lt_of_cell? w _ Ct)).trans Ct;replace gr:=(BW.out.cell (World.block_lt_of_cell? w _ gr)).trans gr;replace QF:=(BW.out.cell (World.block_lt_of_cell? w _ QF)).trans QF;replace Tw:=(BW.out.cell (World.block_lt_of_cell? w _ Tw)).trans Tw;have hcall:=HP.out wr (oa l0 (kk:Int)) BW.out;cases hq:p (oa l0 (kk:Int)) with
   | true =>
    rw [hq] at hcall;go_wp2_with (go_at_fn g;refine hcall.mono ?_;rintro e w1 ⟨rfl,Xm⟩);go_ret;exact ⟨⟨_,rfl,by rw [YD (d:=Vh) hlt hq];simp⟩,BW.out.trans (Xm.mono BW.out.size)⟩
   | false =>
    rw [hq] at hcall;go_wp2_with (go_at_fn g;refine hcall.mono ?_;rintro e w1 ⟨rfl,Xm⟩)
    go_roundg (l0.length - (kk + 1))
    case measure=>omega
    case rel=>exact ⟨kk + 1,by omega,by omega,by go_num,⟨BW.out.trans (Xm.mono BW.out.size)⟩,⟨Il (d:=Vh) hlt HA.out hq⟩⟩
  ·have LO:¬ (kk:Int) < (l0.length:Int):=by omega
   have he:kk=l0.length:=by omega
   subst he;go_wp2;go_ret;exact ⟨⟨_,rfl,by have h_:=HA.out;rw [List.take_length] at h_;rw [h_];simp⟩,BW.out⟩
theorem Lp (g:Nat) (lb:Array Value) (p:Zb→Bool) (eg:∀ args w,(callFunc g args).run Try.prog w = .ok (.enter g args) w) (A0:Option Addr) (c0:Nat) (l0:List Zb) (w:World) (Jh:Kd.C fe w A0 l0.length l0) (hc0:l0.length ≤ c0)
  (hp:∀ (W:World) (x:Zb),Below w.heap.size w W→Calls Try.prog g (#[(.agg #[.int .i64 x.f0,.int .i64 x.f1,.int .i64 x.f2,.int .i64 x.f3,.int .i64 x.f4,.int .i64 x.f5,.string x.f6])] ++ lb) W fun e w'=>e = .returned (.bool (p x))∧Below W.heap.size W w') :
  Calls Try.prog 123 #[.slice A0 l0.length c0,.func (.func g) #[] lb] w fun e w'=>e = .returned (.bool (l0.any p))∧Below w.heap.size w w':=by
 have HI:=aa.mk (Ov g lb p eg A0 c0 l0 w Jh hc0 hp);clear Jh hc0 hp;go_enter Try.func123,Try.ntmps123;go_wp2_with (go_at_call 137;refine HI.out.mono ?_;rintro e w1 ⟨⟨i,rfl,hi⟩,Xm⟩;have HD:=aa.mk hi;clear hi);go_ret;exact ⟨by rw [← HD.out];first|rfl|simp,Xm⟩
def Va.l0:Nat→List ByteArray→ByteArray→Int→Int→Option (Int)
 | 0,_,_,_,_=>none
 | k + 1,x0,x1,x7,x8=>if x8 < x7 then (if 0 ≤ x8 then (if x8 < (x0.length:Int) then (if x1.toList=(Tf ByteArray.empty x0 x8).toList then (some x8) else (Va.l0 k x0 x1 x7 (wrap64 (x8 + 1)))) else (none)) else (none)) else (some (-1))
def Va.f (k:Nat) (l0:List ByteArray) (a1:ByteArray):Option (Int):=Va.l0 k l0 a1 (l0.length:Int) 0
theorem Va.En:∀ k,(∀ y0 y1 y2 y3,Bg (Va.l0 k y0 y1 y2 y3) (Va.l0 (k + 1) y0 y1 y2 y3))
 | 0=>fun _ _ _ _ r h=>by simp [Va.l0] at h
 | k + 1=>by
  have Vy:=Va.En k
  ·intro y0 y1 y2 y3;unfold Va.l0
   repeat' first
   | (with_reducible exact Vy _ _ _ _)
   | (with_reducible exact Bg.refl _)
   | (with_reducible exact Bg.none _)
   | (with_reducible refine Bg.ite ?_ ?_)
   | (with_reducible refine Bg.bind ?_ (fun _=>?_))
   | exact Vy _ _ _ _
   | exact Bg.none _
   | refine Bg.ite ?_ ?_
   | refine Bg.bind ?_ (fun _=>?_)
theorem Va.mono:∀ a0 a1 k,Bg (Va.f k a0 a1) (Va.f (k + 1) a0 a1):=by
 intro a0 a1 k;have Vy:=Va.En k;unfold Va.f
 repeat' first
   | (with_reducible exact Vy _ _ _ _)
   | (with_reducible exact Bg.refl _)
   | (with_reducible exact Bg.none _)
   | (with_reducible refine Bg.ite ?_ ?_)
   | (with_reducible refine Bg.bind ?_ (fun _=>?_))
   | exact Vy _ _ _ _
   | exact Bg.none _
   | refine Bg.ite ?_ ?_
   | refine Bg.bind ?_ (fun _=>?_)
theorem Va.calls (k:Nat) (A0:Option Addr) (c0:Nat) (l0:List ByteArray) (a1:ByteArray) (r:Int) (w:World) (Jh:Kd.C Kd.string w A0 l0.length l0) (hc0:l0.length ≤ c0) (h:Va.f k l0 a1=some r) :
  Calls Try.prog 161 #[.slice A0 l0.length c0,.string a1] w fun e w'=>e = .returned (.int .i64 r)∧Nb w w':=by
 have xk:=aa.mk Jh;have ey:=aa.mk hc0;clear Jh hc0;have H:(Va.l0 k l0 a1 (l0.length:Int) 0)=some r:=h;clear h;have H':=aa.mk H;clear H;go_enter Try.func161,Try.ntmps161;go_wp2
 go_loopg [8] k (fun kq v8 w'=>∃ (jd:Int),v8 = .int .i64 jd∧aa (Va.l0 kq l0 a1 (l0.length:Int) jd=some r)∧aa (kq ≤ k)∧Nb w w')
 case atStart=>exact ⟨(0),daf,H',⟨Nat.le_refl _⟩,kaf⟩
 case round =>
  clear H'
  try clear c1
  try clear p2
  (try clear HA);(try clear Gf);obtain ⟨jd,rfl,HA,Gf,⟨m1,rfl⟩⟩:=hrel;cases gk with
  | zero=>exact absurd HA.out (by simp [Va.l0])
  | succ k1 =>
   have H:=HA.out;clear HA;simp only [Va.l0] at H
   by_cases c3:jd < (l0.length:Int)
   ·rw [if_pos c3] at H;have Yg:decide (jd < (l0.length:Int))=true:=decide_eq_true c3;clear c3
    by_cases c4:0 ≤ jd
    ·rw [if_pos c4] at H;have Yk:decide (0 ≤ jd)=true:=decide_eq_true c4;clear c4
     by_cases c5:jd < (l0.length:Int)
     ·rw [if_pos c5] at H;have Yq:decide (jd < (l0.length:Int))=true:=decide_eq_true c5;clear c5
      by_cases c6:a1.toList=(Tf ByteArray.empty l0 jd).toList
      ·rw [if_pos c6] at H;have Xq:=beq_iff_eq.mpr c6;have kQ:=bne_eq_false_iff_eq.mpr c6;clear c6;obtain rfl:=Option.some.inj H;have Pf:0 ≤ (jd:Int):=Ia;have Nf:jd < (l0.length:Int):=Ia;obtain ⟨Rl,bk,gf⟩:=Kd.Jo xk.out jd Pf Nf;cases bk;replace Pf:=eq_true Pf;replace Nf:=eq_true Nf;go_wp2;go_ret;exact ⟨waf,kaf⟩
      ·rw [if_neg c6] at H;have Xq:=beq_eq_false_iff_ne.mpr c6;have kQ:=bne_iff_ne.mpr c6;have H':=aa.mk H;clear H;have Pf:0 ≤ (jd:Int):=Ia;have Nf:jd < (l0.length:Int):=Ia;obtain ⟨Rl,bk,gf⟩:=Kd.Jo xk.out jd Pf Nf;cases bk;replace Pf:=eq_true Pf;replace Nf:=eq_true Nf;go_wp2
       go_roundg k1
       case measure=>have:=Gf.out;omega
       case rel=>exact ⟨(wrap64 (jd + 1)),daf,H',⟨by have:=Gf.out;omega⟩,kaf⟩
     ·rw [if_neg c5] at H;exact absurd H (by simp)
    ·rw [if_neg c4] at H;exact absurd H (by simp)
   ·rw [if_neg c3] at H;have Yg:decide (jd < (l0.length:Int))=false:=decide_eq_false c3;clear c3;obtain rfl:=Option.some.inj H;go_wp2;go_ret;exact ⟨waf,kaf⟩
def Mb.f (k:Nat) (l0:List ByteArray) (a1:ByteArray):Option (Bool):=(Va.f k l0 a1).bind fun t101=>(some (decide (t101 ≥ 0)))
theorem Mb.mono:∀ a0 a1 k,Bg (Mb.f k a0 a1) (Mb.f (k + 1) a0 a1):=by
 intro a0 a1 k;unfold Mb.f
 repeat' first
   | (with_reducible exact Va.mono _ _ _)
   | (with_reducible exact Bg.refl _)
   | (with_reducible exact Bg.none _)
   | (with_reducible refine Bg.ite ?_ ?_)
   | (with_reducible refine Bg.bind ?_ (fun _=>?_))
   | exact Va.mono _ _ _
   | exact Bg.none _
   | refine Bg.ite ?_ ?_
   | refine Bg.bind ?_ (fun _=>?_)
theorem Mb.calls (k:Nat) (A0:Option Addr) (c0:Nat) (l0:List ByteArray) (a1:ByteArray) (r:Bool) (w:World) (Jh:Kd.C Kd.string w A0 l0.length l0) (hc0:l0.length ≤ c0) (h:Mb.f k l0 a1=some r) :
  Calls Try.prog 154 #[.slice A0 l0.length c0,.string a1] w fun e w'=>e = .returned (.bool r)∧Nb w w':=by
 have xk:=aa.mk Jh;have ey:=aa.mk hc0;clear Jh hc0;have H:((Va.f k l0 a1).bind fun t101=>(some (decide (t101 ≥ 0))))=some r:=h;clear h;replace H:=Option.bind_eq_some_iff.mp H;obtain ⟨t101,wE,H⟩:=H
 try dsimp only at H
 have A3:=aa.mk wE;clear wE;obtain rfl:=Option.some.inj H;go_enter Try.func154,Try.ntmps154;go_wp2_with (first|((with_reducible refine Sb (f:=161) rfl ?_);refine Ke (some 7) rfl rfl Try.func161 (by kernel_rfl) rfl #[.slice A0 l0.length c0,.string a1] rfl baf ?_;(with_reducible refine (Va.calls k _ _ l0 a1 t101 _ ?Gd ?Ed A3.out).mono ?_);(case Gd=>repeat (first|exact xk.out|(with_reducible refine Kd.ee ?_ _)|(with_reducible refine Kd.Zd ?_ _)|(with_reducible refine Kd.We ?_)));(case Ed=>exact ey.out);rintro e w' ⟨rfl,⟨nd,rfl⟩⟩;refine ⟨_,rfl,?_⟩));go_ret;exact ⟨waf,kaf⟩
end Go.Proofs.Ytoomcmaifgkkfaa.P
end
