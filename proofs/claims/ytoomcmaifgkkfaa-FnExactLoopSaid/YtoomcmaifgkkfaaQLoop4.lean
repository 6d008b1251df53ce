import Derived.Shelf.Small.Bits
import Derived.Shelf.Small.Wraps
import Derived.Shelf.Strconv.Itoa0
import Derived.Shelf.Sort.Plain
import Derived.Shelf.Slices.Turned
import Derived.Shelf.Slices.Reverse
import Derived.Ground.Names2Prog
import Derived.Shelf.Slices.CompactI
import Derived.Shelf.Slices.SearchI
import Derived.Shelf.Slices.Cells
import Derived.Shelf.Slices.In.SortNone
import Derived.Test.YtoomcmaifgkkfaaQLoop1
import Derived.Shelf.Abstract
import Derived.Outline
import Derived.Sort.OwnSortedInts
import Derived.Test.YtoomcmaifgkkfaaQLoop3
set_option maxHeartbeats 8000000
set_option maxRecDepth 100000
section
namespace Go.Proofs.Ytoomcmaifgkkfaa.P
open Go.RowKit Go.Proofs.Aa.Db Go.Proofs.Aa.Tc Go.Proofs.Aa.ke
set_option linter.unusedVariables false
set_option linter.unusedSimpArgs false
open Go.Shelf
def Ur:Go.Shelf.Ren:=⟨fun | 189=>112 | 125=>129 | 257=>128 | 128=>150 | 129=>151 | 294=>141 | 295=>142 | 296=>143 | 297=>144 | 298=>145 | 299=>146 | 216=>147 | 300=>148 | 301=>149 | 328=>155 | 329=>156 | 330=>157 | 331=>158 | 332=>159 | 215=>160 | 343=>162|n=>n,fun | 28=>22 | 3=>3 | 46=>130 | 0=>0 | 51=>159 | 53=>161 | 4=>4 | 183=>151 | 182=>150 | 131=>156 | 5=>5 | 9=>9 | 218=>163 | 222=>167 | 228=>170 | 229=>171|n=>n,fun|n=>n⟩
theorem Xq:Go.Proofs.Lays.n189 Try.prog Ur:={
 mixed:=by kernel_rfl
 f125:=Try.func129.trans (congrArg some (by kernel_rfl))
 f128:=Try.func150.trans (congrArg some (by kernel_rfl))
 f129:=Try.func151.trans (congrArg some (by kernel_rfl))
 f189:=Try.func112.trans (congrArg some (by kernel_rfl))
 f215:=Try.func160.trans (congrArg some (by kernel_rfl))
 f216:=Try.func147.trans (congrArg some (by kernel_rfl))
 f257:=Try.func128.trans (congrArg some (by kernel_rfl))
 f294:=Try.func141.trans (congrArg some (by kernel_rfl))
 f295:=Try.func142.trans (congrArg some (by kernel_rfl))
 f296:=Try.func143.trans (congrArg some (by kernel_rfl))
 f297:=Try.func144.trans (congrArg some (by kernel_rfl))
 f298:=Try.func145.trans (congrArg some (by kernel_rfl))
 f299:=Try.func146.trans (congrArg some (by kernel_rfl))
 f300:=Try.func148.trans (congrArg some (by kernel_rfl))
 f301:=Try.func149.trans (congrArg some (by kernel_rfl))
 f328:=Try.func155.trans (congrArg some (by kernel_rfl))
 f329:=Try.func156.trans (congrArg some (by kernel_rfl))
 f330:=Try.func157.trans (congrArg some (by kernel_rfl))
 f331:=Try.func158.trans (congrArg some (by kernel_rfl))
 f332:=Try.func159.trans (congrArg some (by kernel_rfl))
 f343:=Try.func162.trans (congrArg some (by kernel_rfl))
 t0:=Try.underlying0
 a0:=Try.isAgg0
 z0:=Try.sizeOf0
 v0:=Try.zeroValue0
 t3:=Try.underlying3
 a3:=Try.isAgg3
 z3:=Try.sizeOf3
 v3:=Try.zeroValue3
 t4:=Try.underlying4
 a4:=Try.isAgg4
 z4:=Try.sizeOf4
 v4:=Try.zeroValue4
 t5:=Try.underlying5
 a5:=Try.isAgg5
 z5:=Try.sizeOf5
 v5:=Try.zeroValue5
 t9:=Try.underlying9
 a9:=Try.isAgg9
 z9:=Try.sizeOf9
 v9:=Try.zeroValue9
 t28:=Try.underlying22
 a28:=Try.isAgg22
 z28:=Try.sizeOf22
 v28:=Try.zeroValue22
 t46:=Try.underlying130
 a46:=Try.isAgg130
 z46:=Try.sizeOf130
 v46:=Try.zeroValue130
 t51:=Try.underlying159
 a51:=Try.isAgg159
 z51:=Try.sizeOf159
 v51:=Try.zeroValue159
 t53:=Try.underlying161
 a53:=Try.isAgg161
 z53:=Try.sizeOf161
 v53:=Try.zeroValue161
 t131:=Try.underlying156
 a131:=Try.isAgg156
 z131:=Try.sizeOf156
 v131:=Try.zeroValue156
 t182:=Try.underlying150
 a182:=Try.isAgg150
 z182:=Try.sizeOf150
 v182:=Try.zeroValue150
 t183:=Try.underlying151
 a183:=Try.isAgg151
 z183:=Try.sizeOf151
 v183:=Try.zeroValue151
 t218:=Try.underlying163
 a218:=Try.isAgg163
 z218:=Try.sizeOf163
 v218:=Try.zeroValue163
 t222:=Try.underlying167
 a222:=Try.isAgg167
 z222:=Try.sizeOf167
 v222:=Try.zeroValue167
 t228:=Try.underlying170
 a228:=Try.isAgg170
 z228:=Try.sizeOf170
 v228:=Try.zeroValue170
 t229:=Try.underlying171
 a229:=Try.isAgg171
 z229:=Try.sizeOf171
 v229:=Try.zeroValue171 }
open Go.Sort Go.RowKit in
theorem lp (blk off cap:Nat) (zs:List Int) (w:World) (hH:Holds (Value.int .i64) w blk off zs.toArray) (hblk:blk < w.heap.size) (hsz:zs.length < 4611686018427387904) :
  Calls Try.prog 112 #[.slice (some ⟨blk,off,none⟩) zs.length cap] w fun e w' =>
   e = .returned (.tuple #[])∧∃ n os,w' = grow (putRow (Value.int .i64) (Sort.ahead w n) blk off (zs.mergeSort fun x y=>decide (x ≤ y)).toArray) os:=Any.slices_Sort_int Xq blk off cap zs w hH hblk hsz
def Oq:Go.Shelf.Ren:=⟨fun | 20=>113|n=>n,fun | 22=>22 | 3=>3 | 4=>4 | 0=>0|n=>n,fun|n=>n⟩
theorem Xo:Go.Proofs.Lays2.n20 Try.prog Oq:={
 mixed:=by kernel_rfl
 f20:=Try.func113.trans (congrArg some (by kernel_rfl))
 t0:=Try.underlying0
 a0:=Try.isAgg0
 z0:=Try.sizeOf0
 v0:=Try.zeroValue0
 t3:=Try.underlying3
 a3:=Try.isAgg3
 z3:=Try.sizeOf3
 v3:=Try.zeroValue3
 t4:=Try.underlying4
 a4:=Try.isAgg4
 z4:=Try.sizeOf4
 v4:=Try.zeroValue4
 t22:=Try.underlying22
 a22:=Try.isAgg22
 z22:=Try.sizeOf22
 v22:=Try.zeroValue22
 i3:=by kernel_rfl }
open Go.RowKit Go.Lib Go.Sort in
theorem Jn (blk off cap:Nat) (zs:List Int) (w:World) (hH:Holds (Value.int .i64) w blk off zs.toArray) (hsz:zs.length ≤ 9223372036854775807) (hcap:zs.length ≤ cap) :
  Calls Try.prog 113 #[.slice (some ⟨blk,off,none⟩) zs.length cap] w fun e w'=>e = .returned (.slice (some ⟨blk,off,none⟩) (Lib.compact zs).length cap)∧∃ q,w' = putRow (Value.int .i64) (Sort.ahead w q) blk off (Lib.compact zs ++ List.replicate (zs.length - (Lib.compact zs).length) 0).toArray:=Any.slices_Compact_int Xo blk off cap zs w hH hsz hcap
open Go.RowKit Go.Lib Go.Sort in
theorem qk (a:Option Addr) (cap:Nat) (w:World) :
  Calls Try.prog 113 #[.slice a 0 cap] w fun e w'=>e = .returned (.slice a 0 cap)∧w' = w:=Any.slices_Compact_int_empty Xo a cap w
open Go.RowKit Go.Sort in
theorem mm (p:Option Addr) (cap:Nat) (w:World) :
  Calls Try.prog 112 #[.slice p 0 cap] w fun e w'=>e = .returned (.tuple #[])∧w' = w:=Any.slices_Sort_int_none Xq p cap w
end Go.Proofs.Ytoomcmaifgkkfaa.P
end
section
namespace Go.Proofs.Ytoomcmaifgkkfaa.P
open Go.RowKit Go.Proofs.Aa.Db Go.Proofs.Aa.Tc Go.Proofs.Aa.ke
set_option linter.unusedVariables false
set_option linter.unusedSimpArgs false
def Nh (l:List Int):List Int:=Go.Lib.compact (l.mergeSort fun x y=>decide (x ≤ y))
def Be.f (l0:List Int):Option (List Int):=if l0.length ≤ 4398046511104 then some (Nh l0) else none
theorem Wu (zs:List Int):(Go.Lib.compact zs).length ≤ zs.length:=by
 unfold Go.Lib.compact Go.Lib.compactUpTo;rw [List.length_map];have:=List.length_filter_le (Go.Lib.keeps zs.toArray) (List.range zs.length)
 rwa [List.length_range] at this
open Go.RowKit Go.Lib Go.Sort in
theorem tN (B g n c:Nat) (P:Nat→Prop) (l0:List Int) (w:World) (hn:l0.length=n) (hgB:B ≤ g) (hP:P g) (hl:n ≤ 4398046511104) (hown:w.ownsRow B 3 1 (.slice (some ⟨g,0,none⟩) n c) n (Lm (Value.int .i64) l0)) :
  Calls Try.prog 86 #[.slice (some ⟨g,0,none⟩) n c] w fun e w'=>∃ Di:Value,e = .returned Di∧Kd.R (Kd.int .i64) 3 w' B P Di (Nh l0)∧w.grownBy w' (some g):=by
 obtain ⟨cur,hb,h1,h2,h3,h4⟩:∃ cur,w.heap[g]? = some (.cells cur 3 (0,0))∧n ≤ c∧c ≤ maxLen∧cur.size=c * 1∧cur.toList.take (n * 1)=Lm (Value.int .i64) l0:=by
  rcases hown.2 with ⟨h0,_⟩|⟨g',cap',cur,hv,_,hh,a1,a2,a3,a4⟩
  ·cases h0
  ·cases hv;exact ⟨cur,hh,a1,a2,a3,a4⟩
 subst hn;rw [Nat.mul_one] at h4;have HH:=aa.mk (holds_of_blockI (ss:=l0) hb (by rw [h4];rfl));have HG:=aa.mk (Array.getElem?_eq_some_iff.1 hb).1;have HB:=aa.mk hb;have H1:=aa.mk h1;have H2:=aa.mk h2;have H3:=aa.mk h3;have H4:=aa.mk h4;clear hown hb h1 h2 h3 h4;obtain ⟨s,hs⟩:∃ s:List Int,s=l0.mergeSort fun x y=>decide (x ≤ y):=⟨_,rfl⟩
 have zU:s.length=l0.length:=by rw [hs];exact List.length_mergeSort l0
 have HS:=aa.mk hs;have NN:=aa.mk zU;clear hs zU;go_enter Try.func86,Try.ntmps86
 go_upto_region 2 with (go_at_call 112;(with_reducible refine (lp g 0 c l0 w HH.out HG.out (by omega)).mono ?_);rintro e w1 ⟨rfl,m,os,hw1⟩;have HW1:=aa.mk hw1;clear hw1)
 have Vo:=aa.mk (show w1.heap[g]? = some (.cells (putCells (Value.int .i64) 0 s.toArray cur) 3 (0,0)) from by rw [HW1.out,← HS.out];exact heap_sortedI _ HB.out);have fE:=aa.mk (show w.grownBy w1 (some g) from by rw [HW1.out];exact grownBy_sortedI _);have HH1:=aa.mk (holds_of_blockI (ss:=s) Vo.out (take_putCellsI cur s (by have:=H3.out;have:=H1.out;have:=NN.out;omega)));have hcp:(Go.Lib.compact s).length ≤ s.length:=Wu s;have HCP:=aa.mk hcp;clear hcp;have HL:=aa.mk hl;clear hl;have YK:=aa.mk (Jn g 0 c s w1 HH1.out (by have:=HL.out;have:=NN.out;omega) (by have:=H1.out;have:=NN.out;omega));rw [NN.out] at YK;go_wp2_with (go_at_call 113;(refine YK.out.mono ?_);rintro e w2 ⟨rfl,q,hw2⟩;have FU:=aa.mk hw2;clear hw2);go_ret
 have hz:(Go.Lib.compact s ++ List.replicate (l0.length - (Go.Lib.compact s).length) 0).length=s.length:=by
  rw [List.length_append,List.length_replicate];have:=HCP.out;have:=NN.out;omega
 refine ⟨_,rfl,?_,?_⟩
 ·have hr:=ownsRow_sortedI (w:=w1) (base:=B) (n:=q) (os:=#[]) (ss:=s) (ts:=Go.Lib.compact s ++ List.replicate (l0.length - (Go.Lib.compact s).length) 0) hz hgB Vo.out (by rw [NN.out];exact H1.out) H2.out (by simp [putCells,H3.out]);rw [grow_empty,← FU.out] at hr
  have hR:Kd.R (Kd.int .i64) 3 w2 B P (.slice (some ⟨g,0,none⟩) s.length c) (Go.Lib.compact s ++ List.replicate (l0.length - (Go.Lib.compact s).length) 0):=Kd.fC (by rw [hz];exact hr) (fun k hk=>by
   have:g=k:=by simpa [Value.ownBlock] using hk
   subst this
   exact hP)
  have ht:=Kd.Uz (m:=(Go.Lib.compact s).length) hR (by rw [hz];exact HCP.out);rw [List.take_left] at ht;unfold Nh;rw [← HS.out];exact ht
 ·have h2:=grownBy_sortedI (w:=w1) (g:=g) (n:=q) (os:=#[]) (Go.Lib.compact s ++ List.replicate (l0.length - (Go.Lib.compact s).length) 0).toArray;rw [grow_empty,← FU.out] at h2;exact fE.out.trans h2
theorem Be.calls (Oi:Nat→Prop) (Xe:Value) (l0:List Int) (r:List Int) (w0 w:World) (hB:Below w0.heap.size w0 w) (Rg:Kd.R (Kd.int .i64) 3 w w0.heap.size Oi Xe l0) (h:Be.f l0=some r) :
  Calls Try.prog 86 #[Xe] w fun e w'=>∃ Di:Value,e = .returned (Di)∧Kd.R (Kd.int .i64) 3 w' w0.heap.size (fun k_=>(Oi k_ ∨ w.heap.size ≤ k_)) Di r∧Below w0.heap.size w0 w'∧Kept w w' (fun k_=>Oi k_):=by
 unfold Be.f at h;have hl:l0.length ≤ 4398046511104:=Decidable.byContradiction fun hn=>by rw [if_neg hn] at h;cases h
 rw [if_pos hl] at h;obtain rfl:=Option.some.inj h;have ho:=Kd.Yr Rg;have hbase:=Kd.Wf Rg;have hP:=Rg.1
 rcases ho.2 with ⟨rfl,h0⟩|⟨g,cap,cur,rfl,hg,_⟩
 ·obtain rfl:l0=[]:=List.eq_nil_of_length_eq_zero h0;clear ho Rg hbase hP h;have HB:=aa.mk hB;clear hB;go_enter Try.func86,Try.ntmps86
  go_upto_region 2 with (go_at_call 112;(with_reducible refine (mm none 0 w).mono ?_);rintro e w1 ⟨rfl,rfl⟩)
  go_wp2_with (go_at_call 113;(with_reducible refine (qk none 0 _).mono ?_);rintro e w2 ⟨rfl,rfl⟩);go_ret;exact ⟨_,rfl,by rw [show Nh []=[] from by simp [Nh,Go.Lib.compact,Go.Lib.compactUpTo]];exact Kd.Nt _ _ _ _ _,HB.out,Kept.refl _ _⟩
 ·have hPg:=hP g rfl;refine (tN w0.heap.size g l0.length cap (fun k_=>(Oi k_ ∨ w.heap.size ≤ k_)) l0 w rfl hg (Or.inl hPg) hl ho).mono ?_;rintro e w' ⟨v,he,hr,hgw⟩;exact ⟨v,he,hr,Ep hB _ hB.size hgw (fun k hk=>by cases hk;exact hg),Kept.Af hgw (Kept.refl _ _) (fun k hk=>by cases hk;exact Or.inl hPg)⟩
attribute [local go_sem] fh bh Zh Yh mg lg dh ah
mutual
def Xb.l0:Nat→List Int→List Int→List Int→Int→Int→Int→List (Wd)→Option (List Int)
 | 0,_,_,_,_,_,_,_=>none
 | k + 1,x7,x8,Fc,Ec,Dc,Cc,Lb=>if (x8.length:Int) > 0 then (if 0 < (x8.length:Int) then (if 1 ≤ (x8.length:Int) then ((some (x8.drop (1:Int).toNat:List Int)).bind fun Xf=>((Gb.f k x7 (rd x8 0)).bind fun t115=>(if t115=true then (Xb.l0 k x7 Xf Fc Ec Dc Cc Lb) else (if x7.length < 17592186044416 then (Xb.l1 k (x7 ++ [rd x8 0]) Xf (rd x8 0) Lb (Lb.length:Int) 0 Fc Ec Dc Cc Lb) else (none))))) else (none)) else (none)) else ((Be.f x7).bind fun t108=>(some t108))
def Xb.l1:Nat→List Int→List Int→Int→List (Wd)→Int→Int→List Int→Int→Int→Int→List (Wd)→Option (List Int)
 | 0,_,_,_,_,_,_,_,_,_,_,_=>none
 | k + 1,x7,x8,x9,TH,mE,SH,Fc,Ec,Dc,Cc,Lb=>if SH < mE then (if 0 ≤ SH then (if SH < (TH.length:Int) then ((ue.f ((Ea TH SH).f0) ((Ea TH SH).f1) ((Ea TH SH).f2) ((Ea TH SH).f3) ((Ea TH SH).f4)).bind fun t121=>((Gb.f k t121 x9).bind fun t124=>(if t124=true then (if x8.length < 17592186044416 then (Xb.l1 k x7 (x8 ++ [SH]) x9 TH mE (wrap64 (SH + 1)) Fc Ec Dc Cc Lb) else (none)) else (Xb.l1 k x7 x8 x9 TH mE (wrap64 (SH + 1)) Fc Ec Dc Cc Lb)))) else (none)) else (none)) else (Xb.l0 k x7 x8 Fc Ec Dc Cc Lb)
end
def Xb.f (k:Nat) (Ma:List Int) (Oa:Int) (Pa:Int) (Na:Int) (oa:List (Wd)) (a1:Int) (a2:Int):Option (List Int):=Xb.l0 k (([a2]:List Int)) (([a1]:List Int)) Ma Oa Pa Na oa
theorem Xb.calls (k:Nat) (zb:Option Addr) (yb:Nat) (Ma:List Int) (Oa:Int) (Pa:Int) (Na:Int) (Ob:Option Addr) (Fb:Nat) (oa:List (Wd)) (a1:Int) (a2:Int) (r:List Int) (w:World) (qd:Kd.C (Kd.int .i64) w zb Ma.length Ma) (Ad:Ma.length ≤ yb) (fe:Kd.C Km w Ob oa.length oa) (Fe:oa.length ≤ Fb) (h:Xb.f k Ma Oa Pa Na oa a1 a2=some r) :
  Calls Try.prog 89 #[.agg #[.slice zb Ma.length yb,.int .i64 Oa,.int .i64 Pa,.int .i64 Na,.slice Ob oa.length Fb],.int .i64 a1,.int .i64 a2] w fun e w'=>∃ Di:Value,e = .returned (Di)∧Kd.R (Kd.int .i64) 3 w' w.heap.size (fun _=>True) Di r∧Below w.heap.size w w':=by
 have gD:=Try.underlying45;have Sy:=Try.underlying83;have Ng:=aa.mk qd;have Pg:=aa.mk Ad;clear qd Ad;have Dh:=aa.mk fe;have bk:=aa.mk Fe;clear fe Fe;have HB:=aa.mk (Below.refl w.heap.size w);have H:(Xb.l0 k (([a2]:List Int)) (([a1]:List Int)) Ma Oa Pa Na oa)=some r:=h;clear h;obtain ⟨yd,Ee⟩:∃ y_:List Int,y_=(([a2]:List Int)):=⟨_,rfl⟩;replace H:(Xb.l0 k yd (([a1]:List Int)) Ma Oa Pa Na oa)=some r:=by first|(rw [Ee];with_reducible exact H)|(have Qc:=(Option.bind_some _ _).symm.trans H;rw [Ee];with_reducible exact Qc)|(have Qc:=(Option.bind_some _ _).symm.trans H;with_reducible exact Qc)|with_reducible exact H|(rw [Ee];exact H)|exact H
 have Ch:=aa.mk Ee;clear Ee;obtain ⟨Pd,Hf⟩:∃ y_:List Int,y_=(([a1]:List Int)):=⟨_,rfl⟩;replace H:(Xb.l0 k yd Pd Ma Oa Pa Na oa)=some r:=by first|(rw [Hf];with_reducible exact H)|(have Qc:=(Option.bind_some _ _).symm.trans H;rw [Hf];with_reducible exact Qc)|(have Qc:=(Option.bind_some _ _).symm.trans H;with_reducible exact Qc)|with_reducible exact H|(rw [Hf];exact H)|exact H
 have Tk:=aa.mk Hf;clear Hf;have H':=aa.mk H;clear H;go_enter Try.func89,Try.ntmps89;go_wp2_with (first|((with_reducible refine Qb (N:=3) rfl ?_);refine Ic ?hg (N:=3) ?hd (cs:=#[.slice zb Ma.length yb,.int .i64 Oa,.int .i64 Pa,.int .i64 Na,.slice Ob oa.length Fb]) (t:=45) ?hr ?_;(case hd|hg=>rfl);(case hr=>exact jaj);intro Ka hg w4 Bd hb;have Pb:=aa.mk (Ga maj hb);have Rb:=aa.mk (Bd);have Yb:=aa.mk ((by rw [hg];exact (Qa maj):w.heap.size ≤ Ka));have Vc:=aa.mk ((by rw [hg];exact (Qa maj):w.heap.size ≤ Ka));clear HB;have HB:=Pb;have qa:=Rb;have Vf:=Yb;have Xa:=Vc;clear Pb Rb Yb Vc hb Bd hg)|((with_reducible refine Qb (N:=13) rfl ?_);refine Kd.Yj (Kd.int .i64) _ 3 ?hg (N:=13) ?hd (xs:=([a2]:List Int)) (inner:=[.int .i64 a2]) (ok:=fun _=>True) (Yg:=fun _=>True) ?hr ?hp (fun _ hk=>hk) trivial (Below.refl _ _) (Nat.le_refl _) (by simp) ?_;(case hd|hg=>rfl);(case hr=>exact jaj);(case hp=>exact (Pc.one (show Kd.M (Kd.int .i64) _ _ _ a2 [.int .i64 a2] from rfl) (Pc.none _ _)));intro th w5 Us hb Ll Pe;clear Ll Pe;(first|rw [← Ch.out] at Us|(simp only [Int.reduceToNat] at Us;rw [← Ch.out] at Us));have Pb:=aa.mk (Kd.Xc Us (Qa laj));have Rb:=aa.mk (Ta (g:=Ka) (o:=.cells #[.slice zb Ma.length yb,.int .i64 Oa,.int .i64 Pa,.int .i64 Na,.slice Ob oa.length Fb] 45 (0,0)) naj hb);have Yb:=aa.mk (Ga laj hb);clear qa HB;have qe:=Pb;have qa:=Rb;have HB:=Yb;clear Pb Rb Yb hb Us)|((with_reducible refine Qb (N:=15) rfl ?_);refine Kd.Yj (Kd.int .i64) _ 3 ?hg (N:=15) ?hd (xs:=([a1]:List Int)) (inner:=[.int .i64 a1]) (ok:=fun _=>True) (Yg:=fun _=>True) ?hr ?hp (fun _ hk=>hk) trivial (Below.refl _ _) (Nat.le_refl _) (by simp) ?_;(case hd|hg=>rfl);(case hr=>exact jaj);(case hp=>exact (Pc.one (show Kd.M (Kd.int .i64) _ _ _ a1 [.int .i64 a1] from rfl) (Pc.none _ _)));intro Wv w7 JH hb Ll Pe;clear Ll Pe;(first|rw [← Tk.out] at JH|(simp only [Int.reduceToNat] at JH;rw [← Tk.out] at JH));have Pb:=aa.mk (Kd.Ag yaj (Kd.Wf JH) hb);have Rb:=aa.mk (Kd.Xc (Kd.Bh JH (Kd.Yi yaj)) (Qa laj));have Yb:=aa.mk (Ta (g:=Ka) (o:=.cells #[.slice zb Ma.length yb,.int .i64 Oa,.int .i64 Pa,.int .i64 Na,.slice Ob oa.length Fb] 45 (0,0)) naj hb);have Vc:=aa.mk (Ga laj hb);clear qe qa HB;have qe:=Pb;have Uk:=Rb;have qa:=Yb;have HB:=Vc;clear Pb Rb Yb Vc hb JH))
 go_loopg [7,8] k (fun kq v7 v8 w'=>∃ (Rn:List Int) (qc:List Int),aa (Xb.l0 kq Rn qc Ma Oa Pa Na oa=some r)∧aa (kq ≤ k)∧aa (Kd.R (Kd.int .i64) 3 w' w.heap.size (fun k_=>some k_ ≠ (v8:Value).ownBlock) v7 Rn)∧aa (Kd.Q (Kd.int .i64) 3 w' w.heap.size (fun k_=>some k_ ≠ (v7:Value).ownBlock) v8 qc)∧aa (w'.heap[Ka]? = some (.cells #[(.slice zb Ma.length yb),.int .i64 Oa,.int .i64 Pa,.int .i64 Na,(.slice Ob oa.length Fb)] 45 (0,0)))∧aa (Below w.heap.size w w'))
 case atStart=>exact ⟨(yd),(Pd),H',⟨Nat.le_refl _⟩,⟨by (with_reducible repeat (first|apply Kd.Ia|apply Kd.La|apply Kd.Ra));exact Kd.Eb qe.out (fun _ hk=>hk.2)⟩,⟨Kd.Sw (by (with_reducible repeat (first|apply Kd.Ia|apply Kd.La|apply Kd.Ra));exact Kd.Eb Uk.out (fun _ hk=>hk.2))⟩,⟨saj⟩,⟨oaj⟩⟩
 case round =>
  clear H'
  try clear p2
  try clear c8
  (try clear HA);(try clear Kf);(try clear Od);(try clear jf);(try clear qa);(try clear HB);obtain ⟨Rn,qc,HA,Kf,Od,jf,qa,HB⟩:=hrel;cases gk with
  | zero=>exact absurd HA.out (by simp [Xb.l0])
  | succ k1 =>
   have H:=HA.out;clear HA;simp only [Xb.l0] at H
   by_cases c9:(qc.length:Int) > 0
   ·rw [if_pos c9] at H;have pN:decide (0 < (qc.length:Int))=true:=decide_eq_true c9;have AW:decide (0 < qc.length)=true:=decide_eq_true (by omega);clear c9
    by_cases mK:0 < (qc.length:Int)
    ·rw [if_pos mK] at H;have VW:decide (0 < (qc.length:Int))=true:=decide_eq_true mK;have UW:decide (0 < qc.length)=true:=decide_eq_true (by omega);clear mK
     by_cases Dx:1 ≤ (qc.length:Int)
     ·rw [if_pos Dx] at H;have ay:=eq_true Dx;have TW:decide (1 ≤ (qc.length:Int))=true:=decide_eq_true Dx;clear Dx;obtain ⟨Xf,zi⟩:∃ y_:List Int,y_=(qc.drop (1:Int).toNat):=⟨_,rfl⟩;replace H:((Gb.f k1 Rn (rd qc 0)).bind fun t115=>(if t115=true then (Xb.l0 k1 Rn Xf Ma Oa Pa Na oa) else (if Rn.length < 17592186044416 then (Xb.l1 k1 (Rn ++ [rd qc 0]) Xf (rd qc 0) oa (oa.length:Int) 0 Ma Oa Pa Na oa) else (none))))=some r:=by first|(rw [zi];with_reducible exact H)|(have Qc:=(Option.bind_some _ _).symm.trans H;rw [zi];with_reducible exact Qc)|(have Qc:=(Option.bind_some _ _).symm.trans H;with_reducible exact Qc)|with_reducible exact H|(rw [zi];exact H)|exact H
      have fo:=aa.mk zi;clear zi;replace H:=Option.bind_eq_some_iff.mp H;obtain ⟨t115,sZ,H⟩:=H
      try dsimp only at H
      have A12:=aa.mk sZ;clear sZ
      by_cases Cx:t115=true
      ·subst Cx;rw [if_pos rfl] at H;have H':=aa.mk H;clear H;obtain ⟨Oah,nN,p_,_⟩:=Kd.Fk jf.out;subst p_;have Gl:0 ≤ (0:Int):=(by omega);have Fl:0 < (qc.length:Int):=Ja;obtain ⟨Xi,Hw,Ck⟩:=Kd.Ld (Kd.Gm jf.out).2.2 0 Gl Fl;cases Hw;have gV:(0 < qc.length)=True:=eq_true (by omega);(try rw [show ((0:Int)).toNat=0 from rfl] at Ck);(try rw [Addr.add_zero'] at Ck);replace Gl:=eq_true Gl;replace Fl:=eq_true Fl;have SC:(1:Int) ≤ ((qc.length:Int):Int):=Ja;obtain ⟨naf,RO,_,EO,_⟩:=info_parts info3;have wS:=Wn (P:=Try.prog) 22 3 .i64 Try.underlying22 RO 1 EO (some Xi) qc.length nN 1 (by omega) SC;have TI:=Kd.Tw (k:=(1:Int).toNat) jf.out (by omega);obtain ⟨A15,cN⟩:∃ A1,A1=(if nN=(1:Int).toNat then (some Xi) else ((some Xi):Option Addr).map (·.add ((1:Int).toNat * 1))):=⟨_,rfl⟩;obtain ⟨Zw,CS⟩:∃ c1,c1=nN - (1:Int).toNat:=⟨_,rfl⟩;have dR:Xf.length=qc.length - (1:Int).toNat:=(by rw [fo.out,List.length_drop]);rw [← fo.out] at TI;rw [← dR,← cN,← CS] at wS;replace TI:Kd.Q (Kd.int .i64) 3 wr w.heap.size (fun k_=>some k_ ≠ (u7:Value).ownBlock) (.slice A15 Xf.length Zw) Xf:=(by rw [cN,CS,dR];exact TI);have maa:aa ((Value.slice A15 Xf.length Zw).ownBlock=(.slice (some Xi) qc.length nN:Value).ownBlock):=⟨by rw [cN];split <;> (cases ((some Xi):Option Addr) <;> rfl)⟩;clear dR RO EO jf cN CS;have Og:=aa.mk TI;clear TI;replace SC:=eq_true SC;have n_:=aa.mk (Kd.Eb (cl:=fun k_=>some k_ ≠ (.slice A15 Xf.length Zw:Value).ownBlock) Od.out (fun k_ hk=>(by rw [maa.out];exact hk)));clear Od;have Od:=n_;clear n_;obtain ⟨wC,RB,UJ⟩:=Kd.Vb Od.out;subst UJ;go_wp2_with (first|((with_reducible refine Kb (f:=83) rfl ?_);refine ie (some 26) rfl rfl Try.func83 (by kernel_rfl) rfl #[.slice wC Rn.length RB,.int .i64 (rd qc 0)] rfl paj ?_;(with_reducible refine (Gb.calls k1 _ _ Rn (rd qc 0) true _ ?Oc ?Nc A12.out).mono ?_);(case Oc=>repeat (first|exact (Kd.Ua Od.out).2.2|(with_reducible refine Kd.Gd ?_ _)|(with_reducible refine Kd.Ed ?_ _)|(with_reducible refine Kd.He ?_)));(case Nc=>exact (Kd.Ua Od.out).2.1);rintro e w' ⟨rfl,⟨nd,rfl⟩⟩;refine ⟨_,rfl,?_⟩))
       go_roundg k1
       case measure=>have:=Kf.out;omega
       case rel=>exact ⟨(Rn),(Xf),H',⟨by have:=Kf.out;omega⟩,⟨iak⟩,⟨by (with_reducible repeat (first|apply Kd.ye|apply Kd.xe|apply Kd.Ze));exact Og.out⟩,⟨saj⟩,⟨oaj⟩⟩
      ·replace Cx:=Bool.eq_false_iff.mpr Cx;subst Cx;rw [if_neg (show ¬ (false=true) by decide)] at H
       by_cases Yw:Rn.length < 17592186044416
       ·rw [if_pos Yw] at H;have FX:=aa.mk Yw;clear Yw;obtain ⟨Rv,Qp⟩:∃ y_:List Int,y_=(Rn ++ [rd qc 0]):=⟨_,rfl⟩;replace H:(Xb.l1 k1 Rv Xf (rd qc 0) oa (oa.length:Int) 0 Ma Oa Pa Na oa)=some r:=by first|(rw [Qp];with_reducible exact H)|(have Qc:=(Option.bind_some _ _).symm.trans H;rw [Qp];with_reducible exact Qc)|(have Qc:=(Option.bind_some _ _).symm.trans H;with_reducible exact Qc)|with_reducible exact H|(rw [Qp];exact H)|exact H
        have DK:=aa.mk Qp;clear Qp;have H':=aa.mk H;clear H;obtain ⟨Nah,mN,o_,_⟩:=Kd.Fk jf.out;subst o_;have Gl:0 ≤ (0:Int):=(by omega);have Fl:0 < (qc.length:Int):=Ja;obtain ⟨Xi,Hw,Ck⟩:=Kd.Ld (Kd.Gm jf.out).2.2 0 Gl Fl;cases Hw;have gV:(0 < qc.length)=True:=eq_true (by omega);(try rw [show ((0:Int)).toNat=0 from rfl] at Ck);(try rw [Addr.add_zero'] at Ck);replace Gl:=eq_true Gl;replace Fl:=eq_true Fl;have lV:(1:Int) ≤ ((qc.length:Int):Int):=Ja;obtain ⟨maf,QO,_,CO,_⟩:=info_parts info3;have vS:=Wn (P:=Try.prog) 22 3 .i64 Try.underlying22 QO 1 CO (some Xi) qc.length mN 1 (by omega) lV;have SI:=Kd.Tw (k:=(1:Int).toNat) jf.out (by omega);obtain ⟨k5,bN⟩:∃ A1,A1=(if mN=(1:Int).toNat then (some Xi) else ((some Xi):Option Addr).map (·.add ((1:Int).toNat * 1))):=⟨_,rfl⟩;obtain ⟨Hz,BS⟩:∃ c1,c1=mN - (1:Int).toNat:=⟨_,rfl⟩;have bR:Xf.length=qc.length - (1:Int).toNat:=(by rw [fo.out,List.length_drop]);rw [← fo.out] at SI;rw [← bR,← bN,← BS] at vS;replace SI:Kd.Q (Kd.int .i64) 3 wr w.heap.size (fun k_=>some k_ ≠ (u7:Value).ownBlock) (.slice k5 Xf.length Hz) Xf:=(by rw [bN,BS,bR];exact SI);have laa:aa ((Value.slice k5 Xf.length Hz).ownBlock=(.slice (some Xi) qc.length mN:Value).ownBlock):=⟨by rw [bN];split <;> (cases ((some Xi):Option Addr) <;> rfl)⟩;clear bR QO CO jf bN BS;have Og:=aa.mk SI;clear SI;replace lV:=eq_true lV;have n_:=aa.mk (Kd.Eb (cl:=fun k_=>some k_ ≠ (.slice k5 Xf.length Hz:Value).ownBlock) Od.out (fun k_ hk=>(by rw [laa.out];exact hk)));clear Od;have Od:=n_;clear n_;obtain ⟨jZ,uW,l_⟩:=Kd.Vb Od.out;subst l_;go_wp2_with (first|((with_reducible refine Kb (f:=83) rfl ?_);refine ie (some 26) rfl rfl Try.func83 (by kernel_rfl) rfl #[.slice jZ Rn.length uW,.int .i64 (rd qc 0)] rfl paj ?_;(with_reducible refine (Gb.calls k1 _ _ Rn (rd qc 0) false _ ?Oc ?Nc A12.out).mono ?_);(case Oc=>repeat (first|exact (Kd.Ua Od.out).2.2|(with_reducible refine Kd.Gd ?_ _)|(with_reducible refine Kd.Ed ?_ _)|(with_reducible refine Kd.He ?_)));(case Nc=>exact (Kd.Ua Od.out).2.1);rintro e w' ⟨rfl,⟨nd,rfl⟩⟩;refine ⟨_,rfl,?_⟩)|((with_reducible refine Bg (b:=.append) (xs:=#[.tmp 27,.tmp 29]) rfl ?_);at_builtin;refine Kd.Fm (Kd.int .i64) (w0:=w) w.heap.size rfl (.tmp 27) (.tmp 29) 22 3 (.int .i64 0) 8 rfl Try.underlying22 info3 rfl (by decide) (by omega) (.slice jZ Rn.length uW) Rn (rd qc 0) [.int .i64 (rd qc 0)] (fun k_=>some k_ ≠ (.slice k5 Xf.length Hz:Value).ownBlock) (fun _=>False) rfl rfl ?aP (fun _ hk=>hk.elim) ?aF ?aO ?aB ?aS ?aL ?_;(case aP=>exact rfl);(case aB=>exact laj);(case aF=>exact (fun k_ hk=>Kd.fresh' (Kd.zH (by (with_reducible repeat (first|apply Kd.ye|apply Kd.xe|apply Kd.Ze));exact Og.out)) k_ hk));(case aO=>exact bak);(case aS=>exact (Qa laj));(case aL=>have:=FX.out;omega);intro v117 St ho hb hg hat;rw [← DK.out] at ho;have Pb:=aa.mk (Kd.bG (ok:=(fun _=>True)) (by (with_reducible repeat (first|apply Kd.ye|apply Kd.xe|apply Kd.Ze));exact Kd.Vg Og.out (fun _ hk=>⟨trivial,hk⟩)) hg hat);have Rb:=aa.mk (uf (g:=Ka) (o:=.cells #[.slice zb Ma.length yb,.int .i64 Oa,.int .i64 Pa,.int .i64 Na,.slice Ob oa.length Fb] 45 (0,0)) naj hg (Kd.xp Od.out qa.out (by decide)));have Yb:=aa.mk (hb);have Vc:=aa.mk (ho);clear Og qa HB Od;have Og:=Pb;have qa:=Rb;have HB:=Yb;have rY:=Vc;clear Pb Rb Yb Vc ho hb hg hat;have NM:St.cell? ⟨Ka,0,none⟩=some (.slice zb Ma.length yb):=(ya qa.out 0).trans rfl;have MM:St.cell? ⟨Ka,1,none⟩=some (.int .i64 Oa):=(ya qa.out 1).trans rfl;have LM:St.cell? ⟨Ka,2,none⟩=some (.int .i64 Pa):=(ya qa.out 2).trans rfl;have KM:St.cell? ⟨Ka,3,none⟩=some (.int .i64 Na):=(ya qa.out 3).trans rfl;have JM:St.cell? ⟨Ka,4,none⟩=some (.slice Ob oa.length Fb):=(ya qa.out 4).trans rfl;have uM:=za qa.out 0;have sM:=za qa.out 1;have rM:=za qa.out 2;have qM:=za qa.out 3;have pM:=za qa.out 4))
        go_loopg [8,34] k1 (fun kq v8 v34 w'=>∃ (me:List Int) (Tb:Int),v34 = .int .i64 Tb∧aa (Xb.l1 kq Rv me (rd qc 0) oa (oa.length:Int) Tb Ma Oa Pa Na oa=some r)∧aa (kq ≤ k1)∧aa (Kd.R (Kd.int .i64) 3 w' w.heap.size (fun k_=>some k_ ≠ (v8:Value).ownBlock) v117 Rv)∧aa (Kd.Q (Kd.int .i64) 3 w' w.heap.size (fun k_=>some k_ ≠ (v117:Value).ownBlock) v8 me)∧aa (w'.heap[Ka]? = some (.cells #[(.slice zb Ma.length yb),.int .i64 Oa,.int .i64 Pa,.int .i64 Na,(.slice Ob oa.length Fb)] 45 (0,0)))∧aa (Below w.heap.size w w'))
        case atStart=>exact ⟨(Xf),(0),raj,H',⟨Nat.le_refl _⟩,⟨by (with_reducible repeat (first|apply Kd.Ia|apply Kd.La|apply Kd.Ra));exact rY.out⟩,⟨by (with_reducible repeat (first|apply Kd.ye|apply Kd.xe|apply Kd.Ze));exact Kd.Vg Og.out (fun _ hk=>hk.2)⟩,⟨saj⟩,⟨oaj⟩⟩
        case round =>
         clear H'
         try clear c1
         try clear p1
         try clear q1
         try clear hx1
         try clear o6
         try clear p2
         try clear c8
         try clear c9
         try clear pN
         try clear AW
         try clear mK
         try clear VW
         try clear UW
         try clear Dx
         try clear ay
         try clear TW
         try clear M6
         try clear EH
         try clear qV
         try clear iV
         try clear Cx
         try clear Zw
         try clear SC
         try clear Yw
         try clear Hz
         try clear lV
         try clear NM
         try clear MM
         try clear LM
         try clear KM
         try clear JM
         try clear uM
         try clear sM
         try clear rM
         try clear qM
         try clear pM
         try clear Ck
         try clear Gl
         try clear p2
         try clear Fl
         try clear SC
         try clear lV
         (try clear HA);(try clear aj);(try clear Od);(try clear jf);(try clear qa);(try clear HB);obtain ⟨me,Tb,rfl,HA,aj,Od,jf,qa,HB⟩:=hrel;cases gk with
         | zero=>exact absurd HA.out (by simp [Xb.l1])
         | succ k2 =>
          have H:=HA.out;clear HA;simp only [Xb.l1] at H
          by_cases Qn:Tb < (oa.length:Int)
          ·rw [if_pos Qn] at H;have bq:decide (Tb < (oa.length:Int))=true:=decide_eq_true Qn;clear Qn
           by_cases TB:0 ≤ Tb
           ·rw [if_pos TB] at H;have SF:decide (0 ≤ Tb)=true:=decide_eq_true TB;clear TB
            by_cases SB:Tb < (oa.length:Int)
            ·rw [if_pos SB] at H;have tP:decide (Tb < (oa.length:Int))=true:=decide_eq_true SB;clear SB;replace H:=Option.bind_eq_some_iff.mp H;obtain ⟨t121,oZ,H⟩:=H
             try dsimp only at H
             have A26:=aa.mk oZ;clear oZ;replace H:=Option.bind_eq_some_iff.mp H;obtain ⟨t124,dL,H⟩:=H
             try dsimp only at H
             have xL:=aa.mk dL;clear dL
             by_cases zu:t124=true
             ·subst zu;rw [if_pos rfl] at H
              by_cases MD:me.length < 17592186044416
              ·rw [if_pos MD] at H;have JK:=aa.mk MD;clear MD;obtain ⟨qy,Mk⟩:∃ y_:List Int,y_=(me ++ [Tb]):=⟨_,rfl⟩;replace H:(Xb.l1 k2 Rv qy (rd qc 0) oa (oa.length:Int) (wrap64 (Tb + 1)) Ma Oa Pa Na oa)=some r:=by first|(rw [Mk];with_reducible exact H)|(have Qc:=(Option.bind_some _ _).symm.trans H;rw [Mk];with_reducible exact Qc)|(have Qc:=(Option.bind_some _ _).symm.trans H;with_reducible exact Qc)|with_reducible exact H|(rw [Mk];exact H)|exact H
               have lC:=aa.mk Mk;clear Mk;have H':=aa.mk H;clear H;have gw:0 ≤ (Tb:Int):=Ja;have cw:Tb < (oa.length:Int):=Ja;obtain ⟨Zo,Xg,Tg,XJ,xq,Ds,Cs,Bs,js,Vs,Zs⟩:=Vj Dh.out Tb gw cw;cases XJ;replace xq:=Jb HB.out xq;replace Ds:=Jb HB.out Ds;replace Cs:=Jb HB.out Cs;replace Bs:=Jb HB.out Bs;replace js:=Jb HB.out js;have Yz:=aa.mk Zs;have cA:=aa.mk Vs;clear Zs Vs;replace gw:=eq_true gw;replace cw:=eq_true cw;go_wp2_with (first|((with_reducible refine Qb (N:=11) rfl ?_);refine Ic ?hg (N:=11) ?hd (cs:=#[.slice none 0 0,.int .i64 0,.int .i64 0,.int .i64 0,.int .i64 0]) (t:=83) ?hr ?_;(case hd|hg=>rfl);(case hr=>exact jaj);intro Vd hg aV Bd hb;have Pb:=aa.mk (Kd.ec bak hb);have Rb:=aa.mk (Kd.En Oaj hb);have Yb:=aa.mk (Ta (g:=Ka) (o:=.cells #[.slice zb Ma.length yb,.int .i64 Oa,.int .i64 Pa,.int .i64 Na,.slice (some Zo) oa.length Fb] 45 (0,0)) naj hb);have Vc:=aa.mk (Ga laj hb);have Df:=aa.mk (Bd);have Qg:=aa.mk ((by rw [hg];exact (Qa laj):w.heap.size ≤ Vd));have dr:=aa.mk ((by rw [hg];exact (Qa laj):w.heap.size ≤ Vd));have yE:=aa.mk ((by rw [hg];exact Nat.ne_of_lt (Te (g:=Ka) (o:=.cells #[.slice zb Ma.length yb,.int .i64 Oa,.int .i64 Pa,.int .i64 Na,.slice (some Zo) oa.length Fb] 45 (0,0)) naj):Ka ≠ Vd));have xE:=aa.mk ((by rw [hg];exact Nat.ne_of_gt (Te (g:=Ka) (o:=.cells #[.slice zb Ma.length yb,.int .i64 Oa,.int .i64 Pa,.int .i64 Na,.slice (some Zo) oa.length Fb] 45 (0,0)) naj):Vd ≠ Ka));clear Od jf qa HB;have Od:=Pb;have jf:=Rb;have qa:=Yb;have HB:=Vc;have Tf:=Df;have dZ:=Qg;have jq:=dr;have Gg:=yE;have Eu:=xE;clear Pb Rb Yb Vc Df Qg dr yE xE hb Bd hg;have Zab:=Eu.out;have Tab:=Gg.out;have IM:aV.cell? ⟨Vd,0,none⟩=some (.slice none 0 0):=(ya Tf.out 0).trans rfl;have GM:aV.cell? ⟨Vd,1,none⟩=some (.int .i64 0):=(ya Tf.out 1).trans rfl;have FM:aV.cell? ⟨Vd,2,none⟩=some (.int .i64 0):=(ya Tf.out 2).trans rfl;have EM:aV.cell? ⟨Vd,3,none⟩=some (.int .i64 0):=(ya Tf.out 3).trans rfl;have DM:aV.cell? ⟨Vd,4,none⟩=some (.int .i64 0):=(ya Tf.out 4).trans rfl;have oM:=za Tf.out 0;have nM:=za Tf.out 1;have mM:=za Tf.out 2;have lM:=za Tf.out 3;have kM:=za Tf.out 4)|((with_reducible refine Kb (f:=75) rfl ?_);refine ie (some 40) rfl rfl Try.func75 (by kernel_rfl) rfl #[.agg #[.slice Xg ((Ea oa Tb).f0).length Tg,.int .i64 ((Ea oa Tb).f1),.int .i64 ((Ea oa Tb).f2),.int .i64 ((Ea oa Tb).f3),.int .i64 ((Ea oa Tb).f4)]] rfl paj ?_;(with_reducible refine (ue.calls _ _ ((Ea oa Tb).f0) ((Ea oa Tb).f1) ((Ea oa Tb).f2) ((Ea oa Tb).f3) ((Ea oa Tb).f4) t121 _ ?Oc ?Nc A26.out).mono ?_);(case Oc=>exact Kd.Za Yz.out Faj);(case Nc=>exact cA.out);rintro e w33 ⟨cV,rfl,Rg,hb⟩;refine ⟨_,rfl,?_⟩;have Pb:=aa.mk (Kd.Ag vaj (Kd.Wf Rg) hb);have Rb:=aa.mk (Kd.Pt uaj (Kd.Wf Rg) hb);have Yb:=aa.mk (Kd.Xc (Kd.Bh (Kd.Bh Rg (Kd.Yi vaj)) (Kd.zH uaj)) (Qa Faj));have Vc:=aa.mk (Ta (g:=Ka) (o:=.cells #[.slice zb Ma.length yb,.int .i64 Oa,.int .i64 Pa,.int .i64 Na,.slice (some Zo) oa.length Fb] 45 (0,0)) Raj hb);have Df:=aa.mk (Ta (g:=Vd) (o:=.cells #[.slice Xg ((Ea oa Tb).f0).length Tg,.int .i64 ((Ea oa Tb).f1),.int .i64 ((Ea oa Tb).f2),.int .i64 ((Ea oa Tb).f3),.int .i64 ((Ea oa Tb).f4)] 83 (0,0)) Aaj hb);have Qg:=aa.mk (Ga Faj hb);clear Od jf qa Tf HB;have Od:=Pb;have jf:=Rb;have Ih:=Yb;have qa:=Vc;have Tf:=Df;have HB:=Qg;clear Pb Rb Yb Vc Df Qg;(try clear hb);(try clear Cl);(try clear hk);(try clear hi);(try clear Rg);obtain ⟨pO,bK,SS⟩:=Kd.Vb Ih.out;subst SS)|((with_reducible refine Kb (f:=83) rfl ?_);refine ie (some 42) rfl rfl Try.func83 (by kernel_rfl) rfl #[.slice pO t121.length bK,.int .i64 (rd qc 0)] rfl paj ?_;(with_reducible refine (Gb.calls k2 _ _ t121 (rd qc 0) true _ ?Oc ?Nc xL.out).mono ?_);(case Oc=>repeat (first|exact (Kd.Ua Ih.out).2.2|(with_reducible refine Kd.Gd ?_ _)|(with_reducible refine Kd.Ed ?_ _)|(with_reducible refine Kd.He ?_)));(case Nc=>exact (Kd.Ua Ih.out).2.1);rintro e w' ⟨rfl,⟨nd,rfl⟩⟩;refine ⟨_,rfl,?_⟩)|((with_reducible refine Bg (b:=.append) (xs:=#[.tmp 43,.tmp 45]) rfl ?_);at_builtin;refine Kd.Qt (Kd.int .i64) (w0:=w) w.heap.size rfl (.tmp 43) (.tmp 45) 22 3 (.int .i64 0) 8 rfl Try.underlying22 info3 rfl (by decide) (by omega) u8 me Tb [.int .i64 Tb] (fun k_=>some k_ ≠ (v117:Value).ownBlock∧some k_ ≠ (.slice pO t121.length bK:Value).ownBlock) (fun _=>False) rfl rfl ?aP (fun _ hk=>hk.elim) ?aF ?aO ?aB ?aS ?aL ?_;(case aP=>exact rfl);(case aB=>exact Faj);(case aF=>exact (fun k_ hk=>⟨Kd.fresh' (Kd.Yi bak) k_ hk,Kd.fresh' (Kd.Yi (by (with_reducible repeat (first|apply Kd.Ia|apply Kd.La|apply Kd.Ra));exact Ih.out)) k_ hk⟩));(case aO=>exact Oaj);(case aS=>exact (Qa Faj));(case aL=>have:=JK.out;omega);intro W5 xQ ho hb hg hat;rw [← lC.out] at ho;have Pb:=aa.mk (Kd.qg (ok:=(fun k_=>some k_ ≠ (.slice pO t121.length bK:Value).ownBlock)) (by (with_reducible repeat (first|apply Kd.Ia|apply Kd.La|apply Kd.Ra));exact Kd.Eb Od.out (fun _ hk=>⟨hk.2,hk.1⟩)) hg hat);have Rb:=aa.mk (uf (g:=Ka) (o:=.cells #[.slice zb Ma.length yb,.int .i64 Oa,.int .i64 Pa,.int .i64 Na,.slice (some Zo) oa.length Fb] 45 (0,0)) naj hg (Kd.DN jf.out qa.out (by decide)));have Yb:=aa.mk (uf (g:=Vd) (o:=.cells #[.slice Xg ((Ea oa Tb).f0).length Tg,.int .i64 ((Ea oa Tb).f1),.int .i64 ((Ea oa Tb).f2),.int .i64 ((Ea oa Tb).f3),.int .i64 ((Ea oa Tb).f4)] 83 (0,0)) (by (with_reducible repeat (first|refine Ca ?_ _|refine Fa ?_|refine Ba ?_ _));exact Tf.out) hg (Kd.DN jf.out Tf.out (by decide)));have Vc:=aa.mk (Kd.qg (ok:=(fun k_=>some k_ ≠ (v117:Value).ownBlock)) (by (with_reducible repeat (first|apply Kd.Ia|apply Kd.La|apply Kd.Ra));exact Kd.Eb Ih.out (fun _ hk=>⟨hk.1.2,hk.2⟩)) hg hat);have Df:=aa.mk (hb);have Qg:=aa.mk (ho);clear Od qa Tf Ih HB jf;have Od:=Pb;have qa:=Rb;have Tf:=Yb;have Ih:=Vc;have HB:=Df;have TK:=Qg;clear Pb Rb Yb Vc Df Qg ho hb hg hat))
               go_roundg k2
               case measure=>have:=Kf.out;have:=aj.out;omega
               case rel=>exact ⟨(qy),(wrap64 (Tb + 1)),raj,H',⟨by have:=Kf.out;have:=aj.out;omega⟩,⟨by (with_reducible repeat (first|apply Kd.Ia|apply Kd.La|apply Kd.Ra));exact Kd.Eb Od.out (fun _ hk=>hk.2)⟩,⟨by (with_reducible repeat (first|apply Kd.ye|apply Kd.xe|apply Kd.Ze));exact Kd.Vg TK.out (fun _ hk=>hk.1)⟩,⟨saj⟩,⟨by repeat (first|(with_reducible first|exact HB.out|apply ia|apply ga|apply ja|refine ta ?_ Xa.out|refine ta ?_ jq.out)|exact HB.out)⟩⟩
              ·rw [if_neg MD] at H;exact absurd H (by simp)
             ·replace zu:=Bool.eq_false_iff.mpr zu;subst zu;rw [if_neg (show ¬ (false=true) by decide)] at H;have H':=aa.mk H;clear H;have gw:0 ≤ (Tb:Int):=Ja;have cw:Tb < (oa.length:Int):=Ja;obtain ⟨Zo,Xg,Tg,XJ,xq,Ds,Cs,Bs,js,Vs,Zs⟩:=Vj Dh.out Tb gw cw;cases XJ;replace xq:=Jb HB.out xq;replace Ds:=Jb HB.out Ds;replace Cs:=Jb HB.out Cs;replace Bs:=Jb HB.out Bs;replace js:=Jb HB.out js;have Yz:=aa.mk Zs;have cA:=aa.mk Vs;clear Zs Vs;replace gw:=eq_true gw;replace cw:=eq_true cw;go_wp2_with (first|((with_reducible refine Qb (N:=11) rfl ?_);refine Ic ?hg (N:=11) ?hd (cs:=#[.slice none 0 0,.int .i64 0,.int .i64 0,.int .i64 0,.int .i64 0]) (t:=83) ?hr ?_;(case hd|hg=>rfl);(case hr=>exact jaj);intro Vd hg zL Bd hb;have Pb:=aa.mk (Kd.ec bak hb);have Rb:=aa.mk (Kd.En Oaj hb);have Yb:=aa.mk (Ta (g:=Ka) (o:=.cells #[.slice zb Ma.length yb,.int .i64 Oa,.int .i64 Pa,.int .i64 Na,.slice (some Zo) oa.length Fb] 45 (0,0)) naj hb);have Vc:=aa.mk (Ga laj hb);have Df:=aa.mk (Bd);have Qg:=aa.mk ((by rw [hg];exact (Qa laj):w.heap.size ≤ Vd));have dr:=aa.mk ((by rw [hg];exact (Qa laj):w.heap.size ≤ Vd));have yE:=aa.mk ((by rw [hg];exact Nat.ne_of_lt (Te (g:=Ka) (o:=.cells #[.slice zb Ma.length yb,.int .i64 Oa,.int .i64 Pa,.int .i64 Na,.slice (some Zo) oa.length Fb] 45 (0,0)) naj):Ka ≠ Vd));have xE:=aa.mk ((by rw [hg];exact Nat.ne_of_gt (Te (g:=Ka) (o:=.cells #[.slice zb Ma.length yb,.int .i64 Oa,.int .i64 Pa,.int .i64 Na,.slice (some Zo) oa.length Fb] 45 (0,0)) naj):Vd ≠ Ka));clear Od jf qa HB;have Od:=Pb;have jf:=Rb;have qa:=Yb;have HB:=Vc;have Tf:=Df;have dZ:=Qg;have jq:=dr;have Gg:=yE;have Eu:=xE;clear Pb Rb Yb Vc Df Qg dr yE xE hb Bd hg;have Yab:=Eu.out;have Sab:=Gg.out;have X1:zL.cell? ⟨Vd,0,none⟩=some (.slice none 0 0):=(ya Tf.out 0).trans rfl;have V1:zL.cell? ⟨Vd,1,none⟩=some (.int .i64 0):=(ya Tf.out 1).trans rfl;have U1:zL.cell? ⟨Vd,2,none⟩=some (.int .i64 0):=(ya Tf.out 2).trans rfl;have T1:zL.cell? ⟨Vd,3,none⟩=some (.int .i64 0):=(ya Tf.out 3).trans rfl;have O1:zL.cell? ⟨Vd,4,none⟩=some (.int .i64 0):=(ya Tf.out 4).trans rfl;have UZ:=za Tf.out 0;have TZ:=za Tf.out 1;have SZ:=za Tf.out 2;have RZ:=za Tf.out 3;have QZ:=za Tf.out 4)|((with_reducible refine Kb (f:=75) rfl ?_);refine ie (some 40) rfl rfl Try.func75 (by kernel_rfl) rfl #[.agg #[.slice Xg ((Ea oa Tb).f0).length Tg,.int .i64 ((Ea oa Tb).f1),.int .i64 ((Ea oa Tb).f2),.int .i64 ((Ea oa Tb).f3),.int .i64 ((Ea oa Tb).f4)]] rfl paj ?_;(with_reducible refine (ue.calls _ _ ((Ea oa Tb).f0) ((Ea oa Tb).f1) ((Ea oa Tb).f2) ((Ea oa Tb).f3) ((Ea oa Tb).f4) t121 _ ?Oc ?Nc A26.out).mono ?_);(case Oc=>exact Kd.Za Yz.out Faj);(case Nc=>exact cA.out);rintro e w39 ⟨cV,rfl,Rg,hb⟩;refine ⟨_,rfl,?_⟩;have Pb:=aa.mk (Kd.Ag vaj (Kd.Wf Rg) hb);have Rb:=aa.mk (Kd.Pt uaj (Kd.Wf Rg) hb);have Yb:=aa.mk (Kd.Xc (Kd.Bh (Kd.Bh Rg (Kd.Yi vaj)) (Kd.zH uaj)) (Qa Faj));have Vc:=aa.mk (Ta (g:=Ka) (o:=.cells #[.slice zb Ma.length yb,.int .i64 Oa,.int .i64 Pa,.int .i64 Na,.slice (some Zo) oa.length Fb] 45 (0,0)) Raj hb);have Df:=aa.mk (Ta (g:=Vd) (o:=.cells #[.slice Xg ((Ea oa Tb).f0).length Tg,.int .i64 ((Ea oa Tb).f1),.int .i64 ((Ea oa Tb).f2),.int .i64 ((Ea oa Tb).f3),.int .i64 ((Ea oa Tb).f4)] 83 (0,0)) Aaj hb);have Qg:=aa.mk (Ga Faj hb);clear Od jf qa Tf HB;have Od:=Pb;have jf:=Rb;have Ih:=Yb;have qa:=Vc;have Tf:=Df;have HB:=Qg;clear Pb Rb Yb Vc Df Qg;(try clear hb);(try clear Cl);(try clear hk);(try clear hi);(try clear Rg);obtain ⟨iZ,tW,PS⟩:=Kd.Vb Ih.out;subst PS)|((with_reducible refine Kb (f:=83) rfl ?_);refine ie (some 42) rfl rfl Try.func83 (by kernel_rfl) rfl #[.slice iZ t121.length tW,.int .i64 (rd qc 0)] rfl paj ?_;(with_reducible refine (Gb.calls k2 _ _ t121 (rd qc 0) false _ ?Oc ?Nc xL.out).mono ?_);(case Oc=>repeat (first|exact (Kd.Ua Ih.out).2.2|(with_reducible refine Kd.Gd ?_ _)|(with_reducible refine Kd.Ed ?_ _)|(with_reducible refine Kd.He ?_)));(case Nc=>exact (Kd.Ua Ih.out).2.1);rintro e w' ⟨rfl,⟨nd,rfl⟩⟩;refine ⟨_,rfl,?_⟩))
              go_roundg k2
              case measure=>have:=Kf.out;have:=aj.out;omega
              case rel=>exact ⟨(me),(wrap64 (Tb + 1)),raj,H',⟨by have:=Kf.out;have:=aj.out;omega⟩,⟨by (with_reducible repeat (first|apply Kd.Ia|apply Kd.La|apply Kd.Ra));exact Kd.Eb Od.out (fun _ hk=>hk.1)⟩,⟨by (with_reducible repeat (first|apply Kd.ye|apply Kd.xe|apply Kd.Ze));exact Kd.Vg jf.out (fun _ hk=>hk.1)⟩,⟨saj⟩,⟨by repeat (first|(with_reducible first|exact HB.out|apply ia|apply ga|apply ja|refine ta ?_ Xa.out|refine ta ?_ jq.out)|exact HB.out)⟩⟩
            ·rw [if_neg SB] at H;exact absurd H (by simp)
           ·rw [if_neg TB] at H;exact absurd H (by simp)
          ·rw [if_neg Qn] at H;have bq:decide (Tb < (oa.length:Int))=false:=decide_eq_false Qn;clear Qn;have H':=aa.mk H;clear H;go_wp2
           go_roundg k2
           case measure=>have:=Kf.out;have:=aj.out;omega
           case rel=>exact ⟨(Rv),(me),H',⟨by have:=Kf.out;have:=aj.out;omega⟩,⟨iak⟩,⟨by (with_reducible repeat (first|apply Kd.ye|apply Kd.xe|apply Kd.Ze));exact jf.out⟩,⟨saj⟩,⟨oaj⟩⟩
       ·rw [if_neg Yw] at H;exact absurd H (by simp)
     ·rw [if_neg Dx] at H;exact absurd H (by simp)
    ·rw [if_neg mK] at H;exact absurd H (by simp)
   ·rw [if_neg c9] at H;have pN:decide (0 < (qc.length:Int))=false:=decide_eq_false c9;have AW:decide (0 < qc.length)=false:=decide_eq_false (by omega);clear c9;replace H:=Option.bind_eq_some_iff.mp H;obtain ⟨t108,lZ,H⟩:=H
    try dsimp only at H
    have A41:=aa.mk lZ;clear lZ;obtain rfl:=Option.some.inj H;obtain ⟨yaa,B_,W9,_⟩:=Kd.Fk jf.out;subst W9;obtain ⟨tU,kT,V9⟩:=Kd.Vb Od.out;subst V9;go_wp2_with (first|((with_reducible refine Kb (f:=86) rfl ?_);refine ie (some 49) rfl rfl Try.func86 (by kernel_rfl) rfl #[.slice tU Rn.length kT] rfl paj ?_;(with_reducible refine (Be.calls (fun k_=>some k_=(.slice tU Rn.length kT:Value).ownBlock) (.slice tU Rn.length kT) Rn t108 w _ ?Oc ?Nc A41.out).mono ?_);(case Oc=>repeat (first|(with_reducible first|exact HB.out|apply ia|apply ga|apply ja|refine ta ?_ Xa.out)|exact HB.out));(case Nc=>exact Kd.Ji rfl Od.out);rintro e w44 ⟨v109,rfl,Rg,hb,hkp⟩;refine ⟨_,rfl,?_⟩;have Pb:=aa.mk (Kd.Vg (cl:=fun k_=>some k_ ≠ (v109:Value).ownBlock) (Kd.EN (jf.out) hkp (fun k_ Tn hs_=>(Tn) hs_)) (fun k_ Tn=>fun e_=>Or.elim (Rg.1 k_ e_.symm) (fun hs_=>Tn.2.1 hs_) (fun zR=>Nat.not_le.2 Tn.2.2 zR)));have Rb:=aa.mk (jg naj hkp (fun hs_=>(fun e_=>(Kd.xp Od.out qa.out (by decide)) e_) hs_));have Yb:=aa.mk (Kd.Eb (cl:=fun k_=>some k_ ≠ (.slice yaa qc.length B_:Value).ownBlock) Rg (fun k_ Tn=>Or.elim Tn (fun hs_=>fun e_=>(((jf.out).1 k_ e_.symm)) hs_) (fun zR=>(Kd.fresh' (Kd.zH Oaj) k_ zR))));have Vc:=aa.mk (hb);clear jf qa HB Od;have jf:=Pb;have qa:=Rb;have bp:=Yb;have HB:=Vc;clear Pb Rb Yb Vc;(try clear hb);(try clear hkp);(try clear Rg)));go_ret;exact ⟨_,taj,by (with_reducible repeat (first|apply Kd.Ia|apply Kd.La|apply Kd.Ra));exact Kd.Eb bp.out (fun _ hk=>trivial),oaj⟩
theorem Jp:∀ (l1 l2:List Int),l1.Pairwise (· < ·)→l2.Pairwise (· < ·)→(∀ x,x ∈ l1 ↔ x ∈ l2)→l1=l2:=by
 intro l1
 induction l1 with
 | nil =>
  intro l2 _ _ h;cases l2 with
  | nil=>rfl
  | cons y l2=>exact absurd ((h y).2 (by simp)) (by simp)
 | cons x l1 ih =>
  intro l2 h1 h2 h;cases l2 with
  | nil=>exact absurd ((h x).1 (by simp)) (by simp)
  | cons y l2 =>
   obtain ⟨a1,a2⟩:=List.pairwise_cons.1 h1;obtain ⟨b1,b2⟩:=List.pairwise_cons.1 h2
   have e:x=y:=by
    rcases List.mem_cons.1 ((h x).1 (by simp)) with e|e
    ·exact e
    ·rcases List.mem_cons.1 ((h y).2 (by simp)) with e2|e2
     ·exact e2.symm
     ·have:=a1 y e2;have:=b1 x e;omega
   subst e
   congr 1
   refine ih l2 a2 b2 (fun z=>?_)
   constructor
   ·intro hz
    rcases List.mem_cons.1 ((h z).1 (List.mem_cons_of_mem _ hz)) with e|e
    ·have:=a1 z hz;omega
    ·exact e
   ·intro hz
    rcases List.mem_cons.1 ((h z).2 (List.mem_cons_of_mem _ hz)) with e|e
    ·have:=b1 z hz;omega
    ·exact e
theorem Kt (n:Int):Fg [] n=[n]:=by simp [Fg,sk]
theorem Au (x:Int) (l:List Int) (n:Int):Fg (x :: l) n=if x < n then x :: Fg l n else if x=n then x :: l else n :: x :: l:=by
 unfold Fg
 by_cases h:x < n
 ·have e:sk (x :: l) n=sk l n + 1:=by unfold sk;simp [List.takeWhile_cons,h]
  rw [e,if_pos h,Eo]
  by_cases h2:sk l n < l.length∧rd l (sk l n:Int)=n
  ·rw [if_pos h2,if_pos ⟨by simp;omega,h2.2⟩]
  ·rw [if_neg h2,if_neg (fun hc=>h2 ⟨by have:=hc.1;simp at this;omega,hc.2⟩)];simp
 ·have e:sk (x :: l) n=0:=by unfold sk;simp [List.takeWhile_cons,h]
  rw [e,if_neg h];have er:rd (x :: l) ((0:Nat):Int)=x:=rfl;rw [er]
  by_cases h2:x=n
  ·rw [if_pos h2,if_pos ⟨by simp,h2⟩]
  ·rw [if_neg h2,if_neg (fun hc=>h2 hc.2)];simp
theorem Bm (l:List Int) (n x:Int):x ∈ Fg l n ↔ x=n ∨ x ∈ l:=by
 induction l with
 | nil=>simp [Kt]
 | cons y l ih =>
  rw [Au]
  split
  ·rw [List.mem_cons,ih,List.mem_cons]
   constructor
   ·rintro (h|h|h)
    ·exact Or.inr (Or.inl h)
    ·exact Or.inl h
    ·exact Or.inr (Or.inr h)
   ·rintro (h|h|h)
    ·exact Or.inr (Or.inl h)
    ·exact Or.inl h
    ·exact Or.inr (Or.inr h)
  ·split
   ·rename_i h;subst h;simp
   ·simp
theorem Hq (l:List Int) (n:Int) (h:l.Pairwise (· < ·)):(Fg l n).Pairwise (· < ·):=by
 induction l with
 | nil=>simp [Kt]
 | cons y l ih =>
  obtain ⟨h1,h2⟩:=List.pairwise_cons.1 h;rw [Au]
  split
  ·rename_i hy;refine List.pairwise_cons.2 ⟨fun z hz=>?_,ih h2⟩
   rcases (Bm _ _ _).1 hz with e|e
   ·omega
   ·exact h1 z e
  ·split
   ·exact h
   ·refine List.pairwise_cons.2 ⟨fun z hz=>?_,h⟩
    rcases List.mem_cons.1 hz with e|e
    ·omega
    ·have:=h1 z e;omega
theorem bC (l:List Int) (n:Int):(Fg l n).length ≤ l.length + 1:=by
 induction l with
 | nil=>simp [Kt]
 | cons y l ih =>
  rw [Au]
  split
  ·simp;exact ih
  ·split <;> simp
theorem Iw (d:Array Int) (hd:∀ i j:Nat,i ≤ j→j < d.size→d[i]! ≤ d[j]!):∀ m:Nat,m ≤ d.size→(Go.Lib.compactUpTo d m).Pairwise (· < ·)∧∀ x,x ∈ Go.Lib.compactUpTo d m ↔ ∃ j,j < m∧d[j]! = x:=by
 intro m
 induction m with
 | zero =>
  intro _;simp [Go.Lib.compactUpTo]
 | succ m ih =>
  intro hm;obtain ⟨h1,h2⟩:=ih (by omega);rw [Go.Lib.compactUpTo_succ]
  by_cases hk:Go.Lib.keeps d m=true
  ·rw [if_pos hk];have hk2:m=0 ∨ d[m]! ≠ d[m - 1]!:=by simpa [Go.Lib.keeps] using hk
   refine ⟨List.pairwise_append.2 ⟨h1,by simp,fun a ha b hb=>?_⟩,fun x=>?_⟩
   ·rw [List.mem_singleton] at hb;subst hb;obtain ⟨j,hj,rfl⟩:=(h2 a).1 ha;have e1:=hd j (m - 1) (by omega) (by omega);have e2:=hd (m - 1) m (by omega) (by omega)
    rcases hk2 with e|e
    ·omega
    ·omega
   ·rw [List.mem_append,h2,List.mem_singleton]
    constructor
    ·rintro (⟨j,hj,e⟩|e)
     ·exact ⟨j,by omega,e⟩
     ·exact ⟨m,by omega,e.symm⟩
    ·rintro ⟨j,hj,e⟩
     by_cases hjm:j=m
     ·subst hjm;exact Or.inr e.symm
     ·exact Or.inl ⟨j,by omega,e⟩
  ·rw [if_neg hk,List.append_nil];refine ⟨h1,fun x=>?_⟩;rw [h2]
   have hk2:m ≠ 0∧d[m]! = d[m - 1]!:=by
    have:¬ (m=0 ∨ d[m]! ≠ d[m - 1]!):=by simpa [Go.Lib.keeps] using hk
    exact ⟨fun e=>this (Or.inl e),Decidable.byContradiction fun e=>this (Or.inr e)⟩
   constructor
   ·rintro ⟨j,hj,e⟩;exact ⟨j,by omega,e⟩
   ·rintro ⟨j,hj,e⟩
    by_cases hjm:j=m
    ·subst hjm;exact ⟨j - 1,by omega,by rw [← hk2.2];exact e⟩
    ·exact ⟨j,by omega,e⟩
theorem Kg (l:List Int):(Nh l).Pairwise (· < ·)∧∀ x,x ∈ Nh l ↔ x ∈ l:=by
 have hp:(l.mergeSort fun x y=>decide (x ≤ y)).Pairwise (fun a b=>decide (a ≤ b)=true):=List.pairwise_mergeSort (le:=fun x y:Int=>decide (x ≤ y)) (fun a b c h1 h2=>by simp at h1 h2 ⊢;omega) (fun a b=>by simp;omega) l;have hm:∀ x,x ∈ (l.mergeSort fun x y=>decide (x ≤ y)) ↔ x ∈ l:=fun x=>List.mem_mergeSort
 unfold Nh;generalize (l.mergeSort fun x y=>decide (x ≤ y))=s at hp hm
 have hd:∀ i j:Nat,i ≤ j→j < s.toArray.size→s.toArray[i]! ≤ s.toArray[j]!:=by
  intro i j hij hj;have hj':j < s.length:=by simpa using hj
  rcases Nat.lt_or_ge i j with h|h
  ·have:=List.pairwise_iff_getElem.1 hp i j (by omega) hj' h
   simpa [show i < s.length by omega,hj'] using this
  ·obtain rfl:i=j:=by omega
   exact Int.le_refl _
 obtain ⟨h1,h2⟩:=Iw s.toArray hd s.length (by simp);refine ⟨h1,fun x=>?_⟩;rw [← hm];refine (h2 x).trans ?_;rw [List.mem_iff_getElem]
 constructor
 ·rintro ⟨j,hj,e⟩;exact ⟨j,hj,by simpa [hj] using e⟩
 ·rintro ⟨j,hj,e⟩;exact ⟨j,hj,by simpa [hj] using e⟩
theorem Xu (l:List Int):(Nh l).length ≤ l.length:=by
 unfold Nh;have:=Wu (l.mergeSort fun x y=>decide (x ≤ y))
 rwa [List.length_mergeSort] at this
theorem Jt (l:List Int):l.foldl Fg []=Nh l:=by
 obtain ⟨h1,h2⟩:=Kg l
 have key:∀ (l a:List Int),a.Pairwise (· < ·)→(l.foldl Fg a).Pairwise (· < ·)∧∀ x,x ∈ l.foldl Fg a ↔ x ∈ a ∨ x ∈ l:=by
  intro l
  induction l with
  | nil=>intro a ha;exact ⟨ha,fun x=>by simp⟩
  | cons y l ih =>
   intro a ha;obtain ⟨k1,k2⟩:=ih (Fg a y) (Hq a y ha);refine ⟨k1,fun x=>?_⟩;rw [List.foldl_cons,k2,Bm,List.mem_cons]
   constructor
   ·rintro ((h|h)|h)
    ·exact Or.inr (Or.inl h)
    ·exact Or.inl h
    ·exact Or.inr (Or.inr h)
   ·rintro (h|h|h)
    ·exact Or.inl (Or.inr h)
    ·exact Or.inl (Or.inl h)
    ·exact Or.inr h
 obtain ⟨k1,k2⟩:=key l [] List.Pairwise.nil;exact Jp _ _ k1 h1 (fun x=>by rw [k2,h2];simp)
theorem vt (l a:List Int):(l.foldl Fg a).length ≤ a.length + l.length:=by
 induction l generalizing a with
 | nil=>simp
 | cons y l ih =>
  have h1:=ih (Fg a y);have h2:=bC a y;simp only [List.foldl_cons,List.length_cons];omega
theorem uh {l:List Int} {j:Nat} (hj:j < l.length):rd l (j:Int)=l[j]:=by simp [rd,List.getD_eq_getElem?_getD,hj]
def ux (b:Wd):List Int:=if b.f1=0 then [b.f3] else if b.f1=1 then [b.f3,b.f4] else []
theorem uq (b:Wd):ue.f b.f0 b.f1 b.f2 b.f3 b.f4=some (ux b):=by
 unfold ue.f ux
 by_cases h0:b.f1=0
 ·rw [if_pos h0,if_pos h0]
 ·rw [if_neg h0,if_neg h0]
  by_cases h1:b.f1=1
  ·rw [if_pos h1,if_pos h1]
  ·rw [if_neg h1,if_neg h1]
theorem sq (b:Wd):bf.f b.f0 b.f1 b.f2 b.f3 b.f4=some (ux b):=by
 unfold bf.f ux
 by_cases h0:b.f1=0
 ·rw [if_pos h0,if_pos h0]
 ·rw [if_neg h0,if_neg h0]
  by_cases h1:b.f1=1
  ·rw [if_pos h1,if_pos h1]
  ·rw [if_neg h1,if_neg h1]
theorem Ti (b:Wd):(ux b).length ≤ 2:=by
 unfold ux
 by_cases h0:b.f1=0
 ·rw [if_pos h0];simp
 ·rw [if_neg h0]
  by_cases h1:b.f1=1
  ·rw [if_pos h1];simp
  ·rw [if_neg h1];simp
def De (bs:List Wd) (i:Nat):List Int:=ux (Ea bs (i:Int))
def ze (bs:List Wd):Prop:=0 < bs.length∧bs.length ≤ 1048576∧∀ i,i < bs.length→∀ j ∈ De bs i,0 ≤ j∧j < (bs.length:Int)
theorem ym {l0:List Int} {p v s:Int} {bs:List Wd} (h:Ii l0 p v s bs=true):ze bs:=by
 unfold Ii at h;simp only [Bool.and_eq_true] at h;obtain ⟨h1,h2,-⟩:=h;have hh:=fH h1;refine ⟨by omega,by omega,fun i hi j hj=>?_⟩
 have hb:cq l0 s bs bs[i]=true:=by
  simp only [Bool.not_eq_true',List.any_eq_false] at h2;have:=h2 _ (List.getElem_mem hi)
  simpa using this
 unfold cq Tj at hb;simp only [Bool.and_eq_true] at hb;obtain ⟨-,hb⟩:=hb;unfold De at hj;rw [Zq hi] at hj;unfold ux at hj
 by_cases h0:bs[i].f1=0
 ·rw [if_pos h0] at hj hb;simp only [Bool.and_eq_true,uj,decide_eq_true_eq] at hb;rw [List.mem_singleton] at hj;subst hj;omega
 ·rw [if_neg h0] at hj hb
  by_cases h1:bs[i].f1=1
  ·rw [if_pos h1] at hj hb;simp only [Bool.and_eq_true,uj,decide_eq_true_eq] at hb;simp only [List.mem_cons,List.not_mem_nil,or_false] at hj
   rcases hj with hj|hj <;> subst hj <;> omega
  ·rw [if_neg h1] at hj;cases hj
inductive LP (nx:Nat→List Int) (n f t:Nat):Nat→Prop
 | hd:LP nx n f t t
 | fr:LP nx n f t f
 | step {b x:Nat}:LP nx n f t b→b ≠ t→x < n→(b:Int) ∈ nx x→LP nx n f t x
noncomputable def Kk (bs:List Wd) (f t:Nat):List Int:=open Classical in ((List.range bs.length).filter (fun x=>decide (LP (De bs) bs.length f t x))).map (fun (x:Nat)=>(x:Int))
theorem Pu:∀ (l:List Nat),l.Pairwise (· < ·)→(l.map (fun (x:Nat)=>(x:Int))).Pairwise (· < ·):=by
 intro l h;rw [List.pairwise_map];exact h.imp (fun h=>by omega)
theorem vI (bs:List Wd) (f t:Nat):(Kk bs f t).Pairwise (· < ·):=Pu _ (List.pairwise_lt_range.filter _)
theorem JG {bs:List Wd} {f t:Nat} {z:Int}:z ∈ Kk bs f t ↔ ∃ x:Nat,z=(x:Int)∧x < bs.length∧LP (De bs) bs.length f t x:=by
 classical
 unfold Kk;rw [List.mem_map]
 constructor
 ·rintro ⟨x,hx,rfl⟩;rw [List.mem_filter,List.mem_range,decide_eq_true_eq] at hx;exact ⟨x,rfl,hx⟩
 ·rintro ⟨x,rfl,h⟩;exact ⟨x,by rw [List.mem_filter,List.mem_range,decide_eq_true_eq];exact h,rfl⟩
theorem KG (bs:List Wd) (f t:Nat):(Kk bs f t).length ≤ bs.length:=by
 unfold Kk;rw [List.length_map];exact Nat.le_trans (List.length_filter_le _ _) (by rw [List.length_range];exact Nat.le_refl _)
def Me (bs:List Wd) (b:Int):List Int:=((List.range bs.length).filter (fun x=>decide (b ∈ De bs x))).map (fun (x:Nat)=>(x:Int))
theorem Po {bs:List Wd} {b z:Int}:z ∈ Me bs b ↔ ∃ x:Nat,z=(x:Int)∧x < bs.length∧b ∈ De bs x:=by
 unfold Me;rw [List.mem_map]
 constructor
 ·rintro ⟨x,hx,rfl⟩;rw [List.mem_filter,List.mem_range,decide_eq_true_eq] at hx;exact ⟨x,rfl,hx⟩
 ·rintro ⟨x,rfl,h⟩;exact ⟨x,by rw [List.mem_filter,List.mem_range,decide_eq_true_eq];exact h,rfl⟩
theorem Mw (bs:List Wd) (b:Int):(Me bs b).length ≤ bs.length:=by
 unfold Me;rw [List.length_map];exact Nat.le_trans (List.length_filter_le _ _) (by rw [List.length_range];exact Nat.le_refl _)
theorem ZB {n:Nat}:∀ (S:List Int) (lo:Int),S.Pairwise (· < ·)→(∀ z ∈ S,lo ≤ z∧z < (n:Int))→lo ≤ (n:Int)→(S.length:Int) + lo ≤ (n:Int)
 | [],lo,_,_,h=>by simpa using h
 | x :: S,lo,hs,hr,_=>by
  obtain ⟨h1,h2⟩:=List.pairwise_cons.1 hs;obtain ⟨x0,x1⟩:=hr x (by simp);have ih:=ZB S (x + 1) h2 (fun z hz=>⟨by have:=h1 z hz;omega,(hr z (by simp [hz])).2⟩) (by omega);rw [List.length_cons];omega
theorem Ht {n:Nat} {S:List Int} (hs:S.Pairwise (· < ·)) (hr:∀ z ∈ S,0 ≤ z∧z < (n:Int)):S.length ≤ n:=by
 have:=ZB S 0 hs hr (by omega);omega
theorem Oz {S:List Int} {x:Int} (hs:S.Pairwise (· < ·)) (hx:x ∈ S):Fg S x=S:=by
 refine Jp _ _ (Hq S x hs) hs (fun y=>?_);rw [Bm]
 constructor
 ·rintro (rfl|h)
  ·exact hx
  ·exact h
 ·exact .inr
theorem Nw {S:List Int} {x:Int} (hx:x ∉ S):(Fg S x).length=S.length + 1:=by
 have hm:=(Bm S x x).2 (.inl rfl);unfold Fg at hm ⊢
 by_cases h:sk S x < S.length∧rd S (sk S x:Int)=x
 ·rw [if_pos h] at hm;exact absurd hm hx
 ·rw [if_neg h];have:(S.take (sk S x)).length + (S.drop (sk S x)).length=S.length:=by rw [← List.length_append,List.take_append_drop]
  rw [List.length_append,List.length_append,List.length_singleton];omega
structure IK (bs:List Wd) (f t:Nat) (S T:List Int):Prop where
 s:S.Pairwise (· < ·)
 r:∀ z ∈ S,0 ≤ z∧z < (bs.length:Int)∧LP (De bs) bs.length f t z.toNat
 mf:(f:Int) ∈ S
 mt:(t:Int) ∈ S
 q:∀ z ∈ T,z ∈ S
 c:∀ b:Nat,(b:Int) ∈ S→b ≠ t→(b:Int) ∈ T ∨ ∀ x,x < bs.length→(b:Int) ∈ De bs x→(x:Int) ∈ S
 z:(t:Int) ∈ T→S=[(t:Int)]
structure MH (bs:List Wd) (f t b:Nat) (j:Nat) (m:Nat) (S T:List Int):Prop where
 s:S.Pairwise (· < ·)
 r:∀ z ∈ S,0 ≤ z∧z < (bs.length:Int)∧LP (De bs) bs.length f t z.toNat
 mf:(f:Int) ∈ S
 mt:(t:Int) ∈ S
 q:∀ z ∈ T,z ∈ S
 mb:(b:Int) ∈ S∧b ≠ t
 c:∀ b':Nat,(b':Int) ∈ S→b' ≠ t→(b':Int) ∈ T ∨ b' = b ∨ ∀ x,x < bs.length→(b':Int) ∈ De bs x→(x:Int) ∈ S
 z:(t:Int) ∉ T
 h:∀ x ∈ (Me bs (b:Int)).take j,x ∈ S
 m:bs.length - S.length + T.length ≤ m
section
variable {bs:List Wd} {f t:Nat} {S T:List Int}
theorem OA (hs:S.Pairwise (· < ·)) (hr:∀ z ∈ S,0 ≤ z∧z < (bs.length:Int)∧LP (De bs) bs.length f t z.toNat) (hf:(f:Int) ∈ S) (ht:(t:Int) ∈ S) (hc:∀ b:Nat,(b:Int) ∈ S→b ≠ t→∀ x,x < bs.length→(b:Int) ∈ De bs x→(x:Int) ∈ S):S=Kk bs f t:=by
 refine Jp _ _ hs (vI _ _ _) (fun z=>?_);rw [JG]
 constructor
 ·intro hz;obtain ⟨h0,h1,h2⟩:=hr z hz;exact ⟨z.toNat,by omega,by omega,h2⟩
 ·rintro ⟨x,rfl,hx,hl⟩;clear hx
  induction hl with
  | hd=>exact ht
  | fr=>exact hf
  | step _ hb hx hm ih=>exact hc _ ih hb _ hx hm
theorem IK.start (hf:f < bs.length) (ht:t < bs.length):IK bs f t (Fg [(t:Int)] (f:Int)) [(f:Int)]:=by
 have hm:∀ z,z ∈ Fg [(t:Int)] (f:Int) ↔ z=(f:Int) ∨ z=(t:Int):=fun z=>by rw [Bm,List.mem_singleton]
 refine ⟨Hq _ _ (by simp),fun z hz=>?_,(hm _).2 (.inl rfl),(hm _).2 (.inr rfl),fun z hz=>?_,fun b hb xB=>?_,fun h=>?_⟩
 ·rcases (hm z).1 hz with rfl|rfl
  ·exact ⟨by omega,by omega,LP.fr⟩
  ·exact ⟨by omega,by omega,LP.hd⟩
 ·rw [List.mem_singleton] at hz;exact (hm z).2 (.inl hz)
 ·rcases (hm _).1 hb with h|h
  ·exact .inl (by rw [h];simp)
  ·omega
 ·rw [List.mem_singleton] at h;rw [← h];exact Oz (by simp) (by simp)
theorem IK.done (h:IK bs f t S T) (he:T=[] ∨ ∃ T',T=(t:Int) :: T'):S=Kk bs f t:=by
 refine OA h.s h.r h.mf h.mt (fun b hb xB x hx hm=>?_)
 rcases he with rfl|⟨T',rfl⟩
 ·rcases h.c b hb xB with h|h
  ·cases h
  ·exact h x hx hm
 ·have e:=h.z (by simp);rw [e,List.mem_singleton] at hb;omega
theorem IK.len (h:IK bs f t S T):S.length ≤ bs.length:=Ht h.s (fun z hz=>⟨(h.r z hz).1,(h.r z hz).2.1⟩)
theorem IK.go {b:Nat} (h:IK bs f t S ((b:Int) :: T)) (hb:b ≠ t):MH bs f t b 0 (bs.length - S.length + T.length) S T:=by
 have hbS:=h.q (b:Int) (by simp)
 have hzt:(t:Int) ∉ (b:Int) :: T:=fun hm=>by
  have e:=h.z hm;rw [e,List.mem_singleton] at hbS;omega
 refine ⟨h.s,h.r,h.mf,h.mt,fun z hz=>h.q z (by simp [hz]),⟨hbS,hb⟩,fun b' hb' xB=>?_,fun hm=>hzt (by simp [hm]),fun x hx=>by simp at hx,Nat.le_refl _⟩
 rcases h.c b' hb' xB with h|h
 ·rcases List.mem_cons.1 h with h|h
  ·exact .inr (.inl (by omega))
  ·exact .inl h
 ·exact .inr (.inr h)
theorem MH.len {b j m:Nat} (h:MH bs f t b j m S T):S.length ≤ bs.length:=Ht h.s (fun z hz=>⟨(h.r z hz).1,(h.r z hz).2.1⟩)
theorem MH.old {b j m:Nat} (h:MH bs f t b j m S T) (hj:j < (Me bs (b:Int)).length) (hx:(Me bs (b:Int))[j] ∈ S):MH bs f t b (j + 1) m S T:=by
 refine ⟨h.s,h.r,h.mf,h.mt,h.q,h.mb,h.c,h.z,fun x hm=>?_,h.m⟩;rw [List.take_succ_eq_append_getElem hj,List.mem_append,List.mem_singleton] at hm
 rcases hm with hm|rfl
 ·exact h.h x hm
 ·exact hx
theorem MH.new {b j m:Nat} (h:MH bs f t b j m S T) (hj:j < (Me bs (b:Int)).length) (hx:(Me bs (b:Int))[j] ∉ S):MH bs f t b (j + 1) m (Fg S (Me bs (b:Int))[j]) (T ++ [(Me bs (b:Int))[j]]):=by
 obtain ⟨x,hxe,hxl,R6⟩:=Po.1 (List.getElem_mem hj);have hLb:LP (De bs) bs.length f t b:=by have:=(h.r _ h.mb.1).2.2;rwa [Int.toNat_natCast] at this
 have hadd:∀ z,z ∈ Fg S (Me bs (b:Int))[j] ↔ z=(Me bs (b:Int))[j] ∨ z ∈ S:=fun z=>Bm _ _ _
 refine ⟨Hq _ _ h.s,fun z hz=>?_,(hadd _).2 (.inr h.mf),(hadd _).2 (.inr h.mt),fun z hz=>?_,⟨(hadd _).2 (.inr h.mb.1),h.mb.2⟩,fun b' hb' xB=>?_,fun hm=>?_,fun y hy=>?_,?_⟩
 ·rcases (hadd z).1 hz with rfl|hz
  ·rw [hxe];exact ⟨by omega,by omega,by rw [Int.toNat_natCast];exact LP.step hLb h.mb.2 hxl R6⟩
  ·exact h.r z hz
 ·rw [List.mem_append,List.mem_singleton] at hz
  rcases hz with hz|rfl
  ·exact (hadd z).2 (.inr (h.q z hz))
  ·exact (hadd _).2 (.inl rfl)
 ·rcases (hadd _).1 hb' with e|hb'
  ·exact .inl (by rw [e];simp)
  ·rcases h.c b' hb' xB with h|h|h
   ·exact .inl (by simp [h])
   ·exact .inr (.inl h)
   ·exact .inr (.inr (fun x hx hm=>(hadd _).2 (.inr (h x hx hm))))
 ·rw [List.mem_append,List.mem_singleton] at hm
  rcases hm with hm|hm
  ·exact h.z hm
  ·exact hx (by rw [← hm];exact h.mt)
 ·rw [List.take_succ_eq_append_getElem hj,List.mem_append,List.mem_singleton] at hy
  rcases hy with hy|rfl
  ·exact (hadd y).2 (.inr (h.h y hy))
  ·exact (hadd _).2 (.inl rfl)
 ·have h1:=h.m;have h2:=Nw hx
  have h3:(Fg S (Me bs (b:Int))[j]).length ≤ bs.length:=Ht (Hq _ _ h.s) (fun z hz=>by
   rcases (hadd z).1 hz with rfl|hz
   ·rw [hxe];omega
   ·exact ⟨(h.r z hz).1,(h.r z hz).2.1⟩)
  rw [h2] at h3 ⊢;rw [List.length_append,List.length_singleton];omega
theorem MH.back {b m:Nat} (h:MH bs f t b (Me bs (b:Int)).length m S T):IK bs f t S T:=by
 refine ⟨h.s,h.r,h.mf,h.mt,h.q,fun b' hb' xB=>?_,fun hm=>absurd hm h.z⟩
 rcases h.c b' hb' xB with h1|rfl|h1
 ·exact .inl h1
 ·refine .inr (fun x hx hm=>h.h _ ?_);rw [List.take_length];exact Po.2 ⟨x,rfl,hx,hm⟩
 ·exact .inr h1
end
end Go.Proofs.Ytoomcmaifgkkfaa.P
end
section
namespace Go.Proofs.Ytoomcmaifgkkfaa.P
open Go.RowKit Go.Proofs.Aa.Db Go.Proofs.Aa.Tc Go.Proofs.Aa.ke
set_option linter.unusedVariables false
set_option linter.unusedSimpArgs false
def wh (bs:List Wd) (b:Int) (i:Nat):List Int:=((List.range i).filter (fun x=>decide (b ∈ De bs x))).map (fun (x:Nat)=>(x:Int))
theorem Yu (bs:List Wd) (b:Int) (i:Nat):wh bs b (i + 1)=if b ∈ De bs i then wh bs b i ++ [(i:Int)] else wh bs b i:=by
 unfold wh;rw [List.range_succ,List.filter_append,List.map_append]
 by_cases h:b ∈ De bs i
 ·rw [if_pos h];simp [h]
 ·rw [if_neg h];simp [h]
theorem ey (bs:List Wd) (b:Int) (i:Nat):(wh bs b i).Pairwise (· < ·)∧(wh bs b i).length ≤ i∧∀ x ∈ wh bs b i,x < (i:Int):=by
 refine ⟨Pu _ (List.pairwise_lt_range.filter _),?_,fun x hx=>?_⟩
 ·unfold wh;rw [List.length_map];exact Nat.le_trans (List.length_filter_le _ _) (by rw [List.length_range];exact Nat.le_refl _)
 ·unfold wh at hx;obtain ⟨y,hy,rfl⟩:=List.mem_map.1 hx;have:=List.mem_range.1 (List.mem_filter.1 hy).1;omega
theorem wH {l:List Int} {x:Int} (hs:l.Pairwise (· < ·)) (h:∀ y ∈ l,y < x):Fg l x=l ++ [x]:=by
 refine Jp _ _ (Hq l x hs) ?_ (fun y=>?_)
 ·rw [List.pairwise_append];exact ⟨hs,by simp,fun a ha b hb=>by rw [List.mem_singleton] at hb;subst hb;exact h a ha⟩
 ·rw [Bm,List.mem_append,List.mem_singleton,or_comm]
theorem yD {l0:List Int} {p v s:Int} {bs:List Wd} (h0:l0.length ≤ 1048576) (hl:bs.length ≤ 1048576) (ht:Rc bs ≤ 1048576) (hok:Ii l0 p v s bs=true) {b:Int} (hb:0 ≤ b∧b < (bs.length:Int)):Ev (fun k=>fc.f k l0 p v s bs b) (Me bs b):=by
 have hE:=ym hok;unfold fc.f;refine Ev.val (Ev.bind (Lo h0 hl ht) (Ev.pos hok ?_));rw [show wrap64 ((bs.length:Int) - 1)=(bs.length:Int) - 1 from bg (by omega) (by omega)]
 have hin:uj b 0 ((bs.length:Int) - 1)=true:=by
  unfold uj;simp only [Bool.and_eq_true,decide_eq_true_eq];omega
 refine Ev.bind (Ev.here (TA b 0 ((bs.length:Int) - 1))) ?_;rw [hin];refine Ev.step (fun k=>by rw [fc.j0]) (Ev.neg (by simp) ?_);have key:=oh (r:=Me bs b) (n:=bs.length) (fun i=>Ev (fun k=>fc.l0 k b (wh bs b i) (i:Int) l0 p v s bs) (Me bs b)) ?_ ?_ 0 (by omega)
 ·exact key
 ·refine Ev.step (fun k=>by rw [fc.l0]) (Ev.neg (by omega) ?_);exact Ev.now _
 ·intro i hi h;obtain ⟨u1,u2,u3⟩:=ey bs b i;refine Ev.step (fun k=>by rw [fc.l0]) (Ev.pos (by omega) (Ev.pos (by omega) ?_));refine Ev.bind (Ev.here (sq (Ea bs (i:Int)))) ?_;have htl:(De bs i).length ≤ 2:=Ti _;have k2:=oh (r:=Me bs b) (n:=(De bs i).length) (fun j=>Ev (fun k=>fc.l1 k b (if b ∈ (De bs i).take j then wh bs b i ++ [(i:Int)] else wh bs b i) (i:Int) (De bs i) (j:Int) l0 p v s bs) (Me bs b)) ?_ ?_ 0 (by omega)
  ·exact k2
  ·refine Ev.step (fun k=>by rw [fc.l1]) (Ev.neg (by omega) ?_);rw [List.take_length,← Yu,Ve hi (by omega)];exact h
  ·intro j hj h2
   have hu:(if b ∈ (De bs i).take j then wh bs b i ++ [(i:Int)] else wh bs b i).length ≤ i + 1:=by
    by_cases h:b ∈ (De bs i).take j
    ·rw [if_pos h,List.length_append,List.length_singleton];omega
    ·rw [if_neg h];omega
   refine Ev.step (fun k=>by rw [fc.l1]) (Ev.pos (by omega) (Ev.pos (by omega) ?_));rw [uh hj,Ve hj (by omega)]
   by_cases hm:(De bs i)[j]=b
   ·refine Ev.pos hm ?_
    have ha:Ff.f (if b ∈ (De bs i).take j then wh bs b i ++ [(i:Int)] else wh bs b i) (i:Int)=some (if b ∈ (De bs i).take (j + 1) then wh bs b i ++ [(i:Int)] else wh bs b i):=by
     unfold Ff.f;rw [if_pos (by omega),if_pos (show b ∈ (De bs i).take (j + 1) by rw [List.take_succ_eq_append_getElem hj,hm];simp)]
     congr 1
     by_cases h:b ∈ (De bs i).take j
     ·rw [if_pos h];refine Oz ?_ (by simp);rw [List.pairwise_append];exact ⟨u1,by simp,fun a ha c hc=>by rw [List.mem_singleton] at hc;subst hc;exact u3 a ha⟩
     ·rw [if_neg h];exact wH u1 u3
    exact Ev.bind (Ev.here ha) h2
   ·refine Ev.neg hm ?_
    have e:(b ∈ (De bs i).take (j + 1)) ↔ b ∈ (De bs i).take j:=by
     rw [List.take_succ_eq_append_getElem hj,List.mem_append,List.mem_singleton];exact ⟨fun h=>h.elim id (fun h=>absurd h.symm hm),.inl⟩
    by_cases h:b ∈ (De bs i).take j
    ·rw [if_pos h];rw [if_pos (e.2 h)] at h2;exact h2
    ·rw [if_neg h];rw [if_neg (fun hh=>h (e.1 hh))] at h2;exact h2
attribute [local go_sem] fh bh Zh Yh mg lg dh ah
def Sa.l0:Nat→List Int→Int→Int→Option (List Int)
 | 0,_,_,_=>none
 | k + 1,x0,x2,x3=>if x2 < x3 then (if 0 ≤ x3 then (if x3 < (x0.length:Int) then (if 0 ≤ x2 then (if x2 < (x0.length:Int) then (Sa.l0 k ((x0.set (x2:Int).toNat (rd x0 x3)).set (x3:Int).toNat (rd x0 x2)) (wrap64 (x2 + 1)) (wrap64 (x3 - 1))) else (none)) else (none)) else (none)) else (none)) else (some x0)
def Sa.f (k:Nat) (l0:List Int):Option (List Int):=Sa.l0 k l0 0 (wrap64 ((l0.length:Int) - 1))
theorem Sa.Ip:∀ k,(∀ y0 y1 y2,qh (Sa.l0 k y0 y1 y2) (Sa.l0 (k + 1) y0 y1 y2))
 | 0=>fun _ _ _ r h=>by simp [Sa.l0] at h
 | k + 1=>by
  have VA:=Sa.Ip k
  ·intro y0 y1 y2;unfold Sa.l0
   repeat' first
   | (with_reducible exact VA _ _ _)
   | (with_reducible exact qh.refl _)
   | (with_reducible exact qh.none _)
   | (with_reducible refine qh.ite ?_ ?_)
   | (with_reducible refine qh.bind ?_ (fun _=>?_))
   | exact VA _ _ _
   | exact qh.none _
   | refine qh.ite ?_ ?_
   | refine qh.bind ?_ (fun _=>?_)
theorem Sa.mono:∀ a0 k,qh (Sa.f k a0) (Sa.f (k + 1) a0):=by
 intro a0 k;have VA:=Sa.Ip k;unfold Sa.f
 repeat' first
   | (with_reducible exact VA _ _ _)
   | (with_reducible exact qh.refl _)
   | (with_reducible exact qh.none _)
   | (with_reducible refine qh.ite ?_ ?_)
   | (with_reducible refine qh.bind ?_ (fun _=>?_))
   | exact VA _ _ _
   | exact qh.none _
   | refine qh.ite ?_ ?_
   | refine qh.bind ?_ (fun _=>?_)
def Sa.T3:Bool × List (List Nat × List Nat):=(true,[([],[]),([],[]),([],[]),([],[]),([],[]),([],[]),([4,5],[4,5]),([6],[6]),([],[]),([],[]),([8,9],[8,9]),([10],[10]),([0,1,0,1,4,5,6,7,11],[0,1]),([12,7,0,1,4,5,6,7,11],[7,12]),([2,3,0,1,2,3,4,5,6,7,8,9,10,11,12,13],[2,3]),([14,11,13,0,1,2,3,4,5,6,7,8,9,10,11,12,13],[11,14])])
def Sa.B3:List Nat:=[0,0,0,0,0,0,48,112,0,0,768,1792,4083,8179,16383,32767]
theorem Sa.k6:qm .any (opsOf Try.f107 3)=Sa.T3:=by kernel_rfl
theorem Sa.cX:xo Sa.T3.2 Sa.B3=true:=by kernel_rfl
theorem Sa.calls (k:Nat) (Oi:Nat→Prop) (Xe:Value) (l0:List Int) (r:List Int) (w0 w:World) (hB:Below w0.heap.size w0 w) (Rg:Kd.R (Kd.int .i64) 3 w w0.heap.size Oi Xe l0) (h:Sa.f k l0=some r) :
  Calls Try.prog 107 #[Xe] w fun e w'=>e = .returned (.tuple #[])∧Kd.R (Kd.int .i64) 3 w' w0.heap.size (fun k_=>(Oi k_ ∨ w.heap.size ≤ k_)) Xe r∧Below w0.heap.size w0 w'∧Kept w w' (fun k_=>Oi k_):=by
 have LU:=aa.mk (show Kd.R (Kd.int .i64) 3 w w0.heap.size (fun k_=>(Oi k_ ∨ w.heap.size ≤ k_)) Xe l0 from Kd.Eb Rg (fun k_ hk=>(.inl hk)));have HK:=aa.mk (Kept.refl w (fun k_=>Oi k_));have S_:=aa.mk hB.size;have HB:=aa.mk hB;clear hB;have H:(Sa.l0 k l0 0 (wrap64 ((l0.length:Int) - 1)))=some r:=h;clear h;have H':=aa.mk H;clear H;obtain ⟨Ao2,co2,eo2⟩:=Kd.Vb LU.out;subst eo2;go_enter Try.func107,Try.ntmps107;go_wp2
 go_loopg [2,3] k (fun kq v2 v3 w'=>∃ (Wc:List Int) (Gk:Int) (uc:Int),v2 = .int .i64 Gk∧v3 = .int .i64 uc∧aa (Sa.l0 kq Wc Gk uc=some r)∧aa (kq ≤ k)∧aa (Kd.R (Kd.int .i64) 3 w' w0.heap.size (fun k_=>(Oi k_ ∨ w.heap.size ≤ k_)) (.slice Ao2 l0.length co2) Wc)∧aa (Kept w w' (fun k_=>Oi k_))∧aa (Below w0.heap.size w0 w'))
 case atStart=>exact ⟨(l0),(0),(wrap64 ((l0.length:Int) - 1)),raj,raj,H',⟨Nat.le_refl _⟩,⟨by (with_reducible repeat (first|apply Kd.Ia|apply Kd.La|apply Kd.Ra));exact LU.out⟩,⟨Kaj⟩,⟨qaj⟩⟩
 case round =>
  clear H'
  try clear c1
  try clear p2
  (try clear HA);(try clear Kf);(try clear ee);(try clear HK);(try clear HB);obtain ⟨Wc,Gk,uc,rfl,rfl,HA,Kf,ee,HK,HB⟩:=hrel;have gB:=(Kd.Ua ee.out).1;rw [gB] at ee;(try simp only [gB]);cases gk with
  | zero=>exact absurd HA.out (by simp [Sa.l0])
  | succ k1 =>
   have H:=HA.out;clear HA;simp only [Sa.l0] at H
   by_cases c3:Gk < uc
   ·rw [if_pos c3] at H;have Ah:decide (Gk < uc)=true:=decide_eq_true c3;clear c3
    by_cases c4:0 ≤ uc
    ·rw [if_pos c4] at H;have zm:decide (0 ≤ uc)=true:=decide_eq_true c4;clear c4
     by_cases c5:uc < (Wc.length:Int)
     ·rw [if_pos c5] at H;have Rq:decide (uc < (Wc.length:Int))=true:=decide_eq_true c5;clear c5
      by_cases c6:0 ≤ Gk
      ·rw [if_pos c6] at H;have Gt:decide (0 ≤ Gk)=true:=decide_eq_true c6;clear c6
       by_cases c7:Gk < (Wc.length:Int)
       ·rw [if_pos c7] at H;have yu:decide (Gk < (Wc.length:Int))=true:=decide_eq_true c7;clear c7;obtain ⟨Ef,Tp⟩:∃ y_:List Int,y_=(Wc.set (Gk:Int).toNat (rd Wc uc)):=⟨_,rfl⟩;replace H:(Sa.l0 k1 (Ef.set (uc:Int).toNat (rd Wc Gk)) (wrap64 (Gk + 1)) (wrap64 (uc - 1)))=some r:=by first|(rw [Tp];with_reducible exact H)|(have Qc:=(Option.bind_some _ _).symm.trans H;rw [Tp];with_reducible exact Qc)|(have Qc:=(Option.bind_some _ _).symm.trans H;with_reducible exact Qc)|with_reducible exact H|(rw [Tp];exact H)|exact H
        have GK:=aa.mk Tp;clear Tp;obtain ⟨Qe,Pk⟩:∃ y_:List Int,y_=(Ef.set (uc:Int).toNat (rd Wc Gk)):=⟨_,rfl⟩;replace H:(Sa.l0 k1 Qe (wrap64 (Gk + 1)) (wrap64 (uc - 1)))=some r:=by first|(rw [Pk];with_reducible exact H)|(have Qc:=(Option.bind_some _ _).symm.trans H;rw [Pk];with_reducible exact Qc)|(have Qc:=(Option.bind_some _ _).symm.trans H;with_reducible exact Qc)|with_reducible exact H|(rw [Pk];exact H)|exact H
        have nC:=aa.mk Pk;clear Pk;have H':=aa.mk H;clear H
        try go_wp2
        have Pb:=aa.mk (Kd.Ra ee.out);have Rb:=aa.mk (Kept.drew HK.out);have Yb:=aa.mk (ja HB.out);clear ee HK HB;have ee:=Pb;have HK:=Rb;have HB:=Yb;clear Pb Rb Yb;have Mf:0 ≤ (uc:Int):=Ja;have Lf:uc < (Wc.length:Int):=Ja;obtain ⟨Cm,Sj,Cf⟩:=Kd.Ld (Kd.Ua ee.out).2.2 uc Mf Lf;cases Sj;replace Mf:=eq_true Mf;replace Lf:=eq_true Lf;have jw:0 ≤ (Gk:Int):=Ja;have ew:Gk < (Wc.length:Int):=Ja;obtain ⟨rK,ZJ,Rs⟩:=Kd.Ld (Kd.Ua ee.out).2.2 Gk jw ew;obtain rfl:Cm=rK:=(by injection ZJ);replace jw:=eq_true jw;replace ew:=eq_true ew;have p8:0 ≤ (Gk:Int):=Ja;have q8:(Gk:Int) < ((Wc.length:Int):Int):=Ja;obtain ⟨Q3,co8,eo8,gb8,gl8,cl8,uL⟩:=Kd.qj ee.out (by omega);(first|cases eo8|(injection eo8 with ej qv tv;(first|subst ej|(injection ej with ej;subst ej));subst tv;clear qv));have GB8:=aa.mk gb8;have GG8:=aa.mk uL;clear gb8 gl8 uL;have kQ:=aa.mk (show (Oi Q3 ∨ w.heap.size ≤ Q3) from (ee.out.1 _ rfl));(first|simp only [add_plain] at Cf|skip);(first|simp only [add_plain] at Rs|skip);obtain ⟨zO,dP⟩:=Kd.Dg 0 ee.out (Gk:Int) p8 q8;replace p8:=eq_true p8;replace q8:=eq_true q8;have cE:=Kd.zK ee.out (Gk:Int) (rd Wc uc);rw [← GK.out] at cE;have bA:=aa.mk cE;clear cE;have p9:0 ≤ (uc:Int):=Ja;have q9:(uc:Int) < ((Wc.length:Int):Int):=Ja;obtain ⟨FI,jJ⟩:=Kd.Dg 0 bA.out (uc:Int) p9 q9;replace p9:=eq_true p9;replace q9:=eq_true q9;have Ww:=Kd.zK bA.out (uc:Int) (rd Wc Gk);rw [← nC.out] at Ww;have eY:=aa.mk Ww;clear Ww;refine Yk (n:=16) (S:=fun w'=>w'.cell? ⟨Q3,(uc).toNat,none⟩=some (.int .i64 (rd Wc uc))∧w'.cell? ⟨Q3,(Gk).toNat,none⟩=some (.int .i64 (rd Wc Gk))) (ds:=[13,15]) #[false,false,false,false,false,false,false,false,false,false,false,false,false,false,false,false] (by kernel_rfl) rfl rfl ⟨Cf,Rs⟩ (fun hHeld=>?_);refine Ut Sa.k6 Sa.cX (fun Uo tL=>?_);generalize wr.drew=wv at ee HK HB GG8 bA eY dP jJ Cf Rs zO FI hHeld ⊢;refine od (i:=0) (N:=some 14) (v:=?_) (a':=?_) #[true,false,false,false,false,false,false,false,false,false,false,false,false,false,false,false] rfl rfl (Ug Uo.out (by kernel_rfl)) (fun _ _ _ h=>h) (Or.inl ⟨by rfl,?_⟩) ?_ ?_;rotate_left
        ·exact eaj
        rotate_left
        ·exact daj
        refine od (i:=1) (N:=some 15) (v:=?_) (a':=?_) #[true,true,false,false,false,false,false,false,false,false,false,false,false,false,false,false] rfl rfl (Ug Uo.out (by kernel_rfl)) (fun _ _ _ h=>h) (Or.inl ⟨by rfl,?_⟩) ?_ ?_;rotate_left
        ·exact eaj
        rotate_left
        ·exact daj
        refine od (i:=2) (N:=some 16) (v:=?_) (a':=?_) #[true,true,true,false,false,false,false,false,false,false,false,false,false,false,false,false] rfl rfl (Ug Uo.out (by kernel_rfl)) (fun _ _ _ h=>h) (Or.inl ⟨by rfl,?_⟩) ?_ ?_;rotate_left
        ·exact eaj
        rotate_left
        ·exact daj
        refine od (i:=3) (N:=some 17) (v:=?_) (a':=?_) #[true,true,true,true,false,false,false,false,false,false,false,false,false,false,false,false] rfl rfl (Ug Uo.out (by kernel_rfl)) (fun _ _ _ h=>h) (Or.inl ⟨by rfl,?_⟩) ?_ ?_;rotate_left
        ·exact eaj
        rotate_left
        ·exact daj
        refine od (i:=4) (N:=some 18) (v:=?_) (a':=?_) #[true,true,true,true,true,false,false,false,false,false,false,false,false,false,false,false] rfl rfl (Ug Uo.out (by kernel_rfl)) (fun _ _ _ h=>h) (Or.inl ⟨by rfl,?_⟩) ?_ ?_;rotate_left
        ·exact eaj
        rotate_left
        ·exact daj
        refine od (i:=5) (N:=some 19) (v:=?_) (a':=?_) #[true,true,true,true,true,true,false,false,false,false,false,false,false,false,false,false] rfl rfl (Ug Uo.out (by kernel_rfl)) (fun _ _ _ h=>h) (Or.inl ⟨by rfl,?_⟩) ?_ ?_;rotate_left
        ·exact eaj
        rotate_left
        ·exact daj
        refine od (i:=6) (N:=some 20) (v:=?_) (a':=?_) #[true,true,true,true,true,true,true,false,false,false,false,false,false,false,false,false] rfl rfl (Ug Uo.out (by kernel_rfl)) (fun _ _ _ h=>h) (Or.inl ⟨by rfl,?_⟩) ?_ ?_;rotate_left
        ·exact eaj
        rotate_left
        ·exact daj
        refine od (i:=8) (N:=some 22) (v:=?_) (a':=?_) #[true,true,true,true,true,true,true,false,true,false,false,false,false,false,false,false] rfl rfl (Ug Uo.out (by kernel_rfl)) (fun _ _ _ h=>h) (Or.inl ⟨by rfl,?_⟩) ?_ ?_;rotate_left
        ·exact eaj
        rotate_left
        ·exact daj
        refine od (i:=9) (N:=some 23) (v:=?_) (a':=?_) #[true,true,true,true,true,true,true,false,true,true,false,false,false,false,false,false] rfl rfl (Ug Uo.out (by kernel_rfl)) (fun _ _ _ h=>h) (Or.inl ⟨by rfl,?_⟩) ?_ ?_;rotate_left
        ·exact eaj
        rotate_left
        ·exact daj
        refine od (i:=10) (N:=some 24) (v:=?_) (a':=?_) #[true,true,true,true,true,true,true,false,true,true,true,false,false,false,false,false] rfl rfl (Ug Uo.out (by kernel_rfl)) (fun _ _ _ h=>h) (Or.inl ⟨by rfl,?_⟩) ?_ ?_;rotate_left
        ·exact eaj
        rotate_left
        ·exact daj
        refine Ph (i:=7) (N:=some 21) (v:=?_) (a':=?_) #[true,true,true,true,true,true,true,true,true,true,true,false,false,false,false,false] rfl rfl (Ik Uo.out tL.out (by kernel_rfl)) (fun _ _ _ h=>h) (Or.inl ⟨by rfl,?_⟩) hHeld ?_ ?_;rotate_left
        ·rintro w' ⟨s0,s1⟩;go_simp;with_reducible rfl
        rotate_left
        ·exact daj
        refine Ph (i:=11) (N:=some 25) (v:=?_) (a':=?_) #[true,true,true,true,true,true,true,true,true,true,true,true,false,false,false,false] rfl rfl (Ik Uo.out tL.out (by kernel_rfl)) (fun _ _ _ h=>h) (Or.inl ⟨by rfl,?_⟩) hHeld ?_ ?_;rotate_left
        ·rintro w' ⟨s0,s1⟩;go_simp;with_reducible rfl
        rotate_left
        ·exact daj
        refine od (i:=12) (N:=some 26) (v:=?_) (a':=?_) #[true,true,true,true,true,true,true,true,true,true,true,true,true,false,false,false] rfl rfl (Ug Uo.out (by kernel_rfl)) (fun _ _ _ h=>h) (Or.inl ⟨by rfl,?_⟩) ?_ ?_;rotate_left
        ·exact eaj
        rotate_left
        ·exact daj
        refine Qu (i:=13) (N:=none) #[true,true,true,true,true,true,true,true,true,true,true,true,true,true,false,false] rfl rfl (Ey Uo.out (by kernel_rfl)) (by decide) (fun K hK=>?_);refine XH (w1:=?_) (by rfl) rfl ?_ ?_;rotate_left
        ·go_simp
         rfl
        refine hK.out _ _ ?_;clear hK K;refine od (i:=14) (N:=some 27) (v:=?_) (a':=?_) #[true,true,true,true,true,true,true,true,true,true,true,true,true,true,true,false] rfl rfl (Ug Uo.out (by kernel_rfl)) (fun _ _ _ h=>h) (Or.inl ⟨by rfl,?_⟩) ?_ ?_;rotate_left
        ·exact eaj
        rotate_left
        ·exact daj
        refine Qu (i:=15) (N:=none) #[true,true,true,true,true,true,true,true,true,true,true,true,true,true,true,true] rfl rfl (Ey Uo.out (by kernel_rfl)) (by decide) (fun K hK=>?_);refine XH (w1:=?_) (by rfl) rfl ?_ ?_;rotate_left
        ·go_simp
         rfl
        refine hK.out _ _ ?_;clear hK K;refine Yo (Cz Uo.out (by kernel_rfl)) ?_
        try go_wp2
        (try simp only [← gB])
        go_roundg k1
        case measure=>have:=Kf.out;omega
        case rel=>exact ⟨(Qe),(wrap64 (Gk + 1)),(wrap64 (uc - 1)),raj,raj,H',⟨by have:=Kf.out;omega⟩,⟨by (try simp only [gB]);(with_reducible repeat (first|apply Kd.Ia|apply Kd.La|apply Kd.Ra));exact eY.out⟩,⟨by repeat (first|(with_reducible first|exact HK.out|apply Kept.alloc|apply Kept.drewN|apply Kept.drew|refine Kept.setCell ?_ kQ.out _|refine Kept.setCell ?_ kQ.out _)|exact HK.out)⟩,⟨by repeat (first|(with_reducible first|exact HB.out|apply ia|apply ga|apply ja|refine ta ?_ GB8.out|refine ta ?_ GB8.out)|exact HB.out)⟩⟩
       ·rw [if_neg c7] at H;exact absurd H (by simp)
      ·rw [if_neg c6] at H;exact absurd H (by simp)
     ·rw [if_neg c5] at H;exact absurd H (by simp)
    ·rw [if_neg c4] at H;exact absurd H (by simp)
   ·rw [if_neg c3] at H;have Ah:decide (Gk < uc)=false:=decide_eq_false c3;clear c3;obtain rfl:=Option.some.inj H;go_wp2
    first|go_end0|((try simp only [Exit.inBlock,Exit.then]);refine bodyPost_ret (results_none rfl _ _ _) rfl ?_)
    exact ⟨taj,(by first|exact Laj|(simp only [gB];exact Laj)),qaj,Kaj⟩
end Go.Proofs.Ytoomcmaifgkkfaa.P
end
