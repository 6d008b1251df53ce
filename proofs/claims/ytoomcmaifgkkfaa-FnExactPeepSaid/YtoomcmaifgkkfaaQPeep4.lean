import Derived.Test.YtoomcmaifgkkfaaQPeep1
import Derived.Shelf.Small.Bits
import Derived.Shelf.Small.Wraps
import Derived.Shelf.Strconv.Itoa0
import Derived.Shelf.Sort.Plain
import Derived.Shelf.Slices.Turned
import Derived.Shelf.Slices.Reverse
import Derived.Ground.Names2Prog
import Derived.Shelf.Slices.CompactI
import Derived.Shelf.Slices.SearchI
import Derived.Shelf.Slices.Cells
import Derived.Shelf.Slices.In.SortNone
import Derived.Shelf.Abstract
import Derived.Outline
import Derived.Sort.OwnSortedInts
import Derived.BigQuiet
import Derived.RegionTactic
import Derived.StillTailTactics
import Derived.Test.YtoomcmaifgkkfaaQPeep2
set_option maxHeartbeats 8000000
set_option maxRecDepth 100000
section
namespace Go.Proofs.Ytoomcmaifgkkfaa.P
open Go.RowKit Go.Proofs.La.Zb Go.Proofs.La.Me Go.Proofs.La.Ig
set_option linter.unusedVariables false
set_option linter.unusedSimpArgs false
attribute [local go_sem] Kj Ij Vk Uk Mi Li Jj Hj
def Gb.l0:Nat→List Int→Int→Int→Int→Option (Int)
 | 0,_,_,_,_=>none
 | k + 1,x0,x1,x7,x8=>if x8 < x7 then (if 0 ≤ x8 then (if x8 < (x0.length:Int) then (if x1=(rd x0 x8) then (some x8) else (Gb.l0 k x0 x1 x7 (wrap64 (x8 + 1)))) else (none)) else (none)) else (some (-1))
def Gb.f (k:Nat) (l0:List Int) (a1:Int):Option (Int):=Gb.l0 k l0 a1 (l0.length:Int) 0
theorem Gb.EE:∀ k,(∀ y0 y1 y2 y3,um (Gb.l0 k y0 y1 y2 y3) (Gb.l0 (k + 1) y0 y1 y2 y3))
 | 0=>fun _ _ _ _ r h=>by simp [Gb.l0] at h
 | k + 1=>by
  have BQ:=Gb.EE k
  ·intro y0 y1 y2 y3;unfold Gb.l0
   repeat' first
   | (with_reducible exact BQ _ _ _ _)
   | (with_reducible exact um.refl _)
   | (with_reducible exact um.none _)
   | (with_reducible refine um.ite ?_ ?_)
   | (with_reducible refine um.bind ?_ (fun _=>?_))
   | exact BQ _ _ _ _
   | exact um.none _
   | refine um.ite ?_ ?_
   | refine um.bind ?_ (fun _=>?_)
theorem Gb.mono:∀ a0 a1 k,um (Gb.f k a0 a1) (Gb.f (k + 1) a0 a1):=by
 intro a0 a1 k;have BQ:=Gb.EE k;unfold Gb.f
 repeat' first
   | (with_reducible exact BQ _ _ _ _)
   | (with_reducible exact um.refl _)
   | (with_reducible exact um.none _)
   | (with_reducible refine um.ite ?_ ?_)
   | (with_reducible refine um.bind ?_ (fun _=>?_))
   | exact BQ _ _ _ _
   | exact um.none _
   | refine um.ite ?_ ?_
   | refine um.bind ?_ (fun _=>?_)
theorem Gb.calls (k:Nat) (A0:Option Addr) (c0:Nat) (l0:List Int) (a1:Int) (r:Int) (w:World) (vk:Kd.C (Kd.int .i64) w A0 l0.length l0) (hc0:l0.length ≤ c0) (h:Gb.f k l0 a1=some r) :
  Calls Try.prog 110 #[.slice A0 l0.length c0,.int .i64 a1] w fun e w'=>e = .returned (.int .i64 r)∧qc w w':=by
 have Bl:=aa.mk vk;have jE:=aa.mk hc0;clear vk hc0;have H:(Gb.l0 k l0 a1 (l0.length:Int) 0)=some r:=h;clear h;have H':=aa.mk H;clear H;go_enter Try.func110,Try.ntmps110;go_wp2
 go_loopg [8] k (fun kq v8 w'=>∃ (Rl:Int),v8 = .int .i64 Rl∧aa (Gb.l0 kq l0 a1 (l0.length:Int) Rl=some r)∧aa (kq ≤ k)∧qc w w')
 case atStart=>exact ⟨(0),(by first|rfl|(simp;done)|(simp [*];done)),H',⟨Nat.le_refl _⟩,by repeat (first|exact qc.refl _|apply qc.step)⟩
 case round =>
  clear H'
  try clear c1
  try clear p2
  (try clear HA);(try clear si);obtain ⟨Rl,rfl,HA,si,⟨m1,rfl⟩⟩:=hrel;cases gk with
  | zero=>exact absurd HA.out (by simp [Gb.l0])
  | succ k1 =>
   have H:=HA.out;clear HA;simp only [Gb.l0] at H
   by_cases c3:Rl < (l0.length:Int)
   ·rw [if_pos c3] at H;have qj:decide (Rl < (l0.length:Int))=true:=decide_eq_true c3;clear c3
    by_cases c4:0 ≤ Rl
    ·rw [if_pos c4] at H;have qm:decide (0 ≤ Rl)=true:=decide_eq_true c4;clear c4
     by_cases c5:Rl < (l0.length:Int)
     ·rw [if_pos c5] at H;have nr:decide (Rl < (l0.length:Int))=true:=decide_eq_true c5;clear c5
      by_cases c6:a1=(rd l0 Rl)
      ·rw [if_pos c6] at H;have en:(a1 == (rd l0 Rl))=true:=beq_iff_eq.mpr c6;have Iu:(a1 != (rd l0 Rl))=false:=bne_eq_false_iff_eq.mpr c6;clear c6;obtain rfl:=Option.some.inj H;have Vf:0 ≤ (Rl:Int):=of_decide_eq_true (by first|(with_reducible assumption)|assumption);have Uf:Rl < (l0.length:Int):=of_decide_eq_true (by first|(with_reducible assumption)|assumption);obtain ⟨Ze,ck,ag⟩:=Kd.Wj Bl.out Rl Vf Uf;cases ck;replace Vf:=eq_true Vf;replace Uf:=eq_true Uf;go_wp2;go_ret;exact ⟨by first|rfl|(simp;done)|(simp [*];done),by repeat (first|exact qc.refl _|apply qc.step)⟩
      ·rw [if_neg c6] at H;have en:(a1 == (rd l0 Rl))=false:=beq_eq_false_iff_ne.mpr c6;have Iu:(a1 != (rd l0 Rl))=true:=bne_iff_ne.mpr c6;have H':=aa.mk H;clear H;have Vf:0 ≤ (Rl:Int):=of_decide_eq_true (by first|(with_reducible assumption)|assumption);have Uf:Rl < (l0.length:Int):=of_decide_eq_true (by first|(with_reducible assumption)|assumption);obtain ⟨Ze,ck,ag⟩:=Kd.Wj Bl.out Rl Vf Uf;cases ck;replace Vf:=eq_true Vf;replace Uf:=eq_true Uf;go_wp2
       go_roundg k1
       case measure=>have:=si.out;omega
       case rel=>exact ⟨(wrap64 (Rl + 1)),(by first|rfl|(simp;done)|(simp [*];done)),H',⟨by have:=si.out;omega⟩,by repeat (first|exact qc.refl _|apply qc.step)⟩
     ·rw [if_neg c5] at H;exact absurd H (by simp)
    ·rw [if_neg c4] at H;exact absurd H (by simp)
   ·rw [if_neg c3] at H;have qj:decide (Rl < (l0.length:Int))=false:=decide_eq_false c3;clear c3;obtain rfl:=Option.some.inj H;go_wp2;go_ret;exact ⟨by first|rfl|(simp;done)|(simp [*];done),by repeat (first|exact qc.refl _|apply qc.step)⟩
end Go.Proofs.Ytoomcmaifgkkfaa.P
end
section
namespace Go.Proofs.Ytoomcmaifgkkfaa.P
open Go.RowKit Go.Proofs.La.Zb Go.Proofs.La.Me Go.Proofs.La.Ig
set_option linter.unusedVariables false
set_option linter.unusedSimpArgs false
open Go.Shelf
def Np:Go.Shelf.Ren:=⟨fun | 189=>112 | 125=>129 | 257=>128 | 128=>150 | 129=>151 | 294=>141 | 295=>142 | 296=>143 | 297=>144 | 298=>145 | 299=>146 | 216=>147 | 300=>148 | 301=>149 | 328=>155 | 329=>156 | 330=>157 | 331=>158 | 332=>159 | 215=>160 | 343=>162|n=>n,fun | 28=>22 | 3=>3 | 46=>130 | 0=>0 | 51=>159 | 53=>161 | 4=>4 | 183=>151 | 182=>150 | 131=>156 | 5=>5 | 9=>9 | 218=>163 | 222=>167 | 228=>170 | 229=>171|n=>n,fun|n=>n⟩
theorem vp:Go.Proofs.Lays.n189 Try.prog Np:={
 mixed:=by kernel_rfl
 f125:=Try.func129.trans (congrArg some (by kernel_rfl))
 f128:=Try.func150.trans (congrArg some (by kernel_rfl))
 f129:=Try.func151.trans (congrArg some (by kernel_rfl))
 f189:=Try.func112.trans (congrArg some (by kernel_rfl))
 f215:=Try.func160.trans (congrArg some (by kernel_rfl))
 f216:=Try.func147.trans (congrArg some (by kernel_rfl))
 f257:=Try.func128.trans (congrArg some (by kernel_rfl))
 f294:=Try.func141.trans (congrArg some (by kernel_rfl))
 f295:=Try.func142.trans (congrArg some (by kernel_rfl))
 f296:=Try.func143.trans (congrArg some (by kernel_rfl))
 f297:=Try.func144.trans (congrArg some (by kernel_rfl))
 f298:=Try.func145.trans (congrArg some (by kernel_rfl))
 f299:=Try.func146.trans (congrArg some (by kernel_rfl))
 f300:=Try.func148.trans (congrArg some (by kernel_rfl))
 f301:=Try.func149.trans (congrArg some (by kernel_rfl))
 f328:=Try.func155.trans (congrArg some (by kernel_rfl))
 f329:=Try.func156.trans (congrArg some (by kernel_rfl))
 f330:=Try.func157.trans (congrArg some (by kernel_rfl))
 f331:=Try.func158.trans (congrArg some (by kernel_rfl))
 f332:=Try.func159.trans (congrArg some (by kernel_rfl))
 f343:=Try.func162.trans (congrArg some (by kernel_rfl))
 t0:=Try.underlying0
 a0:=Try.isAgg0
 z0:=Try.sizeOf0
 v0:=Try.zeroValue0
 t3:=Try.underlying3
 a3:=Try.isAgg3
 z3:=Try.sizeOf3
 v3:=Try.zeroValue3
 t4:=Try.underlying4
 a4:=Try.isAgg4
 z4:=Try.sizeOf4
 v4:=Try.zeroValue4
 t5:=Try.underlying5
 a5:=Try.isAgg5
 z5:=Try.sizeOf5
 v5:=Try.zeroValue5
 t9:=Try.underlying9
 a9:=Try.isAgg9
 z9:=Try.sizeOf9
 v9:=Try.zeroValue9
 t28:=Try.underlying22
 a28:=Try.isAgg22
 z28:=Try.sizeOf22
 v28:=Try.zeroValue22
 t46:=Try.underlying130
 a46:=Try.isAgg130
 z46:=Try.sizeOf130
 v46:=Try.zeroValue130
 t51:=Try.underlying159
 a51:=Try.isAgg159
 z51:=Try.sizeOf159
 v51:=Try.zeroValue159
 t53:=Try.underlying161
 a53:=Try.isAgg161
 z53:=Try.sizeOf161
 v53:=Try.zeroValue161
 t131:=Try.underlying156
 a131:=Try.isAgg156
 z131:=Try.sizeOf156
 v131:=Try.zeroValue156
 t182:=Try.underlying150
 a182:=Try.isAgg150
 z182:=Try.sizeOf150
 v182:=Try.zeroValue150
 t183:=Try.underlying151
 a183:=Try.isAgg151
 z183:=Try.sizeOf151
 v183:=Try.zeroValue151
 t218:=Try.underlying163
 a218:=Try.isAgg163
 z218:=Try.sizeOf163
 v218:=Try.zeroValue163
 t222:=Try.underlying167
 a222:=Try.isAgg167
 z222:=Try.sizeOf167
 v222:=Try.zeroValue167
 t228:=Try.underlying170
 a228:=Try.isAgg170
 z228:=Try.sizeOf170
 v228:=Try.zeroValue170
 t229:=Try.underlying171
 a229:=Try.isAgg171
 z229:=Try.sizeOf171
 v229:=Try.zeroValue171 }
open Go.Sort Go.RowKit in
theorem En (blk off cap:Nat) (zs:List Int) (w:World) (hH:Holds (Value.int .i64) w blk off zs.toArray) (hblk:blk < w.heap.size) (hsz:zs.length < 4611686018427387904) :
  Calls Try.prog 112 #[.slice (some ⟨blk,off,none⟩) zs.length cap] w fun e w' =>
   e = .returned (.tuple #[])∧∃ n os,w' = grow (putRow (Value.int .i64) (Sort.ahead w n) blk off (zs.mergeSort fun x y=>decide (x ≤ y)).toArray) os:=Any.slices_Sort_int vp blk off cap zs w hH hblk hsz
def Uo:Go.Shelf.Ren:=⟨fun | 20=>113|n=>n,fun | 22=>22 | 3=>3 | 4=>4 | 0=>0|n=>n,fun|n=>n⟩
theorem sn:Go.Proofs.Lays2.n20 Try.prog Uo:={
 mixed:=by kernel_rfl
 f20:=Try.func113.trans (congrArg some (by kernel_rfl))
 t0:=Try.underlying0
 a0:=Try.isAgg0
 z0:=Try.sizeOf0
 v0:=Try.zeroValue0
 t3:=Try.underlying3
 a3:=Try.isAgg3
 z3:=Try.sizeOf3
 v3:=Try.zeroValue3
 t4:=Try.underlying4
 a4:=Try.isAgg4
 z4:=Try.sizeOf4
 v4:=Try.zeroValue4
 t22:=Try.underlying22
 a22:=Try.isAgg22
 z22:=Try.sizeOf22
 v22:=Try.zeroValue22
 i3:=by kernel_rfl }
open Go.RowKit Go.Lib Go.Sort in
theorem dm (blk off cap:Nat) (zs:List Int) (w:World) (hH:Holds (Value.int .i64) w blk off zs.toArray) (hsz:zs.length ≤ 9223372036854775807) (hcap:zs.length ≤ cap) :
  Calls Try.prog 113 #[.slice (some ⟨blk,off,none⟩) zs.length cap] w fun e w'=>e = .returned (.slice (some ⟨blk,off,none⟩) (Lib.compact zs).length cap)∧∃ q,w' = putRow (Value.int .i64) (Sort.ahead w q) blk off (Lib.compact zs ++ List.replicate (zs.length - (Lib.compact zs).length) 0).toArray:=Any.slices_Compact_int sn blk off cap zs w hH hsz hcap
open Go.RowKit Go.Lib Go.Sort in
theorem bk (a:Option Addr) (cap:Nat) (w:World) :
  Calls Try.prog 113 #[.slice a 0 cap] w fun e w'=>e = .returned (.slice a 0 cap)∧w' = w:=Any.slices_Compact_int_empty sn a cap w
open Go.RowKit Go.Sort in
theorem Dl (p:Option Addr) (cap:Nat) (w:World) :
  Calls Try.prog 112 #[.slice p 0 cap] w fun e w'=>e = .returned (.tuple #[])∧w' = w:=Any.slices_Sort_int_none vp p cap w
end Go.Proofs.Ytoomcmaifgkkfaa.P
end
section
namespace Go.Proofs.Ytoomcmaifgkkfaa.P
open Go.RowKit Go.Proofs.La.Zb Go.Proofs.La.Me Go.Proofs.La.Ig
set_option linter.unusedVariables false
set_option linter.unusedSimpArgs false
def Xo (l:List Int):List Int:=Go.Lib.compact (l.mergeSort fun x y=>decide (x ≤ y))
def Ng.f (l0:List Int):Option (List Int):=if l0.length ≤ 4398046511104 then some (Xo l0) else none
theorem qz (zs:List Int):(Go.Lib.compact zs).length ≤ zs.length:=by
 unfold Go.Lib.compact Go.Lib.compactUpTo;rw [List.length_map];have:=List.length_filter_le (Go.Lib.keeps zs.toArray) (List.range zs.length)
 rwa [List.length_range] at this
open Go.RowKit Go.Lib Go.Sort in
theorem EL (B g n c:Nat) (P:Nat→Prop) (l0:List Int) (w:World) (hn:l0.length=n) (hgB:B ≤ g) (hP:P g) (hl:n ≤ 4398046511104) (hown:w.ownsRow B 3 1 (.slice (some ⟨g,0,none⟩) n c) n (Tl (Value.int .i64) l0)) :
  Calls Try.prog 86 #[.slice (some ⟨g,0,none⟩) n c] w fun e w'=>∃ qp:Value,e = .returned qp∧Kd.R (Kd.int .i64) 3 w' B P qp (Xo l0)∧w.grownBy w' (some g):=by
 obtain ⟨cur,hb,h1,h2,h3,h4⟩:∃ cur,w.heap[g]? = some (.cells cur 3 (0,0))∧n ≤ c∧c ≤ maxLen∧cur.size=c * 1∧cur.toList.take (n * 1)=Tl (Value.int .i64) l0:=by
  rcases hown.2 with ⟨h0,_⟩|⟨g',cap',cur,hv,_,hh,a1,a2,a3,a4⟩
  ·cases h0
  ·cases hv;exact ⟨cur,hh,a1,a2,a3,a4⟩
 subst hn;rw [Nat.mul_one] at h4;have HH:=aa.mk (holds_of_blockI (ss:=l0) hb (by rw [h4];rfl));have HG:=aa.mk (Array.getElem?_eq_some_iff.1 hb).1;have HB:=aa.mk hb;have H1:=aa.mk h1;have H2:=aa.mk h2;have H3:=aa.mk h3;have H4:=aa.mk h4;clear hown hb h1 h2 h3 h4;obtain ⟨s,hs⟩:∃ s:List Int,s=l0.mergeSort fun x y=>decide (x ≤ y):=⟨_,rfl⟩
 have o8:s.length=l0.length:=by rw [hs];exact List.length_mergeSort l0
 have HS:=aa.mk hs;have TP:=aa.mk o8;clear hs o8;go_enter Try.func86,Try.ntmps86
 go_upto_region 2 with (go_at_call 112;(with_reducible refine (En g 0 c l0 w HH.out HG.out (by omega)).mono ?_);rintro e w1 ⟨rfl,m,os,hw1⟩;have HW1:=aa.mk hw1;clear hw1)
 have HB1:=aa.mk (show w1.heap[g]? = some (.cells (putCells (Value.int .i64) 0 s.toArray cur) 3 (0,0)) from by rw [HW1.out,← HS.out];exact heap_sortedI _ HB.out);have HG1:=aa.mk (show w.grownBy w1 (some g) from by rw [HW1.out];exact grownBy_sortedI _);have HH1:=aa.mk (holds_of_blockI (ss:=s) HB1.out (take_putCellsI cur s (by have:=H3.out;have:=H1.out;have:=TP.out;omega)));have W_:(Go.Lib.compact s).length ≤ s.length:=qz s;have HCP:=aa.mk W_;clear W_;have HL:=aa.mk hl;clear hl;have PZ:=aa.mk (dm g 0 c s w1 HH1.out (by have:=HL.out;have:=TP.out;omega) (by have:=H1.out;have:=TP.out;omega));rw [TP.out] at PZ;go_wp2_with (go_at_call 113;(refine PZ.out.mono ?_);rintro e w2 ⟨rfl,q,hw2⟩;have HW2:=aa.mk hw2;clear hw2);go_ret
 have hz:(Go.Lib.compact s ++ List.replicate (l0.length - (Go.Lib.compact s).length) 0).length=s.length:=by
  rw [List.length_append,List.length_replicate];have:=HCP.out;have:=TP.out;omega
 refine ⟨_,rfl,?_,?_⟩
 ·have hr:=ownsRow_sortedI (w:=w1) (base:=B) (n:=q) (os:=#[]) (ss:=s) (ts:=Go.Lib.compact s ++ List.replicate (l0.length - (Go.Lib.compact s).length) 0) hz hgB HB1.out (by rw [TP.out];exact H1.out) H2.out (by simp [putCells,H3.out]);rw [grow_empty,← HW2.out] at hr
  have hR:Kd.R (Kd.int .i64) 3 w2 B P (.slice (some ⟨g,0,none⟩) s.length c) (Go.Lib.compact s ++ List.replicate (l0.length - (Go.Lib.compact s).length) 0):=Kd.Bz (by rw [hz];exact hr) (fun k hk=>by
   have:g=k:=by simpa [Value.ownBlock] using hk
   subst this
   exact hP)
  have ht:=Kd.fP (m:=(Go.Lib.compact s).length) hR (by rw [hz];exact HCP.out);rw [List.take_left] at ht;unfold Xo;rw [← HS.out];exact ht
 ·have h2:=grownBy_sortedI (w:=w1) (g:=g) (n:=q) (os:=#[]) (Go.Lib.compact s ++ List.replicate (l0.length - (Go.Lib.compact s).length) 0).toArray;rw [grow_empty,← HW2.out] at h2;exact HG1.out.trans h2
theorem Ng.calls (pn:Nat→Prop) (Eh:Value) (l0:List Int) (r:List Int) (w0 w:World) (hB:Below w0.heap.size w0 w) (zi:Kd.R (Kd.int .i64) 3 w w0.heap.size pn Eh l0) (h:Ng.f l0=some r) :
  Calls Try.prog 86 #[Eh] w fun e w'=>∃ qp:Value,e = .returned (qp)∧Kd.R (Kd.int .i64) 3 w' w0.heap.size (fun k_=>(pn k_ ∨ w.heap.size ≤ k_)) qp r∧Below w0.heap.size w0 w'∧Kept w w' (fun k_=>pn k_):=by
 unfold Ng.f at h;have hl:l0.length ≤ 4398046511104:=Decidable.byContradiction fun hn=>by rw [if_neg hn] at h;cases h
 rw [if_pos hl] at h;obtain rfl:=Option.some.inj h;have ho:=Kd.lu zi;have hbase:=Kd.Td zi;have hP:=zi.1
 rcases ho.2 with ⟨rfl,h0⟩|⟨g,cap,cur,rfl,hg,_⟩
 ·obtain rfl:l0=[]:=List.eq_nil_of_length_eq_zero h0;clear ho zi hbase hP h;have HB:=aa.mk hB;clear hB;go_enter Try.func86,Try.ntmps86
  go_upto_region 2 with (go_at_call 112;(with_reducible refine (Dl none 0 w).mono ?_);rintro e w1 ⟨rfl,rfl⟩)
  go_wp2_with (go_at_call 113;(with_reducible refine (bk none 0 _).mono ?_);rintro e w2 ⟨rfl,rfl⟩);go_ret;exact ⟨_,rfl,by rw [show Xo []=[] from by simp [Xo,Go.Lib.compact,Go.Lib.compactUpTo]];exact Kd.ZM _ _ _ _ _,HB.out,Kept.refl _ _⟩
 ·have hPg:=hP g rfl;refine (EL w0.heap.size g l0.length cap (fun k_=>(pn k_ ∨ w.heap.size ≤ k_)) l0 w rfl hg (Or.inl hPg) hl ho).mono ?_;rintro e w' ⟨v,he,hr,v_⟩;exact ⟨v,he,hr,Mn hB _ hB.size v_ (fun k hk=>by cases hk;exact hg),Kept.Fj v_ (Kept.refl _ _) (fun k hk=>by cases hk;exact Or.inl hPg)⟩
attribute [local go_sem] Kj Ij Vk Uk Mi Li Jj Hj
def Ke.l0:Nat→List Int→List (Wc)→Int→Int→Option (List Int)
 | 0,_,_,_,_=>none
 | k + 1,x3,x8,x9,Cr=>if Cr < x9 then (if 0 ≤ Cr then (if Cr < (x8.length:Int) then (if ((ta x8 Cr).f0)=8 then (if x3.length < 17592186044416 then (Ke.l0 k (x3 ++ [(ta x8 Cr).f4]) x8 x9 (wrap64 (Cr + 1))) else (none)) else (if ((ta x8 Cr).f0)=9 then (if x3.length < 17592186044416 then (Ke.l0 k (x3 ++ [(ta x8 Cr).f4]) x8 x9 (wrap64 (Cr + 1))) else (none)) else (Ke.l0 k x3 x8 x9 (wrap64 (Cr + 1))))) else (none)) else (none)) else ((Ng.f x3).bind fun t113=>(some t113))
def Ke.f (k:Nat) (Sa:List Int) (Qa:Int) (Ra:Int) (Ca:List (Wc)):Option (List Int):=Ke.l0 k (([]:List Int)) Ca (Ca.length:Int) 0
theorem Ke.calls (k:Nat) (zb:Option Addr) (yb:Nat) (Sa:List Int) (Qa:Int) (Ra:Int) (Kb:Option Addr) (Ab:Nat) (Ca:List (Wc)) (r:List Int) (w:World) (Ef:Kd.C (Kd.int .i64) w zb Sa.length Sa) (uf:Sa.length ≤ yb) (Df:Kd.C bg w Kb Ca.length Ca) (tf:Ca.length ≤ Ab) (h:Ke.f k Sa Qa Ra Ca=some r) :
  Calls Try.prog 59 #[.agg #[.slice zb Sa.length yb,.int .i64 Qa,.int .i64 Ra,.slice Kb Ca.length Ab]] w fun e w'=>∃ qp:Value,e = .returned (qp)∧Kd.R (Kd.int .i64) 3 w' w.heap.size (fun _=>True) qp r∧Below w.heap.size w w':=by
 have su:=Try.underlying30;have dz:=Try.underlying67;have Ff:=aa.mk Ef;have Xf:=aa.mk uf;clear Ef uf;have Je:=aa.mk Df;have Pg:=aa.mk tf;clear Df tf;have HB:=aa.mk (Below.refl w.heap.size w);have H:(Ke.l0 k (([]:List Int)) Ca (Ca.length:Int) 0)=some r:=h;clear h;obtain ⟨Dh,Tn⟩:∃ y_:List Int,y_=(([]:List Int)):=⟨_,rfl⟩;replace H:(Ke.l0 k Dh Ca (Ca.length:Int) 0)=some r:=by first|(rw [Tn];with_reducible exact H)|(have Cf:=(Option.bind_some _ _).symm.trans H;rw [Tn];with_reducible exact Cf)|(have Cf:=(Option.bind_some _ _).symm.trans H;with_reducible exact Cf)|with_reducible exact H|(rw [Tn];exact H)|exact H
 have SC:=aa.mk Tn;clear Tn;have H':=aa.mk H;clear H;go_enter Try.func59,Try.ntmps59;go_wp2_with (first|((with_reducible refine Rb (N:=1) rfl ?_);refine Pb ?hg (N:=1) ?hd (cs:=#[.slice zb Sa.length yb,.int .i64 Qa,.int .i64 Ra,.slice Kb Ca.length Ab]) (t:=30) ?hr ?_;(case hd=>rfl);(case hg=>rfl);(case hr=>first|(go_simp;done)|(go_simp;rfl));intro Fa hg w2 ec hb;have Ub:=aa.mk (Va (by repeat (first|(with_reducible first|exact HB.out|apply ua|apply ga|apply Aa)|exact HB.out)) hb);have Wb:=aa.mk (ec);have ic:=aa.mk ((by rw [hg];exact (Ka (by repeat (first|(with_reducible first|exact HB.out|apply ua|apply ga|apply Aa)|exact HB.out))):w.heap.size ≤ Fa));have mc:=aa.mk ((by rw [hg];exact (Ka (by repeat (first|(with_reducible first|exact HB.out|apply ua|apply ga|apply Aa)|exact HB.out))):w.heap.size ≤ Fa));clear HB;have HB:=Ub;have Ba:=Wb;have qg:=ic;have Ua:=mc;clear Ub Wb ic mc hb ec hg)|((with_reducible refine Rb (N:=6) rfl ?_);refine Kd.js (Kd.int .i64) _ 3 ?hg (N:=6) ?hd (xs:=([]:List Int)) (inner:=[]) (ok:=fun _=>True) (tn:=fun _=>True) ?hr ?hp (fun _ hk=>hk) trivial (Below.refl _ _) (Nat.le_refl _) (by simp) ?_;(case hd=>rfl);(case hg=>rfl);(case hr=>first|(go_simp;done)|(go_simp;rfl));(case hp=>exact (Ue.none _ _));intro Fab w3 rI hb uw Mj;clear uw Mj;(first|rw [← SC.out] at rI|(simp only [Int.reduceToNat] at rI;rw [← SC.out] at rI));have Ub:=aa.mk (Kd.ke rI (Ka (by repeat (first|(with_reducible first|exact HB.out|apply ua|apply ga|apply Aa|refine ja ?_ Ua.out)|exact HB.out))));have Wb:=aa.mk (Oa (g:=Fa) (o:=.cells #[.slice zb Sa.length yb,.int .i64 Qa,.int .i64 Ra,.slice Kb Ca.length Ab] 30 (0,0)) (by (with_reducible repeat (first|refine oa ?_ _|refine za ?_|refine qa ?_ _));exact Ba.out) hb);have ic:=aa.mk (Va (by repeat (first|(with_reducible first|exact HB.out|apply ua|apply ga|apply Aa|refine ja ?_ Ua.out)|exact HB.out)) hb);clear Ba HB;have MU:=Ub;have Ba:=Wb;have HB:=ic;clear Ub Wb ic hb rI;have SF:w3.cell? ⟨Fa,0,none⟩=some (.slice zb Sa.length yb):=(ya Ba.out 0).trans rfl;have RF:w3.cell? ⟨Fa,1,none⟩=some (.int .i64 Qa):=(ya Ba.out 1).trans rfl;have QF:w3.cell? ⟨Fa,2,none⟩=some (.int .i64 Ra):=(ya Ba.out 2).trans rfl;have PF:w3.cell? ⟨Fa,3,none⟩=some (.slice Kb Ca.length Ab):=(ya Ba.out 3).trans rfl;have YE:=ia Ba.out 0;have XE:=ia Ba.out 1;have WE:=ia Ba.out 2;have VE:=ia Ba.out 3))
 go_loopg [3,10] k (fun kq v3 v10 w'=>∃ (kf:List Int) (Zc:Int),v10 = .int .i64 Zc∧aa (Ke.l0 kq kf Ca (Ca.length:Int) Zc=some r)∧aa (kq ≤ k)∧aa (Kd.R (Kd.int .i64) 3 w' w.heap.size (fun _=>True) v3 kf)∧aa (w'.heap[Fa]? = some (.cells #[(.slice zb Sa.length yb),.int .i64 Qa,.int .i64 Ra,(.slice Kb Ca.length Ab)] 30 (0,0)))∧aa (Below w.heap.size w w'))
 case atStart=>exact ⟨(Dh),(0),(by first|rfl|(simp;done)|(simp [*];done)),H',⟨Nat.le_refl _⟩,⟨by (with_reducible repeat (first|apply Kd.Ea|apply Kd.Da|apply Kd.Ga));exact MU.out⟩,⟨by (with_reducible repeat (first|refine oa ?_ _|refine za ?_|refine qa ?_ _));exact Ba.out⟩,⟨by repeat (first|(with_reducible first|exact HB.out|apply ua|apply ga|apply Aa|refine ja ?_ Ua.out)|exact HB.out)⟩⟩
 case round =>
  clear H'
  try clear p2
  try clear c5
  try clear SF
  try clear RF
  try clear QF
  try clear PF
  try clear YE
  try clear XE
  try clear WE
  try clear VE
  (try clear HA);(try clear si);(try clear Sg);(try clear Ba);(try clear HB);obtain ⟨kf,Zc,rfl,HA,si,Sg,Ba,HB⟩:=hrel;cases gk with
  | zero=>exact absurd HA.out (by simp [Ke.l0])
  | succ k1 =>
   have H:=HA.out;clear HA;simp only [Ke.l0] at H
   by_cases c6:Zc < (Ca.length:Int)
   ·rw [if_pos c6] at H;have en:decide (Zc < (Ca.length:Int))=true:=decide_eq_true c6;clear c6
    by_cases c7:0 ≤ Zc
    ·rw [if_pos c7] at H;have uz:decide (0 ≤ Zc)=true:=decide_eq_true c7;clear c7
     by_cases c8:Zc < (Ca.length:Int)
     ·rw [if_pos c8] at H;have PA:decide (Zc < (Ca.length:Int))=true:=decide_eq_true c8;clear c8
      by_cases c9:((ta Ca Zc).f0)=8
      ·rw [if_pos c9] at H;have tL:(((ta Ca Zc).f0) == 8)=true:=beq_iff_eq.mpr c9;have QO:(((ta Ca Zc).f0) != 8)=false:=bne_eq_false_iff_eq.mpr c9;clear c9
       by_cases qy:kf.length < 17592186044416
       ·rw [if_pos qy] at H;have xU:=aa.mk qy;clear qy;obtain ⟨Ro,Pn⟩:∃ y_:List Int,y_=(kf ++ [(ta Ca Zc).f4]):=⟨_,rfl⟩;replace H:(Ke.l0 k1 Ro Ca (Ca.length:Int) (wrap64 (Zc + 1)))=some r:=by first|(rw [Pn];with_reducible exact H)|(have Cf:=(Option.bind_some _ _).symm.trans H;rw [Pn];with_reducible exact Cf)|(have Cf:=(Option.bind_some _ _).symm.trans H;with_reducible exact Cf)|with_reducible exact H|(rw [Pn];exact H)|exact H
        have yH:=aa.mk Pn;clear Pn;have H':=aa.mk H;clear H;have Vm:0 ≤ (Zc:Int):=of_decide_eq_true (by first|(with_reducible assumption)|assumption);have Tm:Zc < (Ca.length:Int):=of_decide_eq_true (by first|(with_reducible assumption)|assumption);obtain ⟨Mk,Px,uk,sk,qk,nk,jk⟩:=Yd Je.out Zc Vm Tm;cases Px;replace uk:=Ya HB.out uk;replace sk:=Ya HB.out sk;replace qk:=Ya HB.out qk;replace nk:=Ya HB.out nk;replace jk:=Ya HB.out jk;replace Vm:=eq_true Vm;replace Tm:=eq_true Tm;go_wp2_with (first|((with_reducible refine Rb (N:=5) rfl ?_);refine Pb ?hg (N:=5) ?hd (cs:=#[.int .i64 0,.int .i64 0,.int .i64 0,.int .i64 0,.int .i64 0]) (t:=67) ?hr ?_;(case hd=>rfl);(case hg=>rfl);(case hr=>first|(go_simp;done)|(go_simp;rfl));intro We hg Jn ec hb;have Ub:=aa.mk (Kd.gb (by (with_reducible repeat (first|apply Kd.Ea|apply Kd.Da|apply Kd.Ga));exact Sg.out) hb);have Wb:=aa.mk (Oa (g:=Fa) (o:=.cells #[.slice zb Sa.length yb,.int .i64 Qa,.int .i64 Ra,.slice (some Mk) Ca.length Ab] 30 (0,0)) (by (with_reducible repeat (first|refine oa ?_ _|refine za ?_|refine qa ?_ _));exact Ba.out) hb);have ic:=aa.mk (Va (by repeat (first|(with_reducible first|exact HB.out|apply ua|apply ga|apply Aa|refine ja ?_ Ua.out)|exact HB.out)) hb);have mc:=aa.mk (ec);have Xc:=aa.mk ((by rw [hg];exact (Ka (by repeat (first|(with_reducible first|exact HB.out|apply ua|apply ga|apply Aa|refine ja ?_ Ua.out)|exact HB.out))):w.heap.size ≤ We));have yd:=aa.mk ((by rw [hg];exact (Ka (by repeat (first|(with_reducible first|exact HB.out|apply ua|apply ga|apply Aa|refine ja ?_ Ua.out)|exact HB.out))):w.heap.size ≤ We));have Gd:=aa.mk ((by rw [hg];exact Nat.ne_of_lt (Nb (g:=Fa) (o:=.cells #[.slice zb Sa.length yb,.int .i64 Qa,.int .i64 Ra,.slice (some Mk) Ca.length Ab] 30 (0,0)) (by (with_reducible repeat (first|refine oa ?_ _|refine za ?_|refine qa ?_ _));exact Ba.out)):Fa ≠ We));have Xe:=aa.mk ((by rw [hg];exact Nat.ne_of_gt (Nb (g:=Fa) (o:=.cells #[.slice zb Sa.length yb,.int .i64 Qa,.int .i64 Ra,.slice (some Mk) Ca.length Ab] 30 (0,0)) (by (with_reducible repeat (first|refine oa ?_ _|refine za ?_|refine qa ?_ _));exact Ba.out)):We ≠ Fa));clear Sg Ba HB;have Sg:=Ub;have Ba:=Wb;have HB:=ic;have lf:=mc;have lN:=Xc;have Br:=yd;have Re:=Gd;have Gm:=Xe;clear Ub Wb ic mc Xc yd Gd Xe hb ec hg;have vR:=Gm.out;have dR:=Re.out;have IC:Jn.cell? ⟨We,0,none⟩=some (.int .i64 0):=(ya lf.out 0).trans rfl;have GC:Jn.cell? ⟨We,1,none⟩=some (.int .i64 0):=(ya lf.out 1).trans rfl;have FC:Jn.cell? ⟨We,2,none⟩=some (.int .i64 0):=(ya lf.out 2).trans rfl;have EC:Jn.cell? ⟨We,3,none⟩=some (.int .i64 0):=(ya lf.out 3).trans rfl;have xZ:Jn.cell? ⟨We,4,none⟩=some (.int .i64 0):=(ya lf.out 4).trans rfl;have XB:=ia lf.out 0;have WB:=ia lf.out 1;have VB:=ia lf.out 2;have UB:=ia lf.out 3;have yX:=ia lf.out 4)|((with_reducible refine Ge (b:=.append) (xs:=#[.tmp 22,.tmp 25]) rfl ?_);at_builtin;refine Kd.xg (Kd.int .i64) (w0:=w) w.heap.size rfl (.tmp 22) (.tmp 25) 22 3 (.int .i64 0) 8 rfl Try.underlying22 info3 rfl (by decide) (by omega) u3 kf ((ta Ca Zc).f4) [.int .i64 ((ta Ca Zc).f4)] (fun _=>True) (fun _=>False) rfl (by first|(go_simp;done)|(go_simp;rfl)) ?aP (fun _ hk=>hk.elim) ?aF ?aO ?aB ?aS ?aL ?_;(case aP=>exact rfl);(case aB=>exact (by repeat (first|(with_reducible first|exact HB.out|apply ua|apply ga|apply Aa|refine ja ?_ Ua.out|refine ja ?_ Br.out)|exact HB.out)));(case aF=>exact (fun _ _=>trivial));(case aO=>exact (by (with_reducible repeat (first|apply Kd.Ea|apply Kd.Da|apply Kd.Ga));exact Kd.jb (Kd.Ja (p:=⟨We,4,none⟩) (Kd.Ja (p:=⟨We,3,none⟩) (Kd.Ja (p:=⟨We,2,none⟩) (Kd.Ja (p:=⟨We,1,none⟩) (Kd.Ja (p:=⟨We,0,none⟩) (Kd.Cb Sg.out lf.out (by decide)) (fun _ hk=>hk.2) (.int .i64 ((ta Ca Zc).f0))) (fun _ hk=>hk.2) (.int .i64 ((ta Ca Zc).f1))) (fun _ hk=>hk.2) (.int .i64 ((ta Ca Zc).f2))) (fun _ hk=>hk.2) (.int .i64 ((ta Ca Zc).f3))) (fun _ hk=>hk.2) (.int .i64 ((ta Ca Zc).f4))) (fun _ hk=>trivial)));(case aS=>exact (Ka (by repeat (first|(with_reducible first|exact HB.out|apply ua|apply ga|apply Aa|refine ja ?_ Ua.out|refine ja ?_ Br.out)|exact HB.out))));(case aL=>have:=xU.out;omega);intro oQ Ep ho hb hg hat;rw [← yH.out] at ho;have Ub:=aa.mk (fc (g:=Fa) (o:=.cells #[.slice zb Sa.length yb,.int .i64 Qa,.int .i64 Ra,.slice (some Mk) Ca.length Ab] 30 (0,0)) (by (with_reducible repeat (first|refine oa ?_ _|refine za ?_|refine qa ?_ _));refine Za ?_ Re.out _;(with_reducible repeat (first|refine oa ?_ _|refine za ?_|refine qa ?_ _));refine Za ?_ Re.out _;(with_reducible repeat (first|refine oa ?_ _|refine za ?_|refine qa ?_ _));refine Za ?_ Re.out _;(with_reducible repeat (first|refine oa ?_ _|refine za ?_|refine qa ?_ _));refine Za ?_ Re.out _;(with_reducible repeat (first|refine oa ?_ _|refine za ?_|refine qa ?_ _));refine Za ?_ Re.out _;(with_reducible repeat (first|refine oa ?_ _|refine za ?_|refine qa ?_ _));exact Ba.out) hg (Kd.Ve Sg.out Ba.out (by decide)));have Wb:=aa.mk (fc (g:=We) (o:=.cells #[.int .i64 ((ta Ca Zc).f0),.int .i64 ((ta Ca Zc).f1),.int .i64 ((ta Ca Zc).f2),.int .i64 ((ta Ca Zc).f3),.int .i64 ((ta Ca Zc).f4)] 67 (0,0)) (by (with_reducible repeat (first|refine oa ?_ _|refine za ?_|refine qa ?_ _));refine Ob (cs:=#[.int .i64 ((ta Ca Zc).f0),.int .i64 ((ta Ca Zc).f1),.int .i64 ((ta Ca Zc).f2),.int .i64 ((ta Ca Zc).f3),.int .i64 0]) ?_ 4 _ rfl;(with_reducible repeat (first|refine oa ?_ _|refine za ?_|refine qa ?_ _));refine Ob (cs:=#[.int .i64 ((ta Ca Zc).f0),.int .i64 ((ta Ca Zc).f1),.int .i64 ((ta Ca Zc).f2),.int .i64 0,.int .i64 0]) ?_ 3 _ rfl;(with_reducible repeat (first|refine oa ?_ _|refine za ?_|refine qa ?_ _));refine Ob (cs:=#[.int .i64 ((ta Ca Zc).f0),.int .i64 ((ta Ca Zc).f1),.int .i64 0,.int .i64 0,.int .i64 0]) ?_ 2 _ rfl;(with_reducible repeat (first|refine oa ?_ _|refine za ?_|refine qa ?_ _));refine Ob (cs:=#[.int .i64 ((ta Ca Zc).f0),.int .i64 0,.int .i64 0,.int .i64 0,.int .i64 0]) ?_ 1 _ rfl;(with_reducible repeat (first|refine oa ?_ _|refine za ?_|refine qa ?_ _));refine Ob (cs:=#[.int .i64 0,.int .i64 0,.int .i64 0,.int .i64 0,.int .i64 0]) ?_ 0 _ rfl;(with_reducible repeat (first|refine oa ?_ _|refine za ?_|refine qa ?_ _));exact lf.out) hg (Kd.Ve Sg.out lf.out (by decide)));have ic:=aa.mk (hb);have mc:=aa.mk (ho);clear Ba lf HB Sg;have Ba:=Ub;have lf:=Wb;have HB:=ic;have Pm:=mc;clear Ub Wb ic mc ho hb hg hat))
        go_roundg k1
        case measure=>have:=si.out;omega
        case rel=>exact ⟨(Ro),(wrap64 (Zc + 1)),(by first|rfl|(simp;done)|(simp [*];done)),H',⟨by have:=si.out;omega⟩,⟨by (with_reducible repeat (first|apply Kd.Ea|apply Kd.Da|apply Kd.Ga));exact Pm.out⟩,⟨by (with_reducible repeat (first|refine oa ?_ _|refine za ?_|refine qa ?_ _));exact Ba.out⟩,⟨by repeat (first|(with_reducible first|exact HB.out|apply ua|apply ga|apply Aa|refine ja ?_ Ua.out|refine ja ?_ Br.out)|exact HB.out)⟩⟩
       ·rw [if_neg qy] at H;exact absurd H (by simp)
      ·rw [if_neg c9] at H;have tL:(((ta Ca Zc).f0) == 8)=false:=beq_eq_false_iff_ne.mpr c9;have QO:(((ta Ca Zc).f0) != 8)=true:=bne_iff_ne.mpr c9
       by_cases Yr:((ta Ca Zc).f0)=9
       ·rw [if_pos Yr] at H;have Nv:(((ta Ca Zc).f0) == 9)=true:=beq_iff_eq.mpr Yr;have Mv:(((ta Ca Zc).f0) != 9)=false:=bne_eq_false_iff_eq.mpr Yr;clear Yr
        by_cases Wx:kf.length < 17592186044416
        ·rw [if_pos Wx] at H;have wU:=aa.mk Wx;clear Wx;obtain ⟨Tk,Lk⟩:∃ y_:List Int,y_=(kf ++ [(ta Ca Zc).f4]):=⟨_,rfl⟩;replace H:(Ke.l0 k1 Tk Ca (Ca.length:Int) (wrap64 (Zc + 1)))=some r:=by first|(rw [Lk];with_reducible exact H)|(have Cf:=(Option.bind_some _ _).symm.trans H;rw [Lk];with_reducible exact Cf)|(have Cf:=(Option.bind_some _ _).symm.trans H;with_reducible exact Cf)|with_reducible exact H|(rw [Lk];exact H)|exact H
         have Qv:=aa.mk Lk;clear Lk;have H':=aa.mk H;clear H;have Vm:0 ≤ (Zc:Int):=of_decide_eq_true (by first|(with_reducible assumption)|assumption);have Tm:Zc < (Ca.length:Int):=of_decide_eq_true (by first|(with_reducible assumption)|assumption);obtain ⟨Mk,Px,uk,sk,qk,nk,jk⟩:=Yd Je.out Zc Vm Tm;cases Px;replace uk:=Ya HB.out uk;replace sk:=Ya HB.out sk;replace qk:=Ya HB.out qk;replace nk:=Ya HB.out nk;replace jk:=Ya HB.out jk;replace Vm:=eq_true Vm;replace Tm:=eq_true Tm;go_wp2_with (first|((with_reducible refine Rb (N:=5) rfl ?_);refine Pb ?hg (N:=5) ?hd (cs:=#[.int .i64 0,.int .i64 0,.int .i64 0,.int .i64 0,.int .i64 0]) (t:=67) ?hr ?_;(case hd=>rfl);(case hg=>rfl);(case hr=>first|(go_simp;done)|(go_simp;rfl));intro We hg mQ ec hb;have Ub:=aa.mk (Kd.gb (by (with_reducible repeat (first|apply Kd.Ea|apply Kd.Da|apply Kd.Ga));exact Sg.out) hb);have Wb:=aa.mk (Oa (g:=Fa) (o:=.cells #[.slice zb Sa.length yb,.int .i64 Qa,.int .i64 Ra,.slice (some Mk) Ca.length Ab] 30 (0,0)) (by (with_reducible repeat (first|refine oa ?_ _|refine za ?_|refine qa ?_ _));exact Ba.out) hb);have ic:=aa.mk (Va (by repeat (first|(with_reducible first|exact HB.out|apply ua|apply ga|apply Aa|refine ja ?_ Ua.out)|exact HB.out)) hb);have mc:=aa.mk (ec);have Xc:=aa.mk ((by rw [hg];exact (Ka (by repeat (first|(with_reducible first|exact HB.out|apply ua|apply ga|apply Aa|refine ja ?_ Ua.out)|exact HB.out))):w.heap.size ≤ We));have yd:=aa.mk ((by rw [hg];exact (Ka (by repeat (first|(with_reducible first|exact HB.out|apply ua|apply ga|apply Aa|refine ja ?_ Ua.out)|exact HB.out))):w.heap.size ≤ We));have Gd:=aa.mk ((by rw [hg];exact Nat.ne_of_lt (Nb (g:=Fa) (o:=.cells #[.slice zb Sa.length yb,.int .i64 Qa,.int .i64 Ra,.slice (some Mk) Ca.length Ab] 30 (0,0)) (by (with_reducible repeat (first|refine oa ?_ _|refine za ?_|refine qa ?_ _));exact Ba.out)):Fa ≠ We));have Xe:=aa.mk ((by rw [hg];exact Nat.ne_of_gt (Nb (g:=Fa) (o:=.cells #[.slice zb Sa.length yb,.int .i64 Qa,.int .i64 Ra,.slice (some Mk) Ca.length Ab] 30 (0,0)) (by (with_reducible repeat (first|refine oa ?_ _|refine za ?_|refine qa ?_ _));exact Ba.out)):We ≠ Fa));clear Sg Ba HB;have Sg:=Ub;have Ba:=Wb;have HB:=ic;have lf:=mc;have lN:=Xc;have Br:=yd;have Re:=Gd;have Gm:=Xe;clear Ub Wb ic mc Xc yd Gd Xe hb ec hg;have p_:=Gm.out;have r9:=Re.out;have cr:mQ.cell? ⟨We,0,none⟩=some (.int .i64 0):=(ya lf.out 0).trans rfl;have br:mQ.cell? ⟨We,1,none⟩=some (.int .i64 0):=(ya lf.out 1).trans rfl;have Zq:mQ.cell? ⟨We,2,none⟩=some (.int .i64 0):=(ya lf.out 2).trans rfl;have Yq:mQ.cell? ⟨We,3,none⟩=some (.int .i64 0):=(ya lf.out 3).trans rfl;have qZ:mQ.cell? ⟨We,4,none⟩=some (.int .i64 0):=(ya lf.out 4).trans rfl;have Oq:=ia lf.out 0;have Nq:=ia lf.out 1;have Mq:=ia lf.out 2;have Kq:=ia lf.out 3;have rX:=ia lf.out 4)|((with_reducible refine Ge (b:=.append) (xs:=#[.tmp 22,.tmp 25]) rfl ?_);at_builtin;refine Kd.xg (Kd.int .i64) (w0:=w) w.heap.size rfl (.tmp 22) (.tmp 25) 22 3 (.int .i64 0) 8 rfl Try.underlying22 info3 rfl (by decide) (by omega) u3 kf ((ta Ca Zc).f4) [.int .i64 ((ta Ca Zc).f4)] (fun _=>True) (fun _=>False) rfl (by first|(go_simp;done)|(go_simp;rfl)) ?aP (fun _ hk=>hk.elim) ?aF ?aO ?aB ?aS ?aL ?_;(case aP=>exact rfl);(case aB=>exact (by repeat (first|(with_reducible first|exact HB.out|apply ua|apply ga|apply Aa|refine ja ?_ Ua.out|refine ja ?_ Br.out)|exact HB.out)));(case aF=>exact (fun _ _=>trivial));(case aO=>exact (by (with_reducible repeat (first|apply Kd.Ea|apply Kd.Da|apply Kd.Ga));exact Kd.jb (Kd.Ja (p:=⟨We,4,none⟩) (Kd.Ja (p:=⟨We,3,none⟩) (Kd.Ja (p:=⟨We,2,none⟩) (Kd.Ja (p:=⟨We,1,none⟩) (Kd.Ja (p:=⟨We,0,none⟩) (Kd.Cb Sg.out lf.out (by decide)) (fun _ hk=>hk.2) (.int .i64 ((ta Ca Zc).f0))) (fun _ hk=>hk.2) (.int .i64 ((ta Ca Zc).f1))) (fun _ hk=>hk.2) (.int .i64 ((ta Ca Zc).f2))) (fun _ hk=>hk.2) (.int .i64 ((ta Ca Zc).f3))) (fun _ hk=>hk.2) (.int .i64 ((ta Ca Zc).f4))) (fun _ hk=>trivial)));(case aS=>exact (Ka (by repeat (first|(with_reducible first|exact HB.out|apply ua|apply ga|apply Aa|refine ja ?_ Ua.out|refine ja ?_ Br.out)|exact HB.out))));(case aL=>have:=wU.out;omega);intro nQ lQ ho hb hg hat;rw [← Qv.out] at ho;have Ub:=aa.mk (fc (g:=Fa) (o:=.cells #[.slice zb Sa.length yb,.int .i64 Qa,.int .i64 Ra,.slice (some Mk) Ca.length Ab] 30 (0,0)) (by (with_reducible repeat (first|refine oa ?_ _|refine za ?_|refine qa ?_ _));refine Za ?_ Re.out _;(with_reducible repeat (first|refine oa ?_ _|refine za ?_|refine qa ?_ _));refine Za ?_ Re.out _;(with_reducible repeat (first|refine oa ?_ _|refine za ?_|refine qa ?_ _));refine Za ?_ Re.out _;(with_reducible repeat (first|refine oa ?_ _|refine za ?_|refine qa ?_ _));refine Za ?_ Re.out _;(with_reducible repeat (first|refine oa ?_ _|refine za ?_|refine qa ?_ _));refine Za ?_ Re.out _;(with_reducible repeat (first|refine oa ?_ _|refine za ?_|refine qa ?_ _));exact Ba.out) hg (Kd.Ve Sg.out Ba.out (by decide)));have Wb:=aa.mk (fc (g:=We) (o:=.cells #[.int .i64 ((ta Ca Zc).f0),.int .i64 ((ta Ca Zc).f1),.int .i64 ((ta Ca Zc).f2),.int .i64 ((ta Ca Zc).f3),.int .i64 ((ta Ca Zc).f4)] 67 (0,0)) (by (with_reducible repeat (first|refine oa ?_ _|refine za ?_|refine qa ?_ _));refine Ob (cs:=#[.int .i64 ((ta Ca Zc).f0),.int .i64 ((ta Ca Zc).f1),.int .i64 ((ta Ca Zc).f2),.int .i64 ((ta Ca Zc).f3),.int .i64 0]) ?_ 4 _ rfl;(with_reducible repeat (first|refine oa ?_ _|refine za ?_|refine qa ?_ _));refine Ob (cs:=#[.int .i64 ((ta Ca Zc).f0),.int .i64 ((ta Ca Zc).f1),.int .i64 ((ta Ca Zc).f2),.int .i64 0,.int .i64 0]) ?_ 3 _ rfl;(with_reducible repeat (first|refine oa ?_ _|refine za ?_|refine qa ?_ _));refine Ob (cs:=#[.int .i64 ((ta Ca Zc).f0),.int .i64 ((ta Ca Zc).f1),.int .i64 0,.int .i64 0,.int .i64 0]) ?_ 2 _ rfl;(with_reducible repeat (first|refine oa ?_ _|refine za ?_|refine qa ?_ _));refine Ob (cs:=#[.int .i64 ((ta Ca Zc).f0),.int .i64 0,.int .i64 0,.int .i64 0,.int .i64 0]) ?_ 1 _ rfl;(with_reducible repeat (first|refine oa ?_ _|refine za ?_|refine qa ?_ _));refine Ob (cs:=#[.int .i64 0,.int .i64 0,.int .i64 0,.int .i64 0,.int .i64 0]) ?_ 0 _ rfl;(with_reducible repeat (first|refine oa ?_ _|refine za ?_|refine qa ?_ _));exact lf.out) hg (Kd.Ve Sg.out lf.out (by decide)));have ic:=aa.mk (hb);have mc:=aa.mk (ho);clear Ba lf HB Sg;have Ba:=Ub;have lf:=Wb;have HB:=ic;have Bs:=mc;clear Ub Wb ic mc ho hb hg hat))
         go_roundg k1
         case measure=>have:=si.out;omega
         case rel=>exact ⟨(Tk),(wrap64 (Zc + 1)),(by first|rfl|(simp;done)|(simp [*];done)),H',⟨by have:=si.out;omega⟩,⟨by (with_reducible repeat (first|apply Kd.Ea|apply Kd.Da|apply Kd.Ga));exact Bs.out⟩,⟨by (with_reducible repeat (first|refine oa ?_ _|refine za ?_|refine qa ?_ _));exact Ba.out⟩,⟨by repeat (first|(with_reducible first|exact HB.out|apply ua|apply ga|apply Aa|refine ja ?_ Ua.out|refine ja ?_ Br.out)|exact HB.out)⟩⟩
        ·rw [if_neg Wx] at H;exact absurd H (by simp)
       ·rw [if_neg Yr] at H;have Nv:(((ta Ca Zc).f0) == 9)=false:=beq_eq_false_iff_ne.mpr Yr;have Mv:(((ta Ca Zc).f0) != 9)=true:=bne_iff_ne.mpr Yr;have H':=aa.mk H;clear H;have Vm:0 ≤ (Zc:Int):=of_decide_eq_true (by first|(with_reducible assumption)|assumption);have Tm:Zc < (Ca.length:Int):=of_decide_eq_true (by first|(with_reducible assumption)|assumption);obtain ⟨Mk,Px,uk,sk,qk,nk,jk⟩:=Yd Je.out Zc Vm Tm;cases Px;replace uk:=Ya HB.out uk;replace sk:=Ya HB.out sk;replace qk:=Ya HB.out qk;replace nk:=Ya HB.out nk;replace jk:=Ya HB.out jk;replace Vm:=eq_true Vm;replace Tm:=eq_true Tm;go_wp2_with (first|((with_reducible refine Rb (N:=5) rfl ?_);refine Pb ?hg (N:=5) ?hd (cs:=#[.int .i64 0,.int .i64 0,.int .i64 0,.int .i64 0,.int .i64 0]) (t:=67) ?hr ?_;(case hd=>rfl);(case hg=>rfl);(case hr=>first|(go_simp;done)|(go_simp;rfl));intro We hg Kz ec hb;have Ub:=aa.mk (Kd.gb (by (with_reducible repeat (first|apply Kd.Ea|apply Kd.Da|apply Kd.Ga));exact Sg.out) hb);have Wb:=aa.mk (Oa (g:=Fa) (o:=.cells #[.slice zb Sa.length yb,.int .i64 Qa,.int .i64 Ra,.slice (some Mk) Ca.length Ab] 30 (0,0)) (by (with_reducible repeat (first|refine oa ?_ _|refine za ?_|refine qa ?_ _));exact Ba.out) hb);have ic:=aa.mk (Va (by repeat (first|(with_reducible first|exact HB.out|apply ua|apply ga|apply Aa|refine ja ?_ Ua.out)|exact HB.out)) hb);have mc:=aa.mk (ec);have Xc:=aa.mk ((by rw [hg];exact (Ka (by repeat (first|(with_reducible first|exact HB.out|apply ua|apply ga|apply Aa|refine ja ?_ Ua.out)|exact HB.out))):w.heap.size ≤ We));have yd:=aa.mk ((by rw [hg];exact (Ka (by repeat (first|(with_reducible first|exact HB.out|apply ua|apply ga|apply Aa|refine ja ?_ Ua.out)|exact HB.out))):w.heap.size ≤ We));have Gd:=aa.mk ((by rw [hg];exact Nat.ne_of_lt (Nb (g:=Fa) (o:=.cells #[.slice zb Sa.length yb,.int .i64 Qa,.int .i64 Ra,.slice (some Mk) Ca.length Ab] 30 (0,0)) (by (with_reducible repeat (first|refine oa ?_ _|refine za ?_|refine qa ?_ _));exact Ba.out)):Fa ≠ We));have Xe:=aa.mk ((by rw [hg];exact Nat.ne_of_gt (Nb (g:=Fa) (o:=.cells #[.slice zb Sa.length yb,.int .i64 Qa,.int .i64 Ra,.slice (some Mk) Ca.length Ab] 30 (0,0)) (by (with_reducible repeat (first|refine oa ?_ _|refine za ?_|refine qa ?_ _));exact Ba.out)):We ≠ Fa));clear Sg Ba HB;have Sg:=Ub;have Ba:=Wb;have HB:=ic;have lf:=mc;have lN:=Xc;have Br:=yd;have Re:=Gd;have Gm:=Xe;clear Ub Wb ic mc Xc yd Gd Xe hb ec hg;have sR:=Gm.out;have ZQ:=Re.out;have Xq:Kz.cell? ⟨We,0,none⟩=some (.int .i64 0):=(ya lf.out 0).trans rfl;have Wq:Kz.cell? ⟨We,1,none⟩=some (.int .i64 0):=(ya lf.out 1).trans rfl;have Vq:Kz.cell? ⟨We,2,none⟩=some (.int .i64 0):=(ya lf.out 2).trans rfl;have Uq:Kz.cell? ⟨We,3,none⟩=some (.int .i64 0):=(ya lf.out 3).trans rfl;have Ot:Kz.cell? ⟨We,4,none⟩=some (.int .i64 0):=(ya lf.out 4).trans rfl;have Jq:=ia lf.out 0;have Iq:=ia lf.out 1;have Hq:=ia lf.out 2;have Gq:=ia lf.out 3;have vt:=ia lf.out 4))
        go_roundg k1
        case measure=>have:=si.out;omega
        case rel=>exact ⟨(kf),(wrap64 (Zc + 1)),(by first|rfl|(simp;done)|(simp [*];done)),H',⟨by have:=si.out;omega⟩,⟨by (with_reducible repeat (first|apply Kd.Ea|apply Kd.Da|apply Kd.Ga));exact Kd.jb (Kd.Ja (p:=⟨We,4,none⟩) (Kd.Ja (p:=⟨We,3,none⟩) (Kd.Ja (p:=⟨We,2,none⟩) (Kd.Ja (p:=⟨We,1,none⟩) (Kd.Ja (p:=⟨We,0,none⟩) (Kd.Cb Sg.out lf.out (by decide)) (fun _ hk=>hk.2) (.int .i64 ((ta Ca Zc).f0))) (fun _ hk=>hk.2) (.int .i64 ((ta Ca Zc).f1))) (fun _ hk=>hk.2) (.int .i64 ((ta Ca Zc).f2))) (fun _ hk=>hk.2) (.int .i64 ((ta Ca Zc).f3))) (fun _ hk=>hk.2) (.int .i64 ((ta Ca Zc).f4))) (fun _ hk=>trivial)⟩,⟨by (with_reducible repeat (first|refine oa ?_ _|refine za ?_|refine qa ?_ _));refine Za ?_ Re.out _;(with_reducible repeat (first|refine oa ?_ _|refine za ?_|refine qa ?_ _));refine Za ?_ Re.out _;(with_reducible repeat (first|refine oa ?_ _|refine za ?_|refine qa ?_ _));refine Za ?_ Re.out _;(with_reducible repeat (first|refine oa ?_ _|refine za ?_|refine qa ?_ _));refine Za ?_ Re.out _;(with_reducible repeat (first|refine oa ?_ _|refine za ?_|refine qa ?_ _));refine Za ?_ Re.out _;(with_reducible repeat (first|refine oa ?_ _|refine za ?_|refine qa ?_ _));exact Ba.out⟩,⟨by repeat (first|(with_reducible first|exact HB.out|apply ua|apply ga|apply Aa|refine ja ?_ Ua.out|refine ja ?_ Br.out)|exact HB.out)⟩⟩
     ·rw [if_neg c8] at H;exact absurd H (by simp)
    ·rw [if_neg c7] at H;exact absurd H (by simp)
   ·rw [if_neg c6] at H;have en:decide (Zc < (Ca.length:Int))=false:=decide_eq_false c6;clear c6;replace H:=Option.bind_eq_some_iff.mp H;obtain ⟨t113,NH,H⟩:=H;replace H:(some t113)=some r:=H;have k7:=aa.mk NH;clear NH;obtain rfl:=Option.some.inj H;obtain ⟨EP,PO,Y5⟩:=Kd.Ic Sg.out;subst Y5;go_wp2_with (first|((with_reducible refine Xb (f:=86) rfl ?_);refine je (some 29) rfl rfl Try.func86 (by kernel_rfl) rfl #[.slice EP kf.length PO] rfl (by (try simp only [List.map_toArray,List.map_cons,List.map_nil]);first|done|rfl|(simp only [List.length_drop,List.length_take];rfl)) ?_;(with_reducible refine (Ng.calls (fun k_=>some k_=(.slice EP kf.length PO:Value).ownBlock) (.slice EP kf.length PO) kf t113 w _ ?Oc ?Nc k7.out).mono ?_);(case Oc=>repeat (first|(with_reducible first|exact HB.out|apply ua|apply ga|apply Aa|refine ja ?_ Ua.out)|exact HB.out));(case Nc=>exact Kd.Zl rfl Sg.out);rintro e w26 ⟨aI,rfl,zi,hb,hkp⟩;refine ⟨_,rfl,?_⟩;have Ub:=aa.mk (mh (by (with_reducible repeat (first|refine oa ?_ _|refine za ?_|refine qa ?_ _));exact Ba.out) hkp (fun hs_=>(fun e_=>(Kd.Ve Sg.out Ba.out (by decide)) e_) hs_));have Wb:=aa.mk (Kd.jb (Rm:=fun k_=>True) zi (fun k_ af=>trivial));have ic:=aa.mk (hb);clear Ba HB Sg;have Ba:=Ub;have Rv:=Wb;have HB:=ic;clear Ub Wb ic;(try clear hb);(try clear hkp);(try clear zi)));go_ret;exact ⟨_,by first|rfl|(simp [Xa,Wa] <;> rfl)|(simp [*,Xa,Wa] <;> rfl),by (with_reducible repeat (first|apply Kd.Ea|apply Kd.Da|apply Kd.Ga));exact Rv.out,by repeat (first|(with_reducible first|exact HB.out|apply ua|apply ga|apply Aa|refine ja ?_ Ua.out)|exact HB.out)⟩
def Ld.f (k:Nat) (l0:List Int) (a1:Int):Option (Bool):=(Gb.f k l0 a1).bind fun t101=>(some (decide (t101 ≥ 0)))
theorem Ld.mono:∀ a0 a1 k,um (Ld.f k a0 a1) (Ld.f (k + 1) a0 a1):=by
 intro a0 a1 k;unfold Ld.f
 repeat' first
   | (with_reducible exact Gb.mono _ _ _)
   | (with_reducible exact um.refl _)
   | (with_reducible exact um.none _)
   | (with_reducible refine um.ite ?_ ?_)
   | (with_reducible refine um.bind ?_ (fun _=>?_))
   | exact Gb.mono _ _ _
   | exact um.none _
   | refine um.ite ?_ ?_
   | refine um.bind ?_ (fun _=>?_)
theorem Ld.calls (k:Nat) (A0:Option Addr) (c0:Nat) (l0:List Int) (a1:Int) (r:Bool) (w:World) (vk:Kd.C (Kd.int .i64) w A0 l0.length l0) (hc0:l0.length ≤ c0) (h:Ld.f k l0 a1=some r) :
  Calls Try.prog 83 #[.slice A0 l0.length c0,.int .i64 a1] w fun e w'=>e = .returned (.bool r)∧qc w w':=by
 have Bl:=aa.mk vk;have jE:=aa.mk hc0;clear vk hc0;have H:((Gb.f k l0 a1).bind fun t101=>(some (decide (t101 ≥ 0))))=some r:=h;clear h;replace H:=Option.bind_eq_some_iff.mp H;obtain ⟨t101,Vu,H⟩:=H;replace H:(some (decide (t101 ≥ 0)))=some r:=H;have A3:=aa.mk Vu;clear Vu;obtain rfl:=Option.some.inj H;go_enter Try.func83,Try.ntmps83;go_wp2_with (first|((with_reducible refine Xb (f:=110) rfl ?_);refine je (some 7) rfl rfl Try.func110 (by kernel_rfl) rfl #[.slice A0 l0.length c0,.int .i64 a1] rfl (by (try simp only [List.map_toArray,List.map_cons,List.map_nil]);first|done|rfl|(simp only [List.length_drop,List.length_take];rfl)) ?_;(with_reducible refine (Gb.calls k _ _ l0 a1 t101 _ ?Oc ?Nc A3.out).mono ?_);(case Oc=>repeat (first|exact Bl.out|(with_reducible refine Kd.yc ?_ _)|(with_reducible refine Kd.uc ?_ _)|(with_reducible refine Kd.Uc ?_)));(case Nc=>exact jE.out);rintro e w' ⟨rfl,⟨nd,rfl⟩⟩;refine ⟨_,rfl,?_⟩));go_ret;exact ⟨by first|rfl|(simp;done)|(simp [*];done),by repeat (first|exact qc.refl _|apply qc.step)⟩
def yh.f (Sa:List Int) (Qa:Int) (Ra:Int) (Ca:List (Wc)):Option (List Int × Int × Int × (List (Wc))):=(some (([]:List Int):List Int)).bind fun Tf=>(if Tf.length + Sa.length < 17592186044416 then ((some (([]:List (Wc)):List (Wc))).bind fun Kn=>(if Kn.length + Ca.length < 3518437208883 then (some ((Tf ++ Sa),Qa,Ra,(Kn ++ Ca))) else (none))) else (none))
theorem yh.calls (zb:Option Addr) (yb:Nat) (Sa:List Int) (Qa:Int) (Ra:Int) (Kb:Option Addr) (Ab:Nat) (Ca:List (Wc)) (r1:List Int) (r2:Int) (r3:Int) (r4:List (Wc)) (w:World) (Ef:Kd.C (Kd.int .i64) w zb Sa.length Sa) (uf:Sa.length ≤ yb) (Df:Kd.C bg w Kb Ca.length Ca) (tf:Ca.length ≤ Ab) (h:yh.f Sa Qa Ra Ca=some (r1,r2,r3,r4)) :
  Calls Try.prog 99 #[.agg #[.slice zb Sa.length yb,.int .i64 Qa,.int .i64 Ra,.slice Kb Ca.length Ab]] w fun e w'=>∃ qp yy:Value,e = .returned (.agg #[qp,.int .i64 r2,.int .i64 r3,yy])∧Kd.R (Kd.int .i64) 3 w' w.heap.size (fun _=>True) qp r1∧Kd.R bg 67 w' w.heap.size (fun _=>True) yy r4∧Below w.heap.size w w':=by
 have su:=Try.underlying30;have Ff:=aa.mk Ef;have Xf:=aa.mk uf;clear Ef uf;have Je:=aa.mk Df;have Pg:=aa.mk tf;clear Df tf;have HB:=aa.mk (Below.refl w.heap.size w);have H:((some (([]:List Int):List Int)).bind fun Tf=>(if Tf.length + Sa.length < 17592186044416 then ((some (([]:List (Wc)):List (Wc))).bind fun Kn=>(if Kn.length + Ca.length < 3518437208883 then (some ((Tf ++ Sa),Qa,Ra,(Kn ++ Ca))) else (none))) else (none)))=some (r1,r2,r3,r4):=h;clear h;obtain ⟨Tf,Sn⟩:∃ y_:List Int,y_=(([]:List Int)):=⟨_,rfl⟩;replace H:(if Tf.length + Sa.length < 17592186044416 then ((some (([]:List (Wc)):List (Wc))).bind fun Kn=>(if Kn.length + Ca.length < 3518437208883 then (some ((Tf ++ Sa),Qa,Ra,(Kn ++ Ca))) else (none))) else (none))=some (r1,r2,r3,r4):=by first|(rw [Sn];with_reducible exact H)|(have Cf:=(Option.bind_some _ _).symm.trans H;rw [Sn];with_reducible exact Cf)|(have Cf:=(Option.bind_some _ _).symm.trans H;with_reducible exact Cf)|with_reducible exact H|(rw [Sn];exact H)|exact H
 have RC:=aa.mk Sn;clear Sn
 by_cases c2:Tf.length + Sa.length < 17592186044416
 ·rw [if_pos c2] at H;have kP:=aa.mk c2;clear c2;obtain ⟨Lp,bz⟩:∃ y_:List Int,y_=(Tf ++ Sa):=⟨_,rfl⟩;replace H:((some (([]:List (Wc)):List (Wc))).bind fun Kn=>(if Kn.length + Ca.length < 3518437208883 then (some (Lp,Qa,Ra,(Kn ++ Ca))) else (none)))=some (r1,r2,r3,r4):=by first|(rw [bz];with_reducible exact H)|(have Cf:=(Option.bind_some _ _).symm.trans H;rw [bz];with_reducible exact Cf)|(have Cf:=(Option.bind_some _ _).symm.trans H;with_reducible exact Cf)|with_reducible exact H|(rw [bz];exact H)|exact H
  have tU:=aa.mk bz;clear bz;obtain ⟨Kn,az⟩:∃ y_:List (Wc),y_=(([]:List (Wc))):=⟨_,rfl⟩;replace H:(if Kn.length + Ca.length < 3518437208883 then (some (Lp,Qa,Ra,(Kn ++ Ca))) else (none))=some (r1,r2,r3,r4):=by first|(rw [az];with_reducible exact H)|(have Cf:=(Option.bind_some _ _).symm.trans H;rw [az];with_reducible exact Cf)|(have Cf:=(Option.bind_some _ _).symm.trans H;with_reducible exact Cf)|with_reducible exact H|(rw [az];exact H)|exact H
  have cN:=aa.mk az;clear az
  by_cases c3:Kn.length + Ca.length < 3518437208883
  ·rw [if_pos c3] at H;have jP:=aa.mk c3;clear c3;obtain ⟨WC,Zy⟩:∃ y_:List (Wc),y_=(Kn ++ Ca):=⟨_,rfl⟩;replace H:(some (Lp,Qa,Ra,WC))=some (r1,r2,r3,r4):=by first|(rw [Zy];with_reducible exact H)|(have Cf:=(Option.bind_some _ _).symm.trans H;rw [Zy];with_reducible exact Cf)|(have Cf:=(Option.bind_some _ _).symm.trans H;with_reducible exact Cf)|with_reducible exact H|(rw [Zy];exact H)|exact H
   have sU:=aa.mk Zy;clear Zy;simp only [Option.some.injEq,Prod.mk.injEq] at H;obtain ⟨rfl,rfl,rfl,rfl⟩:=H;go_enter Try.func99,Try.ntmps99;go_wp2_with (first|((with_reducible refine Rb (N:=1) rfl ?_);refine Pb ?hg (N:=1) ?hd (cs:=#[.slice zb Sa.length yb,.int .i64 Qa,.int .i64 Ra,.slice Kb Ca.length Ab]) (t:=30) ?hr ?_;(case hd=>rfl);(case hg=>rfl);(case hr=>first|(go_simp;done)|(go_simp;rfl));intro Fa hg w4 ec hb;have Ub:=aa.mk (Va (by repeat (first|(with_reducible first|exact HB.out|apply ua|apply ga|apply Aa)|exact HB.out)) hb);have Wb:=aa.mk (ec);have ic:=aa.mk ((by rw [hg];exact (Ka (by repeat (first|(with_reducible first|exact HB.out|apply ua|apply ga|apply Aa)|exact HB.out))):w.heap.size ≤ Fa));have mc:=aa.mk ((by rw [hg];exact (Ka (by repeat (first|(with_reducible first|exact HB.out|apply ua|apply ga|apply Aa)|exact HB.out))):w.heap.size ≤ Fa));clear HB;have HB:=Ub;have Ba:=Wb;have qg:=ic;have Ua:=mc;clear Ub Wb ic mc hb ec hg)|((with_reducible refine Rb (N:=2) rfl ?_);refine Pb ?hg (N:=2) ?hd (cs:=#[.slice none 0 0,.int .i64 0,.int .i64 0,.slice none 0 0]) (t:=30) ?hr ?_;(case hd=>rfl);(case hg=>rfl);(case hr=>first|(go_simp;done)|(go_simp;rfl));intro Ma hg w5 ec hb;have Ub:=aa.mk (Oa (g:=Fa) (o:=.cells #[.slice zb Sa.length yb,.int .i64 Qa,.int .i64 Ra,.slice Kb Ca.length Ab] 30 (0,0)) (by (with_reducible repeat (first|refine oa ?_ _|refine za ?_|refine qa ?_ _));exact Ba.out) hb);have Wb:=aa.mk (Va (by repeat (first|(with_reducible first|exact HB.out|apply ua|apply ga|apply Aa|refine ja ?_ Ua.out)|exact HB.out)) hb);have ic:=aa.mk (ec);have mc:=aa.mk ((by rw [hg];exact (Ka (by repeat (first|(with_reducible first|exact HB.out|apply ua|apply ga|apply Aa|refine ja ?_ Ua.out)|exact HB.out))):w.heap.size ≤ Ma));have Xc:=aa.mk ((by rw [hg];exact (Ka (by repeat (first|(with_reducible first|exact HB.out|apply ua|apply ga|apply Aa|refine ja ?_ Ua.out)|exact HB.out))):w.heap.size ≤ Ma));have yd:=aa.mk ((by rw [hg];exact Nat.ne_of_lt (Nb (g:=Fa) (o:=.cells #[.slice zb Sa.length yb,.int .i64 Qa,.int .i64 Ra,.slice Kb Ca.length Ab] 30 (0,0)) (by (with_reducible repeat (first|refine oa ?_ _|refine za ?_|refine qa ?_ _));exact Ba.out)):Fa ≠ Ma));have Gd:=aa.mk ((by rw [hg];exact Nat.ne_of_gt (Nb (g:=Fa) (o:=.cells #[.slice zb Sa.length yb,.int .i64 Qa,.int .i64 Ra,.slice Kb Ca.length Ab] 30 (0,0)) (by (with_reducible repeat (first|refine oa ?_ _|refine za ?_|refine qa ?_ _));exact Ba.out)):Ma ≠ Fa));clear Ba HB;have Ba:=Ub;have HB:=Wb;have Ia:=ic;have Yj:=mc;have Ib:=Xc;have Tb:=yd;have Sb:=Gd;clear Ub Wb ic mc Xc yd Gd hb ec hg)|((with_reducible refine Rb (N:=3) rfl ?_);refine Kd.js (Kd.int .i64) _ 3 ?hg (N:=3) ?hd (xs:=([]:List Int)) (inner:=[]) (ok:=fun _=>True) (tn:=fun _=>True) ?hr ?hp (fun _ hk=>hk) trivial (Below.refl _ _) (Nat.le_refl _) (by simp) ?_;(case hd=>rfl);(case hg=>rfl);(case hr=>first|(go_simp;done)|(go_simp;rfl));(case hp=>exact (Ue.none _ _));intro rE w6 LQ hb uw Mj;clear uw Mj;(first|rw [← RC.out] at LQ|(simp only [Int.reduceToNat] at LQ;rw [← RC.out] at LQ));have Ub:=aa.mk (Kd.ke LQ (Ka (by repeat (first|(with_reducible first|exact HB.out|apply ua|apply ga|apply Aa|refine ja ?_ Ua.out|refine ja ?_ Ib.out)|exact HB.out))));have Wb:=aa.mk (Oa (g:=Fa) (o:=.cells #[.slice zb Sa.length yb,.int .i64 Qa,.int .i64 Ra,.slice Kb Ca.length Ab] 30 (0,0)) (by (with_reducible repeat (first|refine oa ?_ _|refine za ?_|refine qa ?_ _));exact Ba.out) hb);have ic:=aa.mk (Oa (g:=Ma) (o:=.cells #[.slice none 0 0,.int .i64 0,.int .i64 0,.slice none 0 0] 30 (0,0)) (by (with_reducible repeat (first|refine oa ?_ _|refine za ?_|refine qa ?_ _));exact Ia.out) hb);have mc:=aa.mk (Va (by repeat (first|(with_reducible first|exact HB.out|apply ua|apply ga|apply Aa|refine ja ?_ Ua.out|refine ja ?_ Ib.out)|exact HB.out)) hb);clear Ba Ia HB;have Fc:=Ub;have Ba:=Wb;have Ia:=ic;have HB:=mc;clear Ub Wb ic mc hb LQ;have eO:=Tb.out;have dO:=Sb.out;have fo:w6.cell? ⟨Fa,0,none⟩=some (.slice zb Sa.length yb):=(ya Ba.out 0).trans rfl;have eo:w6.cell? ⟨Fa,1,none⟩=some (.int .i64 Qa):=(ya Ba.out 1).trans rfl;have Zn:w6.cell? ⟨Fa,2,none⟩=some (.int .i64 Ra):=(ya Ba.out 2).trans rfl;have Yn:w6.cell? ⟨Fa,3,none⟩=some (.slice Kb Ca.length Ab):=(ya Ba.out 3).trans rfl;have Xn:=ia Ba.out 0;have Wn:=ia Ba.out 1;have Vn:=ia Ba.out 2;have Un:=ia Ba.out 3)|((with_reducible refine Ge (b:=.append) (xs:=#[.tmp 3,.tmp 5]) rfl ?_);at_builtin;refine Kd.Gk (Kd.int .i64) (w0:=w) w.heap.size rfl (.tmp 3) (.tmp 5) 22 3 (.int .i64 0) 8 rfl Try.underlying22 info3 rfl (by decide) (by omega) rE Tf Sa _ _ _ (fun _=>True) (fun _=>False) rfl rfl ?aO ?aR (fun _ _ h=>h) (fun _ h=>h.elim) ?aF ?aB ?aS ?aL ?_;(case aR=>repeat (first|exact (Kd.jc Ff.out HB.out)|(with_reducible refine Kd.yc ?_ _)|(with_reducible refine Kd.uc ?_ _)|(with_reducible refine Kd.Uc ?_)));(case aB=>exact (by repeat (first|(with_reducible first|exact HB.out|apply ua|apply ga|apply Aa|refine ja ?_ Ua.out|refine ja ?_ Ib.out)|exact HB.out)));(case aF=>exact (fun _ _=>trivial));(case aO=>exact (by (with_reducible repeat (first|apply Kd.Ea|apply Kd.Da|apply Kd.Ga));exact Fc.out));(case aS=>exact (Ka (by repeat (first|(with_reducible first|exact HB.out|apply ua|apply ga|apply Aa|refine ja ?_ Ua.out|refine ja ?_ Ib.out)|exact HB.out))));(case aL=>have:=kP.out;omega);intro v107 Zt ho hb hg hat;rw [← tU.out] at ho;have Ub:=aa.mk (fc (g:=Fa) (o:=.cells #[.slice zb Sa.length yb,.int .i64 Qa,.int .i64 Ra,.slice Kb Ca.length Ab] 30 (0,0)) (by (with_reducible repeat (first|refine oa ?_ _|refine za ?_|refine qa ?_ _));exact Ba.out) hg (Kd.Ve Fc.out Ba.out (by decide)));have Wb:=aa.mk (fc (g:=Ma) (o:=.cells #[.slice none 0 0,.int .i64 0,.int .i64 0,.slice none 0 0] 30 (0,0)) (by (with_reducible repeat (first|refine oa ?_ _|refine za ?_|refine qa ?_ _));exact Ia.out) hg (Kd.Ve Fc.out Ia.out (by decide)));have ic:=aa.mk (hb);have mc:=aa.mk (ho);clear Ba Ia HB Fc;have Ba:=Ub;have Ia:=Wb;have HB:=ic;have Cs:=mc;clear Ub Wb ic mc ho hb hg hat;obtain ⟨Ql,Il,BO⟩:=Kd.Ic Cs.out;subst BO;have zl:Zt.cell? ⟨Fa,0,none⟩=some (.slice zb Sa.length yb):=(ya Ba.out 0).trans rfl;have yl:Zt.cell? ⟨Fa,1,none⟩=some (.int .i64 Qa):=(ya Ba.out 1).trans rfl;have xl:Zt.cell? ⟨Fa,2,none⟩=some (.int .i64 Ra):=(ya Ba.out 2).trans rfl;have vl:Zt.cell? ⟨Fa,3,none⟩=some (.slice Kb Ca.length Ab):=(ya Ba.out 3).trans rfl;have ql:=ia Ba.out 0;have jl:=ia Ba.out 1;have gl:=ia Ba.out 2;have fl:=ia Ba.out 3)|((with_reducible refine Rb (N:=8) rfl ?_);refine Kd.js bg _ 67 ?hg (N:=8) ?hd (xs:=([]:List (Wc))) (inner:=[]) (ok:=fun _=>True) (tn:=fun _=>True) ?hr ?hp (fun _ hk=>hk) trivial (Below.refl _ _) (Nat.le_refl _) (by simp) ?_;(case hd=>rfl);(case hg=>rfl);(case hr=>first|(go_simp;done)|(go_simp;rfl));(case hp=>exact (Ue.none _ _));intro F0 xy RE hb uw Mj;clear uw Mj;(first|rw [← cN.out] at RE|(simp only [Int.reduceToNat] at RE;rw [← cN.out] at RE));have Ub:=aa.mk (Kd.gb (by (with_reducible repeat (first|apply Kd.Ea|apply Kd.Da|apply Kd.Ga));exact (Kd.jb (Kd.Ja (p:=⟨Fa,0,none⟩) (Kd.Cb Cs.out Ba.out (by decide)) (fun _ hk=>hk.2) (.slice Ql Lp.length Il)) (fun _ h_=>h_.1))) hb);have Wb:=aa.mk (Kd.ke RE (Ka (by repeat (first|(with_reducible first|exact HB.out|apply ua|apply ga|apply Aa|refine ja ?_ Ua.out|refine ja ?_ Ib.out)|exact HB.out))));have ic:=aa.mk (Oa (g:=Fa) (o:=.cells #[.slice Ql Lp.length Il,.int .i64 Qa,.int .i64 Ra,.slice Kb Ca.length Ab] 30 (0,0)) (by (with_reducible repeat (first|refine oa ?_ _|refine za ?_|refine qa ?_ _));refine Ob (cs:=#[.slice zb Sa.length yb,.int .i64 Qa,.int .i64 Ra,.slice Kb Ca.length Ab]) ?_ 0 _ rfl;(with_reducible repeat (first|refine oa ?_ _|refine za ?_|refine qa ?_ _));exact Ba.out) hb);have mc:=aa.mk (Oa (g:=Ma) (o:=.cells #[.slice none 0 0,.int .i64 0,.int .i64 0,.slice none 0 0] 30 (0,0)) (by (with_reducible repeat (first|refine oa ?_ _|refine za ?_|refine qa ?_ _));refine Za ?_ Sb.out _;(with_reducible repeat (first|refine oa ?_ _|refine za ?_|refine qa ?_ _));exact Ia.out) hb);have Xc:=aa.mk (Va (by repeat (first|(with_reducible first|exact HB.out|apply ua|apply ga|apply Aa|refine ja ?_ Ua.out|refine ja ?_ Ib.out)|exact HB.out)) hb);clear Cs Ba Ia HB;have Cs:=Ub;have Hz:=Wb;have Ba:=ic;have Ia:=mc;have HB:=Xc;clear Ub Wb ic mc Xc hb RE;have wZ:xy.cell? ⟨Fa,0,none⟩=some (.slice Ql Lp.length Il):=(ya Ba.out 0).trans rfl;have vZ:xy.cell? ⟨Fa,1,none⟩=some (.int .i64 Qa):=(ya Ba.out 1).trans rfl;have uZ:xy.cell? ⟨Fa,2,none⟩=some (.int .i64 Ra):=(ya Ba.out 2).trans rfl;have tZ:xy.cell? ⟨Fa,3,none⟩=some (.slice Kb Ca.length Ab):=(ya Ba.out 3).trans rfl;have xX:=ia Ba.out 0;have wX:=ia Ba.out 1;have vX:=ia Ba.out 2;have uX:=ia Ba.out 3)|((with_reducible refine Ge (b:=.append) (xs:=#[.tmp 8,.tmp 10]) rfl ?_);at_builtin;refine Kd.Gk bg (w0:=w) w.heap.size rfl (.tmp 8) (.tmp 10) 28 67 (.agg #[(.int .i64 0),(.int .i64 0),(.int .i64 0),(.int .i64 0),(.int .i64 0)]) 40 rfl Try.underlying28 Gl rfl (by decide) (by omega) F0 Kn Ca _ _ _ (fun _=>True) (fun _=>False) rfl rfl ?aO ?aR (fun _ _ h=>h) (fun _ h=>h.elim) ?aF ?aB ?aS ?aL ?_;(case aR=>repeat (first|exact (Kd.jc Je.out HB.out)|(with_reducible refine Kd.yc ?_ _)|(with_reducible refine Kd.uc ?_ _)|(with_reducible refine Kd.Uc ?_)));(case aB=>exact (by repeat (first|(with_reducible first|exact HB.out|apply ua|apply ga|apply Aa|refine ja ?_ Ua.out|refine ja ?_ Ib.out)|exact HB.out)));(case aF=>exact (fun _ _=>trivial));(case aO=>exact (by (with_reducible repeat (first|apply Kd.Ea|apply Kd.Da|apply Kd.Ga));exact Hz.out));(case aS=>exact (Ka (by repeat (first|(with_reducible first|exact HB.out|apply ua|apply ga|apply Aa|refine ja ?_ Ua.out|refine ja ?_ Ib.out)|exact HB.out))));(case aL=>have:=jP.out;omega);intro Dab qo ho hb hg hat;rw [← sU.out] at ho;have Ub:=aa.mk (fc (g:=Fa) (o:=.cells #[.slice Ql Lp.length Il,.int .i64 Qa,.int .i64 Ra,.slice Kb Ca.length Ab] 30 (0,0)) (by (with_reducible repeat (first|refine oa ?_ _|refine za ?_|refine qa ?_ _));exact Ba.out) hg (Kd.Ve Hz.out Ba.out (by decide)));have Wb:=aa.mk (fc (g:=Ma) (o:=.cells #[.slice none 0 0,.int .i64 0,.int .i64 0,.slice none 0 0] 30 (0,0)) (by (with_reducible repeat (first|refine oa ?_ _|refine za ?_|refine qa ?_ _));exact Ia.out) hg (Kd.Ve Hz.out Ia.out (by decide)));have ic:=aa.mk (Kd.Qd (by (with_reducible repeat (first|apply Kd.Ea|apply Kd.Da|apply Kd.Ga));exact Cs.out) (Kd.Dc (by (with_reducible repeat (first|apply Kd.Ea|apply Kd.Da|apply Kd.Ga));exact Hz.out)) (by decide) hg);have mc:=aa.mk (hb);have Xc:=aa.mk (ho);clear Ba Ia Cs HB Hz;have Ba:=Ub;have Ia:=Wb;have Cs:=ic;have HB:=mc;have gN:=Xc;clear Ub Wb ic mc Xc ho hb hg hat;obtain ⟨Nf,Mf,zO⟩:=Kd.Ic gN.out;subst zO;have Vi:qo.cell? ⟨Fa,0,none⟩=some (.slice Ql Lp.length Il):=(ya Ba.out 0).trans rfl;have Ui:qo.cell? ⟨Fa,1,none⟩=some (.int .i64 Qa):=(ya Ba.out 1).trans rfl;have Ti:qo.cell? ⟨Fa,2,none⟩=some (.int .i64 Ra):=(ya Ba.out 2).trans rfl;have Si:qo.cell? ⟨Fa,3,none⟩=some (.slice Kb Ca.length Ab):=(ya Ba.out 3).trans rfl;have Ri:=ia Ba.out 0;have Qi:=ia Ba.out 1;have Oi:=ia Ba.out 2;have Ni:=ia Ba.out 3;have cr:qo.cell? ⟨Ma,0,none⟩=some (.slice none 0 0):=(ya Ia.out 0).trans rfl;have br:qo.cell? ⟨Ma,1,none⟩=some (.int .i64 0):=(ya Ia.out 1).trans rfl;have Zq:qo.cell? ⟨Ma,2,none⟩=some (.int .i64 0):=(ya Ia.out 2).trans rfl;have Yq:qo.cell? ⟨Ma,3,none⟩=some (.slice none 0 0):=(ya Ia.out 3).trans rfl;have Oq:=ia Ia.out 0;have Nq:=ia Ia.out 1;have Mq:=ia Ia.out 2;have Kq:=ia Ia.out 3));refine bodyPost_ret (results_cell_row rfl _ _ Ma 30 #[.slice Ql Lp.length Il,.int .i64 Qa,.int .i64 Ra,.slice Nf WC.length Mf] (0,0) _ rfl (by (with_reducible repeat (first|refine oa ?_ _|refine za ?_|refine qa ?_ _));refine Ob (cs:=#[.slice Ql Lp.length Il,.int .i64 Qa,.int .i64 Ra,.slice none 0 0]) ?_ 3 _ rfl;(with_reducible repeat (first|refine oa ?_ _|refine za ?_|refine qa ?_ _));refine Ob (cs:=#[.slice Ql Lp.length Il,.int .i64 Qa,.int .i64 0,.slice none 0 0]) ?_ 2 _ rfl;(with_reducible repeat (first|refine oa ?_ _|refine za ?_|refine qa ?_ _));refine Ob (cs:=#[.slice Ql Lp.length Il,.int .i64 0,.int .i64 0,.slice none 0 0]) ?_ 1 _ rfl;(with_reducible repeat (first|refine oa ?_ _|refine za ?_|refine qa ?_ _));refine Ob (cs:=#[.slice none 0 0,.int .i64 0,.int .i64 0,.slice none 0 0]) ?_ 0 _ rfl;(with_reducible repeat (first|refine oa ?_ _|refine za ?_|refine qa ?_ _));refine Za ?_ Sb.out _;(with_reducible repeat (first|refine oa ?_ _|refine za ?_|refine qa ?_ _));exact Ia.out) Try.underlying30 rfl (by kernel_rfl)) rfl ?_;exact ⟨_,_,by first|rfl|(simp [Xa,Wa] <;> rfl)|(simp [*,Xa,Wa] <;> rfl),by (with_reducible repeat (first|apply Kd.Ea|apply Kd.Da|apply Kd.Ga));exact Kd.jb (Kd.Ja (p:=⟨Ma,3,none⟩) (Kd.Ja (p:=⟨Ma,2,none⟩) (Kd.Ja (p:=⟨Ma,1,none⟩) (Kd.Ja (p:=⟨Ma,0,none⟩) (Kd.Ja (p:=⟨Fa,3,none⟩) (Kd.Cb (Kd.Cb Cs.out Ba.out (by decide)) Ia.out (by decide)) (fun _ hk=>hk.1.2) (.slice Nf WC.length Mf)) (fun _ hk=>hk.2) (.slice Ql Lp.length Il)) (fun _ hk=>hk.2) (.int .i64 Qa)) (fun _ hk=>hk.2) (.int .i64 Ra)) (fun _ hk=>hk.2) (.slice Nf WC.length Mf)) (fun _ hk=>trivial),by (with_reducible repeat (first|apply Kd.Ea|apply Kd.Da|apply Kd.Ga));exact Kd.jb (Kd.Ja (p:=⟨Ma,3,none⟩) (Kd.Ja (p:=⟨Ma,2,none⟩) (Kd.Ja (p:=⟨Ma,1,none⟩) (Kd.Ja (p:=⟨Ma,0,none⟩) (Kd.Ja (p:=⟨Fa,3,none⟩) (Kd.Cb (Kd.Cb gN.out Ba.out (by decide)) Ia.out (by decide)) (fun _ hk=>hk.1.2) (.slice Nf WC.length Mf)) (fun _ hk=>hk.2) (.slice Ql Lp.length Il)) (fun _ hk=>hk.2) (.int .i64 Qa)) (fun _ hk=>hk.2) (.int .i64 Ra)) (fun _ hk=>hk.2) (.slice Nf WC.length Mf)) (fun _ hk=>trivial),by repeat (first|(with_reducible first|exact HB.out|apply ua|apply ga|apply Aa|refine ja ?_ Ua.out|refine ja ?_ Ib.out)|exact HB.out)⟩
  ·rw [if_neg c3] at H;exact absurd H (by simp)
 ·rw [if_neg c2] at H;exact absurd H (by simp)
theorem vH {W w1:World} (hb:Below W.heap.size W w1):(∀ b o,b < W.heap.size→w1.cell? ⟨b,o,none⟩=W.cell? ⟨b,o,none⟩)∧(∀ b o,b < W.heap.size→w1.frozen? ⟨b,o,none⟩=W.frozen? ⟨b,o,none⟩) :=
 ⟨fun b o h=>hb.cell (p:=⟨b,o,none⟩) h,fun b o h=>hb.frozen (p:=⟨b,o,none⟩) h⟩
theorem Cp {α:Type} {l:List α} {p:α→Bool} {k:Nat} {d:α} (hk:k < l.length) (h:(l.take k).any p=false) (hx:p (l.getD k d)=false):(l.take (k + 1)).any p=false:=by
 rw [List.take_succ_eq_append_getElem hk,List.any_append,h]
 simpa [List.getD_eq_getElem?_getD,List.getElem?_eq_getElem hk] using hx
theorem NC {α:Type} {l:List α} {p:α→Bool} {k:Nat} {d:α} (hk:k < l.length) (hx:p (l.getD k d)=true):l.any p=true:=by
 rw [List.any_eq_true];exact ⟨l[k],List.getElem_mem hk,by simpa [List.getD_eq_getElem?_getD,List.getElem?_eq_getElem hk] using hx⟩
theorem iw (g:Nat) (lb:Array Value) (p:Wc→Bool) (eg:∀ args w,(callFunc g args).run Try.prog w = .ok (.enter g args) w) (A0:Option Addr) (c0:Nat) (l0:List Wc) (w:World) (vk:Kd.C bg w A0 l0.length l0) (hc0:l0.length ≤ c0)
  (hp:∀ (W:World) (x:Wc),Below w.heap.size w W→Calls Try.prog g (#[(.agg #[.int .i64 x.f0,.int .i64 x.f1,.int .i64 x.f2,.int .i64 x.f3,.int .i64 x.f4])] ++ lb) W fun e w'=>e = .returned (.bool (p x))∧Below W.heap.size W w') :
  Calls Try.prog 118 #[.slice A0 l0.length c0,.func (.func g) #[] lb] w fun e w'=>(∃ i:Int,e = .returned (.int .i64 i)∧decide (0 ≤ i)=l0.any p)∧Below w.heap.size w w':=by
 have V3:=vk.2.1;have Bl:=aa.mk vk;have jE:=aa.mk hc0;have HP:=aa.mk hp;clear vk hc0 hp;go_enter Try.func118,Try.ntmps118;go_wp2
 go_loopg [5,8] l0.length (fun gg _ s8 wr=>∃ kk:Nat,kk ≤ l0.length∧l0.length - kk ≤ gg∧s8 = .int .i64 kk∧aa (Below w.heap.size w wr)∧aa ((l0.take kk).any p=false))
 case atStart=>exact ⟨0,Nat.zero_le _,by omega,rfl,⟨Below.refl _ w⟩,⟨by simp⟩⟩
 case round =>
  (try clear BW);(try clear HA);obtain ⟨kk,hkk,hg,rfl,BW,HA⟩:=hrel
  by_cases hlt:kk < l0.length
  ·have p1:0 ≤ (kk:Int):=by omega
   have q1:(kk:Int) < (l0.length:Int):=by omega
   obtain ⟨ad,e1,hx0,hx1,hx2,cz,Lz⟩:=Yd Bl.out (kk:Int) p1 q1;cases e1;simp only [Int.toNat_natCast] at hx0 hx1 hx2 cz Lz;replace hx0:=(BW.out.cell (World.block_lt_of_cell? w _ hx0)).trans hx0;replace hx1:=(BW.out.cell (World.block_lt_of_cell? w _ hx1)).trans hx1;replace hx2:=(BW.out.cell (World.block_lt_of_cell? w _ hx2)).trans hx2;replace cz:=(BW.out.cell (World.block_lt_of_cell? w _ cz)).trans cz;replace Lz:=(BW.out.cell (World.block_lt_of_cell? w _ Lz)).trans Lz;have hcall:=HP.out wr (ta l0 (kk:Int)) BW.out;cases hq:p (ta l0 (kk:Int)) with
   | true =>
    rw [hq] at hcall;go_wp2_with (go_at_fn g;refine hcall.mono ?_;rintro e w1 ⟨rfl,vn⟩);go_ret;exact ⟨⟨_,rfl,by rw [NC (d:=Sm) hlt hq];simp⟩,BW.out.trans (vn.mono BW.out.size)⟩
   | false =>
    rw [hq] at hcall;go_wp2_with (go_at_fn g;refine hcall.mono ?_;rintro e w1 ⟨rfl,vn⟩)
    go_roundg (l0.length - (kk + 1))
    case measure=>omega
    case rel=>exact ⟨kk + 1,by omega,by omega,by go_num,⟨BW.out.trans (vn.mono BW.out.size)⟩,⟨Cp (d:=Sm) hlt HA.out hq⟩⟩
  ·have X3:¬ (kk:Int) < (l0.length:Int):=by omega
   have he:kk=l0.length:=by omega
   subst he;go_wp2;go_ret;exact ⟨⟨_,rfl,by have h_:=HA.out;rw [List.take_length] at h_;rw [h_];simp⟩,BW.out⟩
theorem jr (g:Nat) (lb:Array Value) (p:Wc→Bool) (eg:∀ args w,(callFunc g args).run Try.prog w = .ok (.enter g args) w) (A0:Option Addr) (c0:Nat) (l0:List Wc) (w:World) (vk:Kd.C bg w A0 l0.length l0) (hc0:l0.length ≤ c0)
  (hp:∀ (W:World) (x:Wc),Below w.heap.size w W→Calls Try.prog g (#[(.agg #[.int .i64 x.f0,.int .i64 x.f1,.int .i64 x.f2,.int .i64 x.f3,.int .i64 x.f4])] ++ lb) W fun e w'=>e = .returned (.bool (p x))∧Below W.heap.size W w') :
  Calls Try.prog 95 #[.slice A0 l0.length c0,.func (.func g) #[] lb] w fun e w'=>e = .returned (.bool (l0.any p))∧Below w.heap.size w w':=by
 have HI:=aa.mk (iw g lb p eg A0 c0 l0 w vk hc0 hp);clear vk hc0 hp;go_enter Try.func95,Try.ntmps95;go_wp2_with (go_at_call 118;refine HI.out.mono ?_;rintro e w1 ⟨⟨i,rfl,hi⟩,vn⟩;have HD:=aa.mk hi;clear hi);go_ret;exact ⟨by rw [← HD.out];first|rfl|simp,vn⟩
def Ss.f (a0:Int) (a1:Int) (a2:Int):Option (Bool):=if a0 ≥ a1 then (some (decide (a0 ≤ a2))) else (some false)
theorem Ss.calls (a0:Int) (a1:Int) (a2:Int) (r:Bool) (w:World) (h:Ss.f a0 a1 a2=some r) :
  Calls Try.prog 94 #[.int .i64 a0,.int .i64 a1,.int .i64 a2] w fun e w'=>e = .returned (.bool r)∧qc w w':=by
 have H:(if a0 ≥ a1 then (some (decide (a0 ≤ a2))) else (some false))=some r:=h;clear h
 by_cases c4:a0 ≥ a1
 ·rw [if_pos c4] at H;have qm:decide (a1 ≤ a0)=true:=decide_eq_true c4;clear c4;obtain rfl:=Option.some.inj H;go_enter Try.func94,Try.ntmps94;go_wp2;go_ret;exact ⟨by first|rfl|(simp;done)|(simp [*];done),by repeat (first|exact qc.refl _|apply qc.step)⟩
 ·rw [if_neg c4] at H;have qm:decide (a1 ≤ a0)=false:=decide_eq_false c4;clear c4;obtain rfl:=Option.some.inj H;go_enter Try.func94,Try.ntmps94;go_wp2;go_ret;exact ⟨by first|rfl|(simp;done)|(simp [*];done),by repeat (first|exact qc.refl _|apply qc.step)⟩
theorem Py (g:Nat) (lb:Array Value) (p:Int→Bool) (eg:∀ args w,(callFunc g args).run Try.prog w = .ok (.enter g args) w) (A0:Option Addr) (c0:Nat) (l0:List Int) (w:World) (vk:Kd.C (Kd.int .i64) w A0 l0.length l0) (hc0:l0.length ≤ c0)
  (hp:∀ (W:World) (x:Int),Below w.heap.size w W→Calls Try.prog g (#[(.int .i64 x)] ++ lb) W fun e w'=>e = .returned (.bool (p x))∧Below W.heap.size W w') :
  Calls Try.prog 105 #[.slice A0 l0.length c0,.func (.func g) #[] lb] w fun e w'=>(∃ i:Int,e = .returned (.int .i64 i)∧decide (0 ≤ i)=l0.any p)∧Below w.heap.size w w':=by
 have V3:=vk.2.1;have Bl:=aa.mk vk;have jE:=aa.mk hc0;have HP:=aa.mk hp;clear vk hc0 hp;go_enter Try.func105,Try.ntmps105;go_wp2
 go_loopg [5,8] l0.length (fun gg _ s8 wr=>∃ kk:Nat,kk ≤ l0.length∧l0.length - kk ≤ gg∧s8 = .int .i64 kk∧aa (Below w.heap.size w wr)∧aa ((l0.take kk).any p=false))
 case atStart=>exact ⟨0,Nat.zero_le _,by omega,rfl,⟨Below.refl _ w⟩,⟨by simp⟩⟩
 case round =>
  (try clear BW);(try clear HA);obtain ⟨kk,hkk,hg,rfl,BW,HA⟩:=hrel
  by_cases hlt:kk < l0.length
  ·have p1:0 ≤ (kk:Int):=by omega
   have q1:(kk:Int) < (l0.length:Int):=by omega
   obtain ⟨ad,e1,hx0⟩:=Kd.Wj Bl.out (kk:Int) p1 q1;cases e1;simp only [Int.toNat_natCast] at hx0;replace hx0:=(BW.out.cell (World.block_lt_of_cell? w _ hx0)).trans hx0;have hcall:=HP.out wr (rd l0 (kk:Int)) BW.out;cases hq:p (rd l0 (kk:Int)) with
   | true =>
    rw [hq] at hcall;go_wp2_with (go_at_fn g;refine hcall.mono ?_;rintro e w1 ⟨rfl,vn⟩);go_ret;exact ⟨⟨_,rfl,by rw [NC (d:=0) hlt hq];simp⟩,BW.out.trans (vn.mono BW.out.size)⟩
   | false =>
    rw [hq] at hcall;go_wp2_with (go_at_fn g;refine hcall.mono ?_;rintro e w1 ⟨rfl,vn⟩)
    go_roundg (l0.length - (kk + 1))
    case measure=>omega
    case rel=>exact ⟨kk + 1,by omega,by omega,by go_num,⟨BW.out.trans (vn.mono BW.out.size)⟩,⟨Cp (d:=0) hlt HA.out hq⟩⟩
  ·have X3:¬ (kk:Int) < (l0.length:Int):=by omega
   have he:kk=l0.length:=by omega
   subst he;go_wp2;go_ret;exact ⟨⟨_,rfl,by have h_:=HA.out;rw [List.take_length] at h_;rw [h_];simp⟩,BW.out⟩
theorem Lr (g:Nat) (lb:Array Value) (p:Int→Bool) (eg:∀ args w,(callFunc g args).run Try.prog w = .ok (.enter g args) w) (A0:Option Addr) (c0:Nat) (l0:List Int) (w:World) (vk:Kd.C (Kd.int .i64) w A0 l0.length l0) (hc0:l0.length ≤ c0)
  (hp:∀ (W:World) (x:Int),Below w.heap.size w W→Calls Try.prog g (#[(.int .i64 x)] ++ lb) W fun e w'=>e = .returned (.bool (p x))∧Below W.heap.size W w') :
  Calls Try.prog 115 #[.slice A0 l0.length c0,.func (.func g) #[] lb] w fun e w'=>e = .returned (.bool (l0.any p))∧Below w.heap.size w w':=by
 have HI:=aa.mk (Py g lb p eg A0 c0 l0 w vk hc0 hp);clear vk hc0 hp;go_enter Try.func115,Try.ntmps115;go_wp2_with (go_at_call 105;refine HI.out.mono ?_;rintro e w1 ⟨⟨i,rfl,hi⟩,vn⟩;have HD:=aa.mk hi;clear hi);go_ret;exact ⟨by rw [← HD.out];first|rfl|simp,vn⟩
def cj (a b c:Int):Bool:=decide (b ≤ a) && decide (a ≤ c)
theorem Xg (a b c:Int) (w:World):Calls Try.prog 94 #[.int .i64 a,.int .i64 b,.int .i64 c] w fun e w'=>e = .returned (.bool (cj a b c))∧qc w w' :=
 Ss.calls a b c (cj a b c) w (by
  unfold Ss.f cj
  by_cases h:a ≥ b
  ·rw [if_pos h];have h':b ≤ a:=h;simp [h']
  ·rw [if_neg h];have h':¬ b ≤ a:=h
   simp [h'])
def ku (l:List Int) (p v:Int):Bool:=cj (l.length:Int) 1 4 && !(l.any fun n=>!cj n 1 16) && cj p 0 (if v < 6 then v else 6) && decide (v ≤ 20)
theorem Ny (W:World) (x:Int):Calls Try.prog 116 #[.int .i64 x] W fun e w'=>e = .returned (.bool (!cj x 1 16))∧Below W.heap.size W w':=by
 have HC:=aa.mk (Xg x 1 16);generalize cj x 1 16=b at HC ⊢;go_enter Try.func116,Try.ntmps116;go_wp2_with (go_at_call 94;refine (HC.out _).mono ?_;rintro e w1 ⟨rfl,vn⟩;have HD:=aa.mk vn.below;clear vn);go_ret;exact ⟨rfl,HD.out⟩
theorem Yx (p0 p1 p2 p3:Value) (A:Option Addr) (c:Nat) (w:World) :
  Calls Try.prog 117 #[.agg #[p0,p1,p2,p3],.slice A 0 c,.int .i64 0] w fun e w'=>e = .returned (.bool true)∧Below w.heap.size w w':=by
 go_enter Try.func117,Try.ntmps117;go_wp2
 go_loop [25] (fun i=>i = .int .i64 0) (fun _=>0)
 case atStart=>exact rfl
 case round =>
  obtain rfl:=hrel;go_wp2;go_ret;exact ⟨rfl,ua (ua (Below.refl _ _) _) _⟩
theorem nv (A0 A3:Option Addr) (c0 c3:Nat) (l0:List Int) (a1 a2:Int) (w:World) (vk:Kd.C (Kd.int .i64) w A0 l0.length l0) (hc0:l0.length ≤ c0) :
  Calls Try.prog 93 #[.agg #[.slice A0 l0.length c0,.int .i64 a1,.int .i64 a2,.slice A3 0 c3]] w fun e w'=>e = .returned (.bool (ku l0 a1 a2))∧Below w.heap.size w w':=by
 have eg:=enters_of Try.func116 (by kernel_rfl) rfl;have V3:=vk.2.1;have HC1:=aa.mk (Xg (l0.length:Int) 1 4);have HC3:=aa.mk (Xg a1 0 (if a2 < 6 then a2 else 6));have HF:=aa.mk (fun (W:World) (hb:Below w.heap.size w W)=>Lr 116 #[] (fun n=>!cj n 1 16) eg A0 c0 l0 W (Kd.jc vk hb) hc0 (fun W x _=>Ny W x));clear vk hc0;unfold ku
 by_cases h6:a2 < 6
 all_goals
  have hmin:min 6 a2=if a2 < 6 then a2 else 6:=by split <;> omega
  first|rw [if_pos h6] at HC3 hmin ⊢|rw [if_neg h6] at HC3 hmin ⊢
  cases vn:cj (l0.length:Int) 1 4 with
  | false =>
   go_enter Try.func93,Try.ntmps93;go_wp2_with (first|(go_at_call 94;refine (Xg _ _ _ _).mono ?_;rintro e w1 ⟨rfl,⟨n,rfl⟩⟩));go_ret;exact ⟨rfl,ga (ua (Below.refl _ _) _) _⟩
  | true =>
   cases Fk:(l0.any fun n=>!cj n 1 16) with
   | true =>
    rw [Fk] at HF;go_enter Try.func93,Try.ntmps93;go_wp2_with (first|(go_at_call 94;refine (Xg _ _ _ _).mono ?_;rintro e w1 ⟨rfl,⟨n,rfl⟩⟩)|(go_at_call 115;refine (HF.out _ (ga (ua (Below.refl _ _) _) _)).mono ?_;rintro e w1 ⟨rfl,hb⟩;have HB:=aa.mk (Va (ga (ua (Below.refl _ _) _) _) hb);clear hb));go_ret;exact ⟨rfl,HB.out⟩
   | false =>
    rw [Fk] at HF;go_enter Try.func93,Try.ntmps93;go_wp2_with (first|(go_at_call 94;(with_reducible refine (Xg _ _ _ _).mono ?_);rintro e w1 ⟨rfl,⟨n,rfl⟩⟩)|(go_at_call 115;(with_reducible refine (HF.out _ (ga (ua (Below.refl _ _) _) _)).mono ?_);rintro e w1 ⟨rfl,hb⟩;have HB:=aa.mk (Va (ga (ua (Below.refl _ _) _) _) hb);obtain ⟨KP,x_⟩:=vH hb;have CQ:=hb.size;simp at CQ;clear hb)|(go_at_call 117;(with_reducible refine (Yx _ _ _ _ _ _ _).mono ?_);rintro e w2 ⟨rfl,hb⟩;have QZ:=aa.mk (Va (ga HB.out _) hb);clear hb))
    all_goals
     go_ret
     first
      | exact ⟨by simp [*],QZ.out⟩
      | exact ⟨by simp [*],ga HB.out _⟩
def qv (n:Int) (has:Bool):Bool:=cj n 0 15 && (has || n == 0)
def Xd (v most r:Int) (hr:Bool) (a:Int) (ha:Bool) (b:Int) (hb:Bool):Bool:=cj v 0 most && qv r hr && qv a ha && qv b hb
def Bj (ns:Int) (slots:Int) (nc:Int) (o r a b v:Int):Bool :=
 if o=0 then Xd 0 0 r true a false b false
 else if o=1 then Xd v (wrap64 (slots - 1)) r true a false b false
 else if o=2 then Xd v (wrap64 (slots - 1)) r true a false b false
 else if o=3 then Xd v 5 r true a true b true
 else if o=4 then Xd v (ns - 1) r true a true b false
 else if o=5 then Xd v (ns - 1) r true a true b false
 else if o=6 then Xd v 0 r true a false b false
 else if o=7 then Xd v 0 r true a false b false
 else if o=8 then Xd v (nc - 1) r false a false b false
 else if o=9 then Xd v (nc - 1) r true a false b false
 else if o=10 then Xd v 0 r true a false b false
 else if o=11 then Xd v 0 r true a true b false
 else false
theorem Ji (n:Int) (has:Bool) (w:World):Calls Try.prog 119 #[.int .i64 n,.bool has] w fun e w'=>e = .returned (.bool (qv n has))∧qc w w':=by
 unfold qv;cases has <;> cases h2:(n == 0)
 all_goals
  go_enter Try.func119,Try.ntmps119;go_wp2_with (first|(go_at_call 94;(with_reducible refine (Xg _ _ _ _).mono ?_);rintro e w1 ⟨rfl,⟨m,rfl⟩⟩))
  all_goals
   go_ret
   first
    | exact ⟨by simp [*],⟨⟨m,rfl⟩⟩⟩
theorem jA (A0 A3:Option Addr) (c0 c3 n0 n3:Nat) (p1 slots r a b v:Int) (w:World) (hn0:n0 ≤ 9223372036854775807) (Dr:n3 ≤ 9223372036854775807) :
  Calls Try.prog 97 #[.agg #[.slice A0 n0 c0,.int .i64 p1,.int .i64 slots,.slice A3 n3 c3],.agg #[.int .i64 0,.int .i64 r,.int .i64 a,.int .i64 b,.int .i64 v]] w fun e w'=>e = .returned (.bool (Xd 0 0 r true a false b false))∧Below w.heap.size w w':=by
 go_enter Try.func97,Try.ntmps97;go_wp2_with (first|(go_at_call 94;(with_reducible refine (Xg _ _ _ _).mono ?_);rintro e w1 ⟨rfl,⟨n,rfl⟩⟩)|(go_at_call 119;(with_reducible refine (Ji _ _ _).mono ?_);rintro e w1 ⟨rfl,⟨n,rfl⟩⟩))
 all_goals
  go_ret;exact ⟨by simp [Xd, *],by repeat (first|exact Below.refl _ _|apply ga|apply ua)⟩
theorem iA (A0 A3:Option Addr) (c0 c3 n0 n3:Nat) (p1 slots r a b v:Int) (w:World) (hn0:n0 ≤ 9223372036854775807) (Dr:n3 ≤ 9223372036854775807) :
  Calls Try.prog 97 #[.agg #[.slice A0 n0 c0,.int .i64 p1,.int .i64 slots,.slice A3 n3 c3],.agg #[.int .i64 1,.int .i64 r,.int .i64 a,.int .i64 b,.int .i64 v]] w fun e w'=>e = .returned (.bool (Xd v (wrap64 (slots - 1)) r true a false b false))∧Below w.heap.size w w':=by
 go_enter Try.func97,Try.ntmps97;go_wp2_with (first|(go_at_call 94;(with_reducible refine (Xg _ _ _ _).mono ?_);rintro e w1 ⟨rfl,⟨n,rfl⟩⟩)|(go_at_call 119;(with_reducible refine (Ji _ _ _).mono ?_);rintro e w1 ⟨rfl,⟨n,rfl⟩⟩))
 all_goals
  go_ret;exact ⟨by simp [Xd, *],by repeat (first|exact Below.refl _ _|apply ga|apply ua)⟩
theorem gA (A0 A3:Option Addr) (c0 c3 n0 n3:Nat) (p1 slots r a b v:Int) (w:World) (hn0:n0 ≤ 9223372036854775807) (Dr:n3 ≤ 9223372036854775807) :
  Calls Try.prog 97 #[.agg #[.slice A0 n0 c0,.int .i64 p1,.int .i64 slots,.slice A3 n3 c3],.agg #[.int .i64 2,.int .i64 r,.int .i64 a,.int .i64 b,.int .i64 v]] w fun e w'=>e = .returned (.bool (Xd v (wrap64 (slots - 1)) r true a false b false))∧Below w.heap.size w w':=by
 go_enter Try.func97,Try.ntmps97;go_wp2_with (first|(go_at_call 94;(with_reducible refine (Xg _ _ _ _).mono ?_);rintro e w1 ⟨rfl,⟨n,rfl⟩⟩)|(go_at_call 119;(with_reducible refine (Ji _ _ _).mono ?_);rintro e w1 ⟨rfl,⟨n,rfl⟩⟩))
 all_goals
  go_ret;exact ⟨by simp [Xd, *],by repeat (first|exact Below.refl _ _|apply ga|apply ua)⟩
theorem fA (A0 A3:Option Addr) (c0 c3 n0 n3:Nat) (p1 slots r a b v:Int) (w:World) (hn0:n0 ≤ 9223372036854775807) (Dr:n3 ≤ 9223372036854775807) :
  Calls Try.prog 97 #[.agg #[.slice A0 n0 c0,.int .i64 p1,.int .i64 slots,.slice A3 n3 c3],.agg #[.int .i64 3,.int .i64 r,.int .i64 a,.int .i64 b,.int .i64 v]] w fun e w'=>e = .returned (.bool (Xd v 5 r true a true b true))∧Below w.heap.size w w':=by
 go_enter Try.func97,Try.ntmps97;go_wp2_with (first|(go_at_call 94;(with_reducible refine (Xg _ _ _ _).mono ?_);rintro e w1 ⟨rfl,⟨n,rfl⟩⟩)|(go_at_call 119;(with_reducible refine (Ji _ _ _).mono ?_);rintro e w1 ⟨rfl,⟨n,rfl⟩⟩))
 all_goals
  go_ret;exact ⟨by simp [Xd, *],by repeat (first|exact Below.refl _ _|apply ga|apply ua)⟩
theorem eA (A0 A3:Option Addr) (c0 c3 n0 n3:Nat) (p1 slots r a b v:Int) (w:World) (hn0:n0 ≤ 9223372036854775807) (Dr:n3 ≤ 9223372036854775807) :
  Calls Try.prog 97 #[.agg #[.slice A0 n0 c0,.int .i64 p1,.int .i64 slots,.slice A3 n3 c3],.agg #[.int .i64 4,.int .i64 r,.int .i64 a,.int .i64 b,.int .i64 v]] w fun e w'=>e = .returned (.bool (Xd v ((n0:Int) - 1) r true a true b false))∧Below w.heap.size w w':=by
 go_enter Try.func97,Try.ntmps97;go_wp2_with (first|(go_at_call 94;(with_reducible refine (Xg _ _ _ _).mono ?_);rintro e w1 ⟨rfl,⟨n,rfl⟩⟩)|(go_at_call 119;(with_reducible refine (Ji _ _ _).mono ?_);rintro e w1 ⟨rfl,⟨n,rfl⟩⟩))
 all_goals
  go_ret;exact ⟨by simp [Xd, *],by repeat (first|exact Below.refl _ _|apply ga|apply ua)⟩
theorem dA (A0 A3:Option Addr) (c0 c3 n0 n3:Nat) (p1 slots r a b v:Int) (w:World) (hn0:n0 ≤ 9223372036854775807) (Dr:n3 ≤ 9223372036854775807) :
  Calls Try.prog 97 #[.agg #[.slice A0 n0 c0,.int .i64 p1,.int .i64 slots,.slice A3 n3 c3],.agg #[.int .i64 5,.int .i64 r,.int .i64 a,.int .i64 b,.int .i64 v]] w fun e w'=>e = .returned (.bool (Xd v ((n0:Int) - 1) r true a true b false))∧Below w.heap.size w w':=by
 go_enter Try.func97,Try.ntmps97;go_wp2_with (first|(go_at_call 94;(with_reducible refine (Xg _ _ _ _).mono ?_);rintro e w1 ⟨rfl,⟨n,rfl⟩⟩)|(go_at_call 119;(with_reducible refine (Ji _ _ _).mono ?_);rintro e w1 ⟨rfl,⟨n,rfl⟩⟩))
 all_goals
  go_ret;exact ⟨by simp [Xd, *],by repeat (first|exact Below.refl _ _|apply ga|apply ua)⟩
theorem cA (A0 A3:Option Addr) (c0 c3 n0 n3:Nat) (p1 slots r a b v:Int) (w:World) (hn0:n0 ≤ 9223372036854775807) (Dr:n3 ≤ 9223372036854775807) :
  Calls Try.prog 97 #[.agg #[.slice A0 n0 c0,.int .i64 p1,.int .i64 slots,.slice A3 n3 c3],.agg #[.int .i64 6,.int .i64 r,.int .i64 a,.int .i64 b,.int .i64 v]] w fun e w'=>e = .returned (.bool (Xd v 0 r true a false b false))∧Below w.heap.size w w':=by
 go_enter Try.func97,Try.ntmps97;go_wp2_with (first|(go_at_call 94;(with_reducible refine (Xg _ _ _ _).mono ?_);rintro e w1 ⟨rfl,⟨n,rfl⟩⟩)|(go_at_call 119;(with_reducible refine (Ji _ _ _).mono ?_);rintro e w1 ⟨rfl,⟨n,rfl⟩⟩))
 all_goals
  go_ret;exact ⟨by simp [Xd, *],by repeat (first|exact Below.refl _ _|apply ga|apply ua)⟩
theorem bA (A0 A3:Option Addr) (c0 c3 n0 n3:Nat) (p1 slots r a b v:Int) (w:World) (hn0:n0 ≤ 9223372036854775807) (Dr:n3 ≤ 9223372036854775807) :
  Calls Try.prog 97 #[.agg #[.slice A0 n0 c0,.int .i64 p1,.int .i64 slots,.slice A3 n3 c3],.agg #[.int .i64 7,.int .i64 r,.int .i64 a,.int .i64 b,.int .i64 v]] w fun e w'=>e = .returned (.bool (Xd v 0 r true a false b false))∧Below w.heap.size w w':=by
 go_enter Try.func97,Try.ntmps97;go_wp2_with (first|(go_at_call 94;(with_reducible refine (Xg _ _ _ _).mono ?_);rintro e w1 ⟨rfl,⟨n,rfl⟩⟩)|(go_at_call 119;(with_reducible refine (Ji _ _ _).mono ?_);rintro e w1 ⟨rfl,⟨n,rfl⟩⟩))
 all_goals
  go_ret;exact ⟨by simp [Xd, *],by repeat (first|exact Below.refl _ _|apply ga|apply ua)⟩
theorem aA (A0 A3:Option Addr) (c0 c3 n0 n3:Nat) (p1 slots r a b v:Int) (w:World) (hn0:n0 ≤ 9223372036854775807) (Dr:n3 ≤ 9223372036854775807) :
  Calls Try.prog 97 #[.agg #[.slice A0 n0 c0,.int .i64 p1,.int .i64 slots,.slice A3 n3 c3],.agg #[.int .i64 8,.int .i64 r,.int .i64 a,.int .i64 b,.int .i64 v]] w fun e w'=>e = .returned (.bool (Xd v ((n3:Int) - 1) r false a false b false))∧Below w.heap.size w w':=by
 go_enter Try.func97,Try.ntmps97;go_wp2_with (first|(go_at_call 94;(with_reducible refine (Xg _ _ _ _).mono ?_);rintro e w1 ⟨rfl,⟨n,rfl⟩⟩)|(go_at_call 119;(with_reducible refine (Ji _ _ _).mono ?_);rintro e w1 ⟨rfl,⟨n,rfl⟩⟩))
 all_goals
  go_ret;exact ⟨by simp [Xd, *],by repeat (first|exact Below.refl _ _|apply ga|apply ua)⟩
theorem Zz (A0 A3:Option Addr) (c0 c3 n0 n3:Nat) (p1 slots r a b v:Int) (w:World) (hn0:n0 ≤ 9223372036854775807) (Dr:n3 ≤ 9223372036854775807) :
  Calls Try.prog 97 #[.agg #[.slice A0 n0 c0,.int .i64 p1,.int .i64 slots,.slice A3 n3 c3],.agg #[.int .i64 9,.int .i64 r,.int .i64 a,.int .i64 b,.int .i64 v]] w fun e w'=>e = .returned (.bool (Xd v ((n3:Int) - 1) r true a false b false))∧Below w.heap.size w w':=by
 go_enter Try.func97,Try.ntmps97;go_wp2_with (first|(go_at_call 94;(with_reducible refine (Xg _ _ _ _).mono ?_);rintro e w1 ⟨rfl,⟨n,rfl⟩⟩)|(go_at_call 119;(with_reducible refine (Ji _ _ _).mono ?_);rintro e w1 ⟨rfl,⟨n,rfl⟩⟩))
 all_goals
  go_ret;exact ⟨by simp [Xd, *],by repeat (first|exact Below.refl _ _|apply ga|apply ua)⟩
theorem My (A0 A3:Option Addr) (c0 c3 n0 n3:Nat) (p1 slots r a b v:Int) (w:World) (hn0:n0 ≤ 9223372036854775807) (Dr:n3 ≤ 9223372036854775807) :
  Calls Try.prog 97 #[.agg #[.slice A0 n0 c0,.int .i64 p1,.int .i64 slots,.slice A3 n3 c3],.agg #[.int .i64 10,.int .i64 r,.int .i64 a,.int .i64 b,.int .i64 v]] w fun e w'=>e = .returned (.bool (Xd v 0 r true a false b false))∧Below w.heap.size w w':=by
 go_enter Try.func97,Try.ntmps97;go_wp2_with (first|(go_at_call 94;(with_reducible refine (Xg _ _ _ _).mono ?_);rintro e w1 ⟨rfl,⟨n,rfl⟩⟩)|(go_at_call 119;(with_reducible refine (Ji _ _ _).mono ?_);rintro e w1 ⟨rfl,⟨n,rfl⟩⟩))
 all_goals
  go_ret;exact ⟨by simp [Xd, *],by repeat (first|exact Below.refl _ _|apply ga|apply ua)⟩
theorem Ky (A0 A3:Option Addr) (c0 c3 n0 n3:Nat) (p1 slots r a b v:Int) (w:World) (hn0:n0 ≤ 9223372036854775807) (Dr:n3 ≤ 9223372036854775807) :
  Calls Try.prog 97 #[.agg #[.slice A0 n0 c0,.int .i64 p1,.int .i64 slots,.slice A3 n3 c3],.agg #[.int .i64 11,.int .i64 r,.int .i64 a,.int .i64 b,.int .i64 v]] w fun e w'=>e = .returned (.bool (Xd v 0 r true a true b false))∧Below w.heap.size w w':=by
 go_enter Try.func97,Try.ntmps97;go_wp2_with (first|(go_at_call 94;(with_reducible refine (Xg _ _ _ _).mono ?_);rintro e w1 ⟨rfl,⟨n,rfl⟩⟩)|(go_at_call 119;(with_reducible refine (Ji _ _ _).mono ?_);rintro e w1 ⟨rfl,⟨n,rfl⟩⟩))
 all_goals
  go_ret;exact ⟨by simp [Xd, *],by repeat (first|exact Below.refl _ _|apply ga|apply ua)⟩
theorem Jy (A0 A3:Option Addr) (c0 c3 n0 n3:Nat) (p1 slots r a b v:Int) (w:World) (hn0:n0 ≤ 9223372036854775807) (Dr:n3 ≤ 9223372036854775807) (o:Int) (h0:(o == 0)=false) (h1:(o == 1)=false) (h2:(o == 2)=false) (h3:(o == 3)=false) (h4:(o == 4)=false) (h5:(o == 5)=false) (h6:(o == 6)=false) (h7:(o == 7)=false) (h8:(o == 8)=false) (h9:(o == 9)=false) (iT:(o == 10)=false) (gT:(o == 11)=false) :
  Calls Try.prog 97 #[.agg #[.slice A0 n0 c0,.int .i64 p1,.int .i64 slots,.slice A3 n3 c3],.agg #[.int .i64 o,.int .i64 r,.int .i64 a,.int .i64 b,.int .i64 v]] w fun e w'=>e = .returned (.bool false)∧Below w.heap.size w w':=by
 go_enter Try.func97,Try.ntmps97;go_wp2_with (first|(go_at_call 94;(with_reducible refine (Xg _ _ _ _).mono ?_);rintro e w1 ⟨rfl,⟨n,rfl⟩⟩)|(go_at_call 119;(with_reducible refine (Ji _ _ _).mono ?_);rintro e w1 ⟨rfl,⟨n,rfl⟩⟩));go_ret;exact ⟨rfl,by repeat (first|exact Below.refl _ _|apply ga|apply ua)⟩
theorem gw (A0 A3:Option Addr) (c0 c3 n0 n3:Nat) (p1 slots r a b v:Int) (w:World) (hn0:n0 ≤ 9223372036854775807) (Dr:n3 ≤ 9223372036854775807) (o:Int) :
  Calls Try.prog 97 #[.agg #[.slice A0 n0 c0,.int .i64 p1,.int .i64 slots,.slice A3 n3 c3],.agg #[.int .i64 o,.int .i64 r,.int .i64 a,.int .i64 b,.int .i64 v]] w fun e w'=>e = .returned (.bool (Bj n0 slots n3 o r a b v))∧Below w.heap.size w w':=by
 unfold Bj
 by_cases h0:o=0
 ·rw [if_pos h0,h0];exact jA A0 A3 c0 c3 n0 n3 p1 slots r a b v w hn0 Dr
 rw [if_neg h0]
 by_cases h1:o=1
 ·rw [if_pos h1,h1];exact iA A0 A3 c0 c3 n0 n3 p1 slots r a b v w hn0 Dr
 rw [if_neg h1]
 by_cases h2:o=2
 ·rw [if_pos h2,h2];exact gA A0 A3 c0 c3 n0 n3 p1 slots r a b v w hn0 Dr
 rw [if_neg h2]
 by_cases h3:o=3
 ·rw [if_pos h3,h3];exact fA A0 A3 c0 c3 n0 n3 p1 slots r a b v w hn0 Dr
 rw [if_neg h3]
 by_cases h4:o=4
 ·rw [if_pos h4,h4];exact eA A0 A3 c0 c3 n0 n3 p1 slots r a b v w hn0 Dr
 rw [if_neg h4]
 by_cases h5:o=5
 ·rw [if_pos h5,h5];exact dA A0 A3 c0 c3 n0 n3 p1 slots r a b v w hn0 Dr
 rw [if_neg h5]
 by_cases h6:o=6
 ·rw [if_pos h6,h6];exact cA A0 A3 c0 c3 n0 n3 p1 slots r a b v w hn0 Dr
 rw [if_neg h6]
 by_cases h7:o=7
 ·rw [if_pos h7,h7];exact bA A0 A3 c0 c3 n0 n3 p1 slots r a b v w hn0 Dr
 rw [if_neg h7]
 by_cases h8:o=8
 ·rw [if_pos h8,h8];exact aA A0 A3 c0 c3 n0 n3 p1 slots r a b v w hn0 Dr
 rw [if_neg h8]
 by_cases h9:o=9
 ·rw [if_pos h9,h9];exact Zz A0 A3 c0 c3 n0 n3 p1 slots r a b v w hn0 Dr
 rw [if_neg h9]
 by_cases iT:o=10
 ·rw [if_pos iT,iT];exact My A0 A3 c0 c3 n0 n3 p1 slots r a b v w hn0 Dr
 rw [if_neg iT]
 by_cases gT:o=11
 ·rw [if_pos gT,gT];exact Ky A0 A3 c0 c3 n0 n3 p1 slots r a b v w hn0 Dr
 rw [if_neg gT];exact Jy A0 A3 c0 c3 n0 n3 p1 slots r a b v w hn0 Dr o (beq_eq_false_iff_ne.mpr h0) (beq_eq_false_iff_ne.mpr h1) (beq_eq_false_iff_ne.mpr h2) (beq_eq_false_iff_ne.mpr h3) (beq_eq_false_iff_ne.mpr h4) (beq_eq_false_iff_ne.mpr h5) (beq_eq_false_iff_ne.mpr h6) (beq_eq_false_iff_ne.mpr h7) (beq_eq_false_iff_ne.mpr h8) (beq_eq_false_iff_ne.mpr h9) (beq_eq_false_iff_ne.mpr iT) (beq_eq_false_iff_ne.mpr gT)
def Wk (l0:List Int) (p s:Int) (l3:List Wc):Bool :=
 ku l0 0 0 && cj p 0 6 && cj s p 1000 && cj (l3.length:Int) 1 6000 && (((ta l3 ((l3.length:Int) - 1)).f0 == 10) || ((ta l3 ((l3.length:Int) - 1)).f0 == 8)) &&
  !(l3.any fun x=>!Bj (l0.length:Int) s (l3.length:Int) x.f0 x.f1 x.f2 x.f3 x.f4)
theorem kD (B:Nat) (A0 A3:Option Addr) (c0 c3 n0 n3:Nat) (p1 slots:Int) (hn0:n0 ≤ 9223372036854775807) (Dr:n3 ≤ 9223372036854775807) (W:World) (x:Wc)
  (hb0:W.cell? ⟨B,0,none⟩=some (.slice A0 n0 c0)) (vn:W.cell? ⟨B,1,none⟩=some (.int .i64 p1)) (Fk:W.cell? ⟨B,2,none⟩=some (.int .i64 slots)) (Vr:W.cell? ⟨B,3,none⟩=some (.slice A3 n3 c3)) (hB:B < W.heap.size) :
  Calls Try.prog 96 #[.agg #[.int .i64 x.f0,.int .i64 x.f1,.int .i64 x.f2,.int .i64 x.f3,.int .i64 x.f4],.pointer (some ⟨B,0,none⟩)] W
   fun e w'=>e = .returned (.bool (!Bj (n0:Int) slots (n3:Int) x.f0 x.f1 x.f2 x.f3 x.f4))∧Below W.heap.size W w':=by
 have hne:B ≠ W.heap.size:=by omega
 have HC:=aa.mk (fun W'=>gw A0 A3 c0 c3 n0 n3 p1 slots x.f1 x.f2 x.f3 x.f4 W' hn0 Dr x.f0);generalize Bj (n0:Int) slots (n3:Int) x.f0 x.f1 x.f2 x.f3 x.f4=b at HC ⊢;go_enter Try.func96,Try.ntmps96;go_wp2_with (go_at_call 97;(with_reducible refine (HC.out _).mono ?_);rintro e w1 ⟨rfl,hb⟩;have HD:=aa.mk (Va (ua (Below.refl _ _) _) hb);clear hb);go_ret;exact ⟨rfl,HD.out⟩
theorem Oy (zb Kb:Option Addr) (yb Ab:Nat) (l0:List Int) (p s:Int) (l3:List (Wc)) (w:World) (vk:Kd.C (Kd.int .i64) w zb l0.length l0) (hc0:l0.length ≤ yb) (AV:Kd.C bg w Kb l3.length l3) (Y_:l3.length ≤ Ab) :
  Calls Try.prog 58 #[.agg #[.slice zb l0.length yb,.int .i64 p,.int .i64 s,.slice Kb l3.length Ab]] w fun e w'=>e = .returned (.bool (Wk l0 p s l3))∧Below w.heap.size w w':=by
 have eg:=enters_of Try.func96 (by kernel_rfl) rfl;have hm0:=vk.2.1;have hm3:=AV.2.1;have HP:=aa.mk (fun (W:World) (hb:Below w.heap.size w W)=>nv zb none yb 0 l0 0 0 W (Kd.jc vk hb) hc0)
 have HF:=aa.mk (fun (W:World) (hb:Below w.heap.size w W) (h0:w.heap.size < W.heap.size) (hb0:W.cell? ⟨w.heap.size,0,none⟩=some (.slice zb l0.length yb)) (vn:W.cell? ⟨w.heap.size,1,none⟩=some (.int .i64 p)) (Fk:W.cell? ⟨w.heap.size,2,none⟩=some (.int .i64 s)) (Vr:W.cell? ⟨w.heap.size,3,none⟩=some (.slice Kb l3.length Ab)) =>
  jr 96 #[.pointer (some ⟨w.heap.size,0,none⟩)] (fun x=>!Bj (l0.length:Int) s (l3.length:Int) x.f0 x.f1 x.f2 x.f3 x.f4) eg Kb Ab l3 W (Kd.jc AV hb) Y_
   (fun W2 x hb'=>kD w.heap.size zb Kb yb Ab l0.length l3.length p s hm0 hm3 W2 x ((hb'.cell (p:=⟨w.heap.size,0,none⟩) h0).trans hb0) ((hb'.cell (p:=⟨w.heap.size,1,none⟩) h0).trans vn) ((hb'.cell (p:=⟨w.heap.size,2,none⟩) h0).trans Fk) ((hb'.cell (p:=⟨w.heap.size,3,none⟩) h0).trans Vr) (Nat.lt_of_lt_of_le h0 hb'.size)))
 unfold Wk;have dN:=aa.mk AV;clear vk hc0 AV Y_;cases ME:ku l0 0 0 with
 | false =>
  rw [ME] at HP;go_enter Try.func58,Try.ntmps58;go_wp2_with (first|(go_at_call 93;(with_reducible refine (HP.out _ (ua (Below.refl _ _) _)).mono ?_);rintro e w1 ⟨rfl,hb⟩;have HB:=aa.mk (Va (ua (Below.refl _ _) _) hb);clear hb));go_ret;exact ⟨by simp,HB.out⟩
 | true =>
  rw [ME] at HP;cases hl:cj (l3.length:Int) 1 6000 with
  | false =>
   go_enter Try.func58,Try.ntmps58;go_wp2_with (first|(go_at_call 93;(with_reducible refine (HP.out _ (ua (Below.refl _ _) _)).mono ?_);rintro e w1 ⟨rfl,hb⟩;have HB:=aa.mk (Va (ua (Below.refl _ _) _) hb);obtain ⟨KP,x_⟩:=vH hb;have CQ:=hb.size;simp at CQ;clear hb)|(go_at_call 94;(with_reducible refine (Xg _ _ _ _).mono ?_);rintro e w2 ⟨rfl,⟨n,rfl⟩⟩))
   all_goals
    go_ret;exact ⟨by simp [*],by repeat (first|exact HB.out|apply ga|apply ua)⟩
  | true =>
   have hl1:1 ≤ l3.length:=by
    unfold cj at hl;simp at hl;omega
   have q1:0 ≤ (l3.length:Int) - 1:=by omega
   have q2:(l3.length:Int) - 1 < (l3.length:Int):=by omega
   obtain ⟨ad,e1,hx0,_⟩:=Yd dN.out ((l3.length:Int) - 1) q1 q2;cases e1;rw [show ((l3.length:Int) - 1).toNat=l3.length - 1 from by omega] at hx0;generalize (ta l3 ((l3.length:Int) - 1)).f0=o at hx0 ⊢;go_enter Try.func58,Try.ntmps58;go_wp2_with (first|(go_at_call 93;(with_reducible refine (HP.out _ (ua (Below.refl _ _) _)).mono ?_);rintro e w1 ⟨rfl,hb⟩;have HB:=aa.mk (Va (ua (Below.refl _ _) _) hb);obtain ⟨KP,x_⟩:=vH hb;have CQ:=hb.size;simp at CQ;have hx1:=Ya HB.out hx0;clear hb)|(go_at_call 94;(with_reducible refine (Xg _ _ _ _).mono ?_);rintro e w2 ⟨rfl,⟨n,rfl⟩⟩)|(go_at_call 95;(with_reducible refine (HF.out _ ?s1 ?s2 ?s3 ?s4 ?s5 ?s6).mono ?_);(case s1=>repeat (first|exact HB.out|apply ga));(case s2=>simp;omega);(case s3=>simp [KP]);(case s4=>simp [KP]);(case s5=>simp [KP]);(case s6=>simp [KP]);rintro e w3 ⟨rfl,hb⟩;have VH:=aa.mk (Va (show Below w.heap.size w _ from by repeat (first|exact HB.out|apply ga)) hb);clear hb))
   all_goals
    go_ret
    first
     | exact ⟨by simp [*],VH.out⟩
     | exact ⟨by simp [*],by repeat (first|exact HB.out|apply ga|apply ua)⟩
def Fh.f (Sa:List Int) (Qa:Int) (Ra:Int) (Ca:List (Wc)):Option Bool:=some (Wk Sa Qa Ra Ca)
theorem Fh.calls (zb:Option Addr) (yb:Nat) (Sa:List Int) (Qa:Int) (Ra:Int) (Kb:Option Addr) (Ab:Nat) (Ca:List (Wc)) (r:Bool) (w:World) (Ef:Kd.C (Kd.int .i64) w zb Sa.length Sa) (uf:Sa.length ≤ yb) (Df:Kd.C bg w Kb Ca.length Ca) (tf:Ca.length ≤ Ab) (h:Fh.f Sa Qa Ra Ca=some r) :
  Calls Try.prog 58 #[.agg #[.slice zb Sa.length yb,.int .i64 Qa,.int .i64 Ra,.slice Kb Ca.length Ab]] w fun e w'=>e = .returned (.bool r)∧Below w.heap.size w w':=by
 injection h with h
 subst h;exact Oy zb Kb yb Ab Sa Qa Ra Ca w Ef uf Df tf
theorem GL {α:Type} (d:Kd α) (e:Nat) (w:World) (base:Nat) (h:base ≤ w.heap.size):d.R e (w.alloc (.cells #[] e (0,0))) base (fun _=>True) (.slice (some ⟨w.heap.size,0,none⟩) 0 0) []:=by
 refine ⟨fun _ _=>trivial,[],?_,⟨by simp,fun i p hp=>by simp at hp⟩⟩;have h2:=World.ownsRow_lit (base:=base) (e:=e) (size:=d.sz) w #[] 0 h (by simp [maxLen]) (by simp)
 simpa using h2
def XG (p x:Wc):Bool:=p.f0 == 2 && (p.f1 == x.f1 && (p.f2 == 0 && (p.f3 == 0 && (p.f4 == x.f4))))
def Jl (l:List Wc) (i:Nat):Bool:=decide (0 < i) && ((ta l (i:Int)).f0 == 1 && XG (ta l ((i - 1:Nat):Int)) (ta l (i:Int)))
def ef (l:List Wc) (gs:List Int):Nat→List Wc
 | 0=>[]
 | i + 1=>if Jl l i=true∧(i:Int) ∉ gs then ef l gs i else ef l gs i ++ [ta l (i:Int)]
def Ki (l:List Wc) (gs:List Int):Nat→List Int
 | 0=>[]
 | i + 1=>Ki l gs i ++ [((ef l gs i).length:Int)]
def Tg (ps:List Int) (x:Wc):Wc:=if x.f0=8 ∨ x.f0=9 then ⟨x.f0,x.f1,x.f2,x.f3,rd ps x.f4⟩ else x
def Gr (l:List Wc):Bool:=decide (l.length ≤ 1048576) && l.all fun x=>decide (x.f0=8 ∨ x.f0=9→0 ≤ x.f4∧x.f4 < (l.length:Int))
theorem Lj (l:List Wc) (gs:List Int) (i:Nat):(ef l gs i).length ≤ i:=by
 induction i with
 | zero=>simp [ef]
 | succ i ih =>
  unfold ef
  split
  ·omega
  ·rw [List.length_append,List.length_singleton];omega
theorem Ej (l:List Wc) (gs:List Int) (i:Nat):(Ki l gs i).length=i:=by
 induction i with
 | zero=>rfl
 | succ i ih =>
  unfold Ki;rw [List.length_append,List.length_singleton,ih]
theorem Av (l:List Wc) (gs:List Int) (i:Nat) (hi:i ≤ l.length):∀ x ∈ ef l gs i,x ∈ l:=by
 induction i with
 | zero=>intro x hx;simp [ef] at hx
 | succ i ih =>
  intro x hx;unfold ef at hx
  split at hx
  ·exact ih (by omega) x hx
  ·rcases List.mem_append.1 hx with h|h
   ·exact ih (by omega) x h
   ·rw [List.mem_singleton] at h;subst h;rw [show ta l (i:Int)=l[i] from by simp [ta,List.getD_eq_getElem?_getD,show i < l.length by omega]];exact List.getElem_mem _
def uj.f (k:Nat) (Sa:List Int) (Qa:Int) (Ra:Int) (Ca:List (Wc)):Option (List Int × Int × Int × List (Wc)) :=
 (yh.f Sa Qa Ra Ca).bind fun G=>(Fh.f Sa Qa Ra Ca).bind fun t =>
  if t=true then
   (Ke.f k Sa Qa Ra Ca).bind fun gs=>if Gr Ca=true then some (G.1,G.2.1,G.2.2.1,(ef Ca gs Ca.length).map (Tg (Ki Ca gs Ca.length))) else none
  else some G
theorem kA (l:List Int) (a:Int) (hl:l.length ≤ 9223372036854775807):∃ k r,Gb.f k l a=some r∧(r ≥ 0 ↔ a ∈ l):=by
 have key:∀ d i:Nat,i + d=l.length→∃ k r,Gb.l0 k l a (l.length:Int) (i:Int)=some r∧(r ≥ 0 ↔ a ∈ l.drop i):=by
  intro d
  induction d with
  | zero =>
   intro i hi;refine ⟨1,-1,?_,?_⟩
   ·rw [Gb.l0,if_neg (by omega)]
   ·rw [List.drop_of_length_le (by omega)];simp
  | succ d ih =>
   intro i hi;obtain ⟨k,r,h1,h2⟩:=ih (i + 1) (by omega);have hlt:i < l.length:=by omega
   have hr:rd l (i:Int)=l[i]:=by simp [rd,List.getD_eq_getElem?_getD,hlt]
   by_cases e:a=l[i]
   ·refine ⟨k + 1,i,?_,?_⟩
    ·rw [Gb.l0,if_pos (by omega),if_pos (by omega),if_pos (by omega),hr,if_pos e]
    ·rw [List.drop_eq_getElem_cons hlt,e];exact ⟨fun _=>List.mem_cons_self,fun _=>by omega⟩
   ·refine ⟨k + 1,r,?_,?_⟩
    ·rw [Gb.l0,if_pos (by omega),if_pos (by omega),if_pos (by omega),hr,if_neg e,show wrap64 ((i:Int) + 1)=((i + 1:Nat):Int) from by unfold wrap64;omega,h1]
    ·rw [List.drop_eq_getElem_cons hlt,h2,List.mem_cons];exact ⟨Or.inr,fun h=>h.resolve_left e⟩
 obtain ⟨k,r,h1,h2⟩:=key l.length 0 (by omega);exact ⟨k,r,h1,by simpa using h2⟩
theorem Rx (A0:Option Addr) (c0:Nat) (l0:List Int) (a1:Int) (w:World) (vk:Kd.C (Kd.int .i64) w A0 l0.length l0) (hc0:l0.length ≤ c0) :
  Calls Try.prog 83 #[.slice A0 l0.length c0,.int .i64 a1] w fun e w'=>e = .returned (.bool (decide (a1 ∈ l0)))∧qc w w':=by
 obtain ⟨k,r,h1,h2⟩:=kA l0 a1 vk.2.1
 have h:Ld.f k l0 a1=some (decide (a1 ∈ l0)):=by
  unfold Ld.f;rw [h1];exact congrArg some (decide_eq_decide.2 h2)
 exact Ld.calls k A0 c0 l0 a1 _ w vk hc0 h
def PP (w:World) (N p r q:Nat) (im m:Array Value) (v0:Value) (s0:List Int) (v4:Value) (gs:List Int) (W:World):Prop :=
 Below w.heap.size w W∧W.heap[p]? = some (.cells im 30 (0,0))∧W.heap[r]? = some (.cells #[.slice none 0 0,.int .i64 0,.int .i64 0,.slice none 0 0] 30 (0,0))∧W.heap[q]? = some (.cells m 30 (0,0)) ∧
 Kd.R (Kd.int .i64) 3 W w.heap.size (fun k=>k < N) v0 s0∧Kd.R (Kd.int .i64) 3 W w.heap.size (fun k=>k < N) v4 gs∧(w.heap.size ≤ q∧w.heap.size ≤ r∧p < N∧q < N∧r < N∧p ≠ q∧r ≠ q∧w.heap.size ≤ N∧N ≤ W.heap.size)
section
variable {w W W':World} {N p r q:Nat} {im m:Array Value} {v0 v4:Value} {s0 gs:List Int}
theorem PP.up (h:PP w N p r q im m v0 s0 v4 gs W) (hb:Below w.heap.size w W') (hk:Kept W W' (fun k=>N ≤ k)):PP w N p r q im m v0 s0 v4 gs W':=by
 obtain ⟨h1,h2,h3,h4,h5,h6,b1,b2,b3,b4,b5,b6,b7,b8,b9⟩:=h;exact ⟨hb,mh h2 hk (by omega),mh h3 hk (by omega),mh h4 hk (by omega),Kd.VA h5 hk (fun k a b=>by omega),Kd.VA h6 hk (fun k a b=>by omega),b1,b2,b3,b4,b5,b6,b7,b8,Nat.le_trans b9 hk.1⟩
theorem PP.below (h:PP w N p r q im m v0 s0 v4 gs W) (hb:Below W.heap.size W W'):PP w N p r q im m v0 s0 v4 gs W':=h.up (Va h.1 hb) (Kept.ou hb _)
theorem PP.alloc (h:PP w N p r q im m v0 s0 v4 gs W) (o:Obj):PP w N p r q im m v0 s0 v4 gs (W.alloc o):=h.below (ua (Below.refl _ _) o)
theorem PP.grown {row:Option Nat} (h:PP w N p r q im m v0 s0 v4 gs W) (hg:W.grownBy W' row) (hr:∀ k,row=some k→N ≤ k):PP w N p r q im m v0 s0 v4 gs W' :=
 h.up (Mn h.1 row h.1.size hg (fun k e=>Nat.le_trans h.2.2.2.2.2.2.2.2.2.2.2.2.2.1 (hr k e))) (Kept.Fj hg (Kept.refl _ _) (fun k e=>Or.inl (hr k e)))
theorem PP.set (h:PP w N p r q im m v0 s0 v4 gs W) (j:Nat) (u:Value):PP w N p r q im (m.setIfInBounds j u) v0 s0 v4 gs (W.setCell ⟨q,j,none⟩ u):=by
 obtain ⟨h1,h2,h3,h4,h5,h6,b1,b2,b3,b4,b5,b6,b7,b8,b9⟩:=h;exact ⟨h1.setCell b1 _,Za h2 b6 u,Za h3 b7 u,ji h4 j u,Kd.Ah h5 h4 (by decide) j u,Kd.Ah h6 h4 (by decide) j u,b1,b2,b3,b4,b5,b6,b7,b8,by simpa using b9⟩
theorem PP.MC {a b c d:Value} (h:PP w N p r q im #[a,b,c,d] v0 s0 v4 gs W):(W.cell? ⟨q,0,none⟩=some a∧W.cell? ⟨q,1,none⟩=some b∧W.cell? ⟨q,2,none⟩=some c∧W.cell? ⟨q,3,none⟩=some d)∧W.frozen? ⟨q,3,none⟩=false :=
 ⟨⟨(ya h.2.2.2.1 0).trans rfl,(ya h.2.2.2.1 1).trans rfl,(ya h.2.2.2.1 2).trans rfl,(ya h.2.2.2.1 3).trans rfl⟩,ia h.2.2.2.1 3⟩
theorem PP.H6 {a b c d:Value} (h:PP w N p r q #[a,b,c,d] m v0 s0 v4 gs W):W.cell? ⟨p,0,none⟩=some a∧W.cell? ⟨p,1,none⟩=some b∧W.cell? ⟨p,2,none⟩=some c∧W.cell? ⟨p,3,none⟩=some d :=
 ⟨(ya h.2.1 0).trans rfl,(ya h.2.1 1).trans rfl,(ya h.2.1 2).trans rfl,(ya h.2.1 3).trans rfl⟩
end
attribute [local go_sem high] vM
theorem tH {W W':World} {g t e:Nat} {cs:Array Value} {v:Value} (hb:W.heap[g]? = some (.cells cs t (0,0))) (hg:W.grownBy W' v.ownBlock) (JQ:∀ k,v.ownBlock=some k→∃ cells,W.heap[k]? = some (.cells cells e (0,0))) (hne:t ≠ e):W'.heap[g]? = some (.cells cs t (0,0)):=by
 refine fc hb hg (fun h=>?_);obtain ⟨c2,h2⟩:=JQ g h.symm;rw [hb] at h2;injection h2 with h2
 injection h2 with _ h3
 exact hne h3
theorem kE {m n:Nat} (h:m < n) (hn:n ≤ 1048576):wrap64 ((m:Int) + 1)=((m + 1:Nat):Int):=by unfold wrap64;omega
theorem uj.calls (k:Nat) (zb:Option Addr) (yb:Nat) (Sa:List Int) (Qa:Int) (Ra:Int) (Kb:Option Addr) (Ab:Nat) (Ca:List (Wc)) (r1:List Int) (r2:Int) (r3:Int) (r4:List (Wc)) (w:World) (Ef:Kd.C (Kd.int .i64) w zb Sa.length Sa) (uf:Sa.length ≤ yb) (Df:Kd.C bg w Kb Ca.length Ca) (tf:Ca.length ≤ Ab) (h:uj.f k Sa Qa Ra Ca=some (r1,r2,r3,r4)) :
  Calls Try.prog 63 #[.agg #[.slice zb Sa.length yb,.int .i64 Qa,.int .i64 Ra,.slice Kb Ca.length Ab]] w fun e w'=>∃ qp yy:Value,e = .returned (.agg #[qp,.int .i64 r2,.int .i64 r3,yy])∧Kd.R (Kd.int .i64) 3 w' w.heap.size (fun _=>True) qp r1∧Kd.R bg 67 w' w.heap.size (fun _=>True) yy r4∧Below w.heap.size w w':=by
 unfold uj.f at h;obtain ⟨⟨g1,g2,g3,g4⟩,tG,h⟩:=Option.bind_eq_some_iff.mp h;obtain ⟨t,tT,h⟩:=Option.bind_eq_some_iff.mp h;have TG:=aa.mk tG;have TT_:=aa.mk tT;obtain ⟨W1,XS⟩:∃ W1,W1=(w.alloc (.cells #[.slice zb Sa.length yb,.int .i64 Qa,.int .i64 Ra,.slice Kb Ca.length Ab] 30 (0,0))).alloc (.cells #[.slice none 0 0,.int .i64 0,.int .i64 0,.slice none 0 0] 30 (0,0)):=⟨_,rfl⟩;have HW:=aa.mk XS;have Z_:Below w.heap.size w W1:=by rw [XS];exact ua (ua (Below.refl _ _) _) _
 have HX:=aa.mk (show W1.heap[w.heap.size]? = some (.cells #[.slice zb Sa.length yb,.int .i64 Qa,.int .i64 Ra,.slice Kb Ca.length Ab] 30 (0,0)) by rw [XS];exact qa (Po _ _) _);have HZ:=aa.mk (show W1.heap[w.heap.size + 1]? = some (.cells #[.slice none 0 0,.int .i64 0,.int .i64 0,.slice none 0 0] 30 (0,0)) by rw [XS];have:=Po (w.alloc (.cells #[.slice zb Sa.length yb,.int .i64 Qa,.int .i64 Ra,.slice Kb Ca.length Ab] 30 (0,0))) (.cells #[.slice none 0 0,.int .i64 0,.int .i64 0,.slice none 0 0] 30 (0,0));simpa using this);have HB:=aa.mk Z_;have Bl:=aa.mk Ef;have dN:=aa.mk Df;have NZ:=aa.mk uf;have MZ:=aa.mk tf;have HH:=aa.mk h;have hx0:=(ya HX.out 0).trans rfl;have hx1:=(ya HX.out 1).trans rfl;have hx2:=(ya HX.out 2).trans rfl;have cz:=(ya HX.out 3).trans rfl;clear XS Z_ Ef Df uf tf h tG tT;go_enter Try.func63,Try.ntmps63
 go_upto_region 1 with (fail)
 rw [← HW.out];clear HW
 go_upto_region 2 with (first|(go_at_call 99;(with_reducible refine (yh.calls zb yb Sa Qa Ra Kb Ab Ca g1 g2 g3 g4 W1 (Kd.jc Bl.out HB.out) NZ.out (Kd.jc dN.out HB.out) MZ.out TG.out).mono ?_);rintro e w2 ⟨v0,v4,rfl,zi,rI,hb⟩;obtain ⟨B0,d0,rfl⟩:=Kd.Ic zi;obtain ⟨B4,d4,rfl⟩:=Kd.Ic rI;have HO2:=aa.mk (Kd.ke zi HB.out.size);have HS2:=aa.mk (Kd.ke rI HB.out.size);have QZ:=aa.mk (Va HB.out hb);have HX2:=aa.mk (Oa HX.out hb);have K6:=aa.mk (Oa HZ.out hb);clear zi rI hb HB HX HZ hx0 hx1 hx2 cz))
 have Vr:=ua (Below.refl w2.heap.size w2) (.cells #[.slice B0 g1.length d0,.int .i64 g2,.int .i64 g3,.slice B4 g4.length d4] 30 (0,0));have zV:=Po w2 (.cells #[.slice B0 g1.length d0,.int .i64 g2,.int .i64 g3,.slice B4 g4.length d4] 30 (0,0));generalize w2.alloc (.cells #[.slice B0 g1.length d0,.int .i64 g2,.int .i64 g3,.slice B4 g4.length d4] 30 (0,0))=w3 at Vr zV ⊢;have GU:=aa.mk (Kd.gb (Kd.jb (Kd.Wi HO2.out) (Rm:=fun k=>k < w2.heap.size + 1) (fun k hk=>by have:=hk.2.2.1;omega)) Vr);have N6:=aa.mk (Kd.gb HS2.out Vr);have VH:=aa.mk (Va QZ.out Vr);have nP:=aa.mk (Oa HX2.out Vr);have JZ:=aa.mk (Oa K6.out Vr);have CU:=aa.mk zV;have KZ:=aa.mk (show w.heap.size + 1 < w2.heap.size from Nb K6.out);have hx0:=(ya nP.out 0).trans rfl;have hx1:=(ya nP.out 1).trans rfl;have hx2:=(ya nP.out 2).trans rfl;have cz:=(ya nP.out 3).trans rfl;clear Vr zV HO2 HS2 QZ HX2 K6;generalize w2.heap.size=b3 at CU KZ GU ⊢;cases t with
 | false =>
  have h:=HH.out;rw [if_neg (by simp)] at h;cases h
  go_upto_region 3 with (first|(go_at_call 58;(with_reducible refine (Fh.calls zb yb Sa Qa Ra Kb Ab Ca false w3 (Kd.jc Bl.out VH.out) NZ.out (Kd.jc dN.out VH.out) MZ.out TT_.out).mono ?_);rintro e w4 ⟨rfl,hb⟩;have LZ:=aa.mk (Kd.gb GU.out hb);have HS4:=aa.mk (Kd.gb N6.out hb);have yP:=aa.mk (Va VH.out hb);have WD:=aa.mk (Oa JZ.out hb);have oP:=aa.mk (Oa CU.out hb);clear hb GU N6 VH nP JZ CU hx0 hx1 hx2 cz))
  have hv0:=(ya oP.out 0).trans rfl;have hv1:=(ya oP.out 1).trans rfl;have hv2:=(ya oP.out 2).trans rfl;have zV:=(ya oP.out 3).trans rfl;have hz0:=(ya WD.out 0).trans rfl;have hz1:=(ya WD.out 1).trans rfl;have hz2:=(ya WD.out 2).trans rfl;have hz3:=(ya WD.out 3).trans rfl;have O0:=ia WD.out 0;have M0:=ia WD.out 1;have L0:=ia WD.out 2;have K0:=ia WD.out 3;go_wp2;refine bodyPost_ret (results_cell_row rfl _ _ (w.heap.size + 1) 30 #[.slice B0 r1.length d0,.int .i64 r2,.int .i64 r3,.slice B4 r4.length d4] (0,0) _ rfl (ji (ji (ji (ji WD.out 0 (.slice B0 r1.length d0)) 1 (.int .i64 r2)) 2 (.int .i64 r3)) 3 (.slice B4 r4.length d4)) Try.underlying30 rfl (by kernel_rfl)) rfl ?_;have z0:=WD.out;have z1:=ji z0 0 (.slice B0 r1.length d0);have z2:=ji z1 1 (.int .i64 r2);have z3:=ji z2 2 (.int .i64 r3);refine ⟨_,_,rfl,Kd.jb (Kd.Ah (Kd.Ah (Kd.Ah (Kd.Ah LZ.out z0 (by decide) 0 _) z1 (by decide) 1 _) z2 (by decide) 2 _) z3 (by decide) 3 _) (fun _ _=>trivial),Kd.Ah (Kd.Ah (Kd.Ah (Kd.Ah HS4.out z0 (by decide) 0 _) z1 (by decide) 1 _) z2 (by decide) 2 _) z3 (by decide) 3 _,(((yP.out.setCell (Nat.le_succ _) _).setCell (Nat.le_succ _) _).setCell (Nat.le_succ _) _).setCell (Nat.le_succ _) _⟩
 | true =>
  have h:=HH.out;rw [if_pos rfl] at h;obtain ⟨gs,tA,h⟩:=Option.bind_eq_some_iff.mp h
  by_cases hok:Gr Ca=true
  case neg=>rw [if_neg hok] at h;cases h
  rw [if_pos hok] at h;cases h;have TA:=aa.mk tA;unfold Gr at hok;simp only [Bool.and_eq_true,decide_eq_true_eq] at hok;have hlen:Ca.length ≤ 1048576:=hok.1;have HOK:=aa.mk (List.all_eq_true.1 hok.2);clear hok tA
  go_upto_region 4 with (first|(go_at_call 58;(with_reducible refine (Fh.calls zb yb Sa Qa Ra Kb Ab Ca true w3 (Kd.jc Bl.out VH.out) NZ.out (Kd.jc dN.out VH.out) MZ.out TT_.out).mono ?_);rintro e w4 ⟨rfl,hb⟩;have LZ:=aa.mk (Kd.gb GU.out hb);have yP:=aa.mk (Va VH.out hb);have SP:=aa.mk (Oa nP.out hb);have WD:=aa.mk (Oa JZ.out hb);have oP:=aa.mk (Oa CU.out hb);clear hb GU N6 VH nP JZ CU hx0 hx1 hx2 cz))
  have hx0:=(ya SP.out 0).trans rfl;have hx1:=(ya SP.out 1).trans rfl;have hx2:=(ya SP.out 2).trans rfl;have cz:=(ya SP.out 3).trans rfl
  go_upto_region 5 with (first|(go_at_call 59;(with_reducible refine (Ke.calls k zb yb Sa Qa Ra Kb Ab Ca gs w4 (Kd.jc Bl.out yP.out) NZ.out (Kd.jc dN.out yP.out) MZ.out TA.out).mono ?_);rintro e w5 ⟨v5,rfl,ho,hb⟩;have iN:=aa.mk (Kd.ke ho yP.out.size);have HO5:=aa.mk (Kd.gb LZ.out hb);have X6:=aa.mk (Va yP.out hb);have L6:=aa.mk (Oa SP.out hb);have J6:=aa.mk (Oa WD.out hb);have M6:=aa.mk (Oa oP.out hb);clear ho hb LZ yP SP WD oP hx0 hx1 hx2 cz))
  have VP:=aa.mk (show PP w w5.heap.size w.heap.size (w.heap.size + 1) b3 #[.slice zb Sa.length yb,.int .i64 Qa,.int .i64 Ra,.slice Kb Ca.length Ab] #[.slice B0 r1.length d0,.int .i64 r2,.int .i64 r3,.slice B4 g4.length d4] (.slice B0 r1.length d0) r1 v5 gs w5 from ⟨X6.out,L6.out,J6.out,M6.out,Kd.jb (Kd.Wi HO5.out) (fun _ hk=>hk.2.2.1),Kd.jb (Kd.Wi iN.out) (fun _ hk=>hk.2.2.1),by have:=KZ.out;omega,by omega,Nb L6.out,Nb M6.out,Nb J6.out,by have:=KZ.out;omega,by have:=KZ.out;omega,X6.out.size,Nat.le_refl _⟩);clear iN HO5 X6 L6 J6 M6;obtain ⟨N,hN⟩:∃ N,N=w5.heap.size:=⟨_,rfl⟩;rw [← hN] at VP;obtain ⟨A5,c5,rfl⟩:=Kd.Ic VP.out.2.2.2.2.2.1;obtain ⟨⟨Js,hq1,Ur,uu⟩,tu⟩:=VP.out.MC;obtain ⟨ME,hp1,hp2,cM⟩:=VP.out.H6;have FU:=aa.mk (VP.out.alloc (.cells #[] 3 (0,0)));have OZ:=aa.mk (GL (Kd.int .i64) 3 w5 N (Nat.le_of_eq hN))
  go_upto_region 6 with (fail)
  generalize w5.alloc (.cells #[] 3 (0,0))=W6 at FU OZ ⊢;clear VP ME hp1 hp2 cM Js hq1 Ur uu tu;generalize w5.heap.size=g5 at OZ hN ⊢;clear hN;obtain ⟨⟨Js,hq1,Ur,uu⟩,tu⟩:=FU.out.MC;have fN:=aa.mk (show PP w N w.heap.size (w.heap.size + 1) b3 #[.slice zb Sa.length yb,.int .i64 Qa,.int .i64 Ra,.slice Kb Ca.length Ab] #[.slice B0 r1.length d0,.int .i64 r2,.int .i64 r3,.slice none 0 0] (.slice B0 r1.length d0) r1 (.slice A5 gs.length c5) gs (W6.setCell ⟨b3,3,none⟩ (.slice none 0 0)) from FU.out.set 3 (.slice none 0 0));have R6:=aa.mk (Kd.Ah OZ.out FU.out.2.2.2.1 (by decide) 3 (.slice none 0 0))
  go_upto_region 7 with (fail)
  generalize W6.setCell ⟨b3,3,none⟩ (.slice none 0 0)=W7 at fN R6 ⊢;clear FU OZ Js hq1 Ur uu tu;obtain ⟨ME,hp1,hp2,cM⟩:=fN.out.H6;go_wp2
  go_loopg [5,24] Ca.length (fun gg v5 v24 wr=>∃ (i:Nat) (v3:Value),i ≤ Ca.length∧Ca.length - i ≤ gg∧v24 = .int .i64 i∧aa (PP w N w.heap.size (w.heap.size + 1) b3 #[.slice zb Sa.length yb,.int .i64 Qa,.int .i64 Ra,.slice Kb Ca.length Ab] #[.slice B0 r1.length d0,.int .i64 r2,.int .i64 r3,v3] (.slice B0 r1.length d0) r1 (.slice A5 gs.length c5) gs wr)∧aa (Kd.R (Kd.int .i64) 3 wr N (fun _=>True) v5 (Ki Ca gs i))∧aa (Kd.R bg 67 wr N (fun _=>True) v3 (ef Ca gs i)))
  case atStart=>exact ⟨0,.slice none 0 0,Nat.zero_le _,by omega,rfl,fN,R6,⟨Kd.ZM _ _ _ _ _⟩⟩
  case round =>
   clear fN R6 ME hp1 hp2 cM;(try clear HP);(try clear HL);(try clear HV);obtain ⟨i,v3,hi,hg,rfl,HP,HL,HV⟩:=hrel
   by_cases hlt:i < Ca.length
   ·have Y3:decide ((i:Int) < (Ca.length:Int))=true:=decide_eq_true (by omega);have q1:(i:Int) < (Ca.length:Int):=by omega
    have q0:0 ≤ (i:Int):=by omega
    obtain ⟨B3,d3,rfl⟩:=Kd.Ic HV.out;obtain ⟨B5,d5,rfl⟩:=Kd.Ic HL.out;obtain ⟨ad,e3,hx0,hx1,hx2,cz,Lz⟩:=Yd (Kd.jc dN.out HP.out.1) (i:Int) q0 q1;subst e3;simp only [Int.toNat_natCast] at hx0 hx1 hx2 cz Lz;have gy:=aa.mk (HP.out.alloc (.cells #[.int .i64 (ta Ca (i:Int)).f0,.int .i64 (ta Ca (i:Int)).f1,.int .i64 (ta Ca (i:Int)).f2,.int .i64 (ta Ca (i:Int)).f3,.int .i64 (ta Ca (i:Int)).f4] 67 (0,0)));have eE:=aa.mk (Kd.Ea HL.out (.cells #[.int .i64 (ta Ca (i:Int)).f0,.int .i64 (ta Ca (i:Int)).f1,.int .i64 (ta Ca (i:Int)).f2,.int .i64 (ta Ca (i:Int)).f3,.int .i64 (ta Ca (i:Int)).f4] 67 (0,0)));have pP:=aa.mk (Kd.Ea HV.out (.cells #[.int .i64 (ta Ca (i:Int)).f0,.int .i64 (ta Ca (i:Int)).f1,.int .i64 (ta Ca (i:Int)).f2,.int .i64 (ta Ca (i:Int)).f3,.int .i64 (ta Ca (i:Int)).f4] 67 (0,0)));have JL:=aa.mk (Po wr (.cells #[.int .i64 (ta Ca (i:Int)).f0,.int .i64 (ta Ca (i:Int)).f1,.int .i64 (ta Ca (i:Int)).f2,.int .i64 (ta Ca (i:Int)).f3,.int .i64 (ta Ca (i:Int)).f4] 67 (0,0)));have hgN:N ≤ wr.heap.size:=HP.out.2.2.2.2.2.2.2.2.2.2.2.2.2.2
    go_upto_region 10 with (fail)
    generalize wr.alloc (.cells #[.int .i64 (ta Ca (i:Int)).f0,.int .i64 (ta Ca (i:Int)).f1,.int .i64 (ta Ca (i:Int)).f2,.int .i64 (ta Ca (i:Int)).f3,.int .i64 (ta Ca (i:Int)).f4] 67 (0,0))=wz at gy eE pP JL ⊢;generalize wr.heap.size=g7 at JL hgN ⊢;clear HP HL HV hx0 hx1 hx2 cz Lz;obtain ⟨⟨Js,hq1,Ur,uu⟩,tu⟩:=gy.out.MC;have ML:=aa.mk (Lj Ca gs i);have HPL:=aa.mk (Ej Ca gs i)
    go_upto_region 11 with (first|(at_builtin;(refine Kd.xg (Kd.int .i64) (w0:=wz) N rfl (.tmp 29) (.tmp 33) 22 3 (.int .i64 0) 8 rfl ?a1 ?a2 rfl ?a3 ?a4 (.slice B5 (Ki Ca gs i).length d5) (Ki Ca gs i) ((ef Ca gs i).length:Int) [.int .i64 ((ef Ca gs i).length:Int)] (fun _=>True) (fun _=>False) ?a5 ?a6 ?aP (fun _ hk=>hk.elim) ?a7 ?a8 ?a9 ?b1 ?b2 ?_);(case a1=>exact Try.underlying22);(case a2=>exact info3);(case a3=>decide);(case a4=>have:=HPL.out;omega);(case a5=>rfl);(case a6=>rfl);(case aP=>exact rfl);(case a7=>exact fun _ _=>trivial);(case a8=>exact eE.out);(case a9=>exact Below.refl _ _);(case b1=>exact gy.out.2.2.2.2.2.2.2.2.2.2.2.2.2.2);(case b2=>have:=HPL.out;omega);intro v1 w1 ho hb hgr hat;have Ar:=aa.mk (gy.out.grown hgr (Kd.Td eE.out));have iy:=aa.mk (show Kd.R (Kd.int .i64) 3 w1 N (fun _=>True) v1 (Ki Ca gs (i + 1)) from ho);have Fz:=aa.mk (Kd.Qd pP.out (Kd.Dc eE.out) (by decide) hgr);have Yo:=aa.mk (show w1.heap[g7]? = some (.cells #[.int .i64 (ta Ca (i:Int)).f0,.int .i64 (ta Ca (i:Int)).f1,.int .i64 (ta Ca (i:Int)).f2,.int .i64 (ta Ca (i:Int)).f3,.int .i64 (ta Ca (i:Int)).f4] 67 (0,0)) from tH JL.out hgr (Kd.Dc eE.out) (by decide));obtain ⟨B6,d6,rfl⟩:=Kd.Ic ho;rw [List.length_append,List.length_singleton] at iy;clear ho hb hgr hat gy eE pP JL Js hq1 Ur uu tu))
    obtain ⟨ME,hp1,hp2,cM⟩:=Ar.out.H6;have hb0:=(ya Yo.out 0).trans rfl;have vn:=(ya Yo.out 1).trans rfl;have Fk:=(ya Yo.out 2).trans rfl;have Vr:=(ya Yo.out 3).trans rfl;have hb4:=(ya Yo.out 4).trans rfl
    have OG:(decide (0 < (i:Int))=false∧Jl Ca i=false) ∨ (decide (0 < (i:Int))=true∧((((ta Ca (i:Int)).f0 == 1)=false∧Jl Ca i=false) ∨ (((ta Ca (i:Int)).f0 == 1)=true∧∃ j:Nat,wrap64 ((i:Int) - 1)=(j:Int)∧j < Ca.length∧XG (ta Ca (j:Int)) (ta Ca (i:Int))=Jl Ca i))):=by
     unfold Jl
     by_cases h0:0 < i
     ·refine Or.inr ⟨decide_eq_true (by omega),?_⟩
      by_cases h1:(ta Ca (i:Int)).f0=1
      ·refine Or.inr ⟨beq_iff_eq.2 h1,i - 1,by unfold wrap64;omega,by omega,?_⟩;rw [h1];simp [h0]
      ·exact Or.inl ⟨beq_eq_false_iff_ne.2 h1,by rw [beq_eq_false_iff_ne.2 h1];simp⟩
     ·exact Or.inl ⟨decide_eq_false (by omega),by simp [h0]⟩
    have mA:decide (0 < i)=decide (0 < (i:Int)):=decide_eq_decide.2 (by omega)
    rcases OG with ⟨hc0,QG⟩|⟨hc0,⟨hc1,QG⟩|⟨hc1,j,hj,hjl,QG⟩⟩
    ·have zP:=aa.mk QG;clear QG;rw [hc0] at mA
     go_quiet (fail)
     have zj:=aa.mk (Ar.out.below (ga (Below.refl _ _) nq));have Zo:=aa.mk (Kd.Da iy.out nq);have Al:=aa.mk (Kd.Da Fz.out nq);have Gi:=aa.mk (oa Yo.out nq);generalize w1.drewN nq=wm at zj Zo Al Gi ⊢;clear Ar iy Fz Yo ME hp1 hp2 cM hb0 vn Fk Vr hb4 mA hc0;have KL:=aa.mk (show ef Ca gs (i + 1)=ef Ca gs i ++ [(ta Ca (i:Int))] from if_neg (by rw [zP.out];simp));obtain ⟨⟨Js,hq1,Ur,uu⟩,tu⟩:=zj.out.MC;have hb0:=(ya Gi.out 0).trans rfl;have vn:=(ya Gi.out 1).trans rfl;have Fk:=(ya Gi.out 2).trans rfl;have Vr:=(ya Gi.out 3).trans rfl;have hb4:=(ya Gi.out 4).trans rfl
     go_upto_region 14 with (first|(at_builtin;(refine Kd.xg bg (w0:=wm) N rfl (.tmp 64) (.tmp 66) 28 67 (.agg #[(.int .i64 0),(.int .i64 0),(.int .i64 0),(.int .i64 0),(.int .i64 0)]) 40 rfl ?a1 ?a2 rfl ?a3 ?a4 (.slice B3 (ef Ca gs i).length d3) (ef Ca gs i) (ta Ca (i:Int)) [.int .i64 (ta Ca (i:Int)).f0,.int .i64 (ta Ca (i:Int)).f1,.int .i64 (ta Ca (i:Int)).f2,.int .i64 (ta Ca (i:Int)).f3,.int .i64 (ta Ca (i:Int)).f4] (fun _=>True) (fun _=>False) ?a5 ?a6 ?aP (fun _ hk=>hk.elim) ?a7 ?a8 ?a9 ?b1 ?b2 ?_);(case a1=>exact Try.underlying28);(case a2=>exact Gl);(case a3=>decide);(case a4=>omega);(case a5=>rfl);(case a6=>rfl);(case aP=>exact Ag _ _ _ _);(case a7=>exact fun _ _=>trivial);(case a8=>exact Al.out);(case a9=>exact Below.refl _ _);(case b1=>exact zj.out.2.2.2.2.2.2.2.2.2.2.2.2.2.2);(case b2=>have:=ML.out;omega);intro v1 xy ho hb hgr hat;have Ml:=aa.mk (zj.out.grown hgr (Kd.Td Al.out));have YA:=aa.mk (Kd.Qd Zo.out (Kd.Dc Al.out) (by decide) hgr);have Qu:=aa.mk (show Kd.R bg 67 xy N (fun _=>True) v1 (ef Ca gs (i + 1)) from by rw [KL.out];exact ho);obtain ⟨B7,d7,rfl⟩:=Kd.Ic ho;rw [List.length_append,List.length_singleton] at Qu;clear ho hb hgr hat Js hq1 Ur uu tu hb0 vn Fk Vr hb4;obtain ⟨⟨Js,hq1,Ur,uu⟩,tu⟩:=Ml.out.MC))
     go_wp2
     go_roundg (Ca.length - (i + 1))
     case measure=>omega
     case rel=>exact ⟨i + 1,_,by omega,by omega,by go_num,⟨Ml.out.set 3 _⟩,⟨Kd.Ah YA.out Ml.out.2.2.2.1 (by decide) 3 _⟩,⟨Kd.Ah Qu.out Ml.out.2.2.2.1 (by decide) 3 _⟩⟩
    ·have zP:=aa.mk QG;clear QG;rw [hc0] at mA
     go_quiet (fail)
     have zj:=aa.mk (Ar.out.below (ga (Below.refl _ _) nq));have Zo:=aa.mk (Kd.Da iy.out nq);have Al:=aa.mk (Kd.Da Fz.out nq);have Gi:=aa.mk (oa Yo.out nq);generalize w1.drewN nq=wm at zj Zo Al Gi ⊢;clear Ar iy Fz Yo ME hp1 hp2 cM hb0 vn Fk Vr hb4 mA hc0 hc1;have KL:=aa.mk (show ef Ca gs (i + 1)=ef Ca gs i ++ [(ta Ca (i:Int))] from if_neg (by rw [zP.out];simp));obtain ⟨⟨Js,hq1,Ur,uu⟩,tu⟩:=zj.out.MC;have hb0:=(ya Gi.out 0).trans rfl;have vn:=(ya Gi.out 1).trans rfl;have Fk:=(ya Gi.out 2).trans rfl;have Vr:=(ya Gi.out 3).trans rfl;have hb4:=(ya Gi.out 4).trans rfl
     go_upto_region 14 with (first|(at_builtin;(refine Kd.xg bg (w0:=wm) N rfl (.tmp 64) (.tmp 66) 28 67 (.agg #[(.int .i64 0),(.int .i64 0),(.int .i64 0),(.int .i64 0),(.int .i64 0)]) 40 rfl ?a1 ?a2 rfl ?a3 ?a4 (.slice B3 (ef Ca gs i).length d3) (ef Ca gs i) (ta Ca (i:Int)) [.int .i64 (ta Ca (i:Int)).f0,.int .i64 (ta Ca (i:Int)).f1,.int .i64 (ta Ca (i:Int)).f2,.int .i64 (ta Ca (i:Int)).f3,.int .i64 (ta Ca (i:Int)).f4] (fun _=>True) (fun _=>False) ?a5 ?a6 ?aP (fun _ hk=>hk.elim) ?a7 ?a8 ?a9 ?b1 ?b2 ?_);(case a1=>exact Try.underlying28);(case a2=>exact Gl);(case a3=>decide);(case a4=>omega);(case a5=>rfl);(case a6=>rfl);(case aP=>exact Ag _ _ _ _);(case a7=>exact fun _ _=>trivial);(case a8=>exact Al.out);(case a9=>exact Below.refl _ _);(case b1=>exact zj.out.2.2.2.2.2.2.2.2.2.2.2.2.2.2);(case b2=>have:=ML.out;omega);intro v1 xy ho hb hgr hat;have Ml:=aa.mk (zj.out.grown hgr (Kd.Td Al.out));have YA:=aa.mk (Kd.Qd Zo.out (Kd.Dc Al.out) (by decide) hgr);have Qu:=aa.mk (show Kd.R bg 67 xy N (fun _=>True) v1 (ef Ca gs (i + 1)) from by rw [KL.out];exact ho);obtain ⟨B7,d7,rfl⟩:=Kd.Ic ho;rw [List.length_append,List.length_singleton] at Qu;clear ho hb hgr hat Js hq1 Ur uu tu hb0 vn Fk Vr hb4;obtain ⟨⟨Js,hq1,Ur,uu⟩,tu⟩:=Ml.out.MC))
     go_wp2
     go_roundg (Ca.length - (i + 1))
     case measure=>omega
     case rel=>exact ⟨i + 1,_,by omega,by omega,by go_num,⟨Ml.out.set 3 _⟩,⟨Kd.Ah YA.out Ml.out.2.2.2.1 (by decide) 3 _⟩,⟨Kd.Ah Qu.out Ml.out.2.2.2.1 (by decide) 3 _⟩⟩
    ·have j1:(j:Int) < (Ca.length:Int):=by omega
     have j0:0 ≤ (j:Int):=by omega
     obtain ⟨ad2,e4,hy0,hy1,hy2,Q0,P0⟩:=Yd (Kd.jc dN.out Ar.out.1) (j:Int) j0 j1;obtain rfl:ad=ad2:=by injection e4
     clear e4;simp only [Int.toNat_natCast] at hy0 hy1 hy2 Q0 P0;rw [hc0] at mA;unfold XG at QG;have hj2:IntKind.i64.wrap ((i:Int) - 1)=(j:Int):=(He _).trans hj;clear hj;cases hb:Jl Ca i with
     | false =>
      rw [hb] at QG;have zP:=aa.mk hb;clear hb
      go_quiet (fail)
      clear QG hj2;have zj:=aa.mk (Ar.out.below (ga (Below.refl _ _) nq));have Zo:=aa.mk (Kd.Da iy.out nq);have Al:=aa.mk (Kd.Da Fz.out nq);have Gi:=aa.mk (oa Yo.out nq);generalize w1.drewN nq=wm at zj Zo Al Gi ⊢;clear Ar iy Fz Yo ME hp1 hp2 cM hb0 vn Fk Vr hb4 mA hc0 hc1 hy0 hy1 hy2 Q0 P0;have KL:=aa.mk (show ef Ca gs (i + 1)=ef Ca gs i ++ [(ta Ca (i:Int))] from if_neg (by rw [zP.out];simp));obtain ⟨⟨Js,hq1,Ur,uu⟩,tu⟩:=zj.out.MC;have hb0:=(ya Gi.out 0).trans rfl;have vn:=(ya Gi.out 1).trans rfl;have Fk:=(ya Gi.out 2).trans rfl;have Vr:=(ya Gi.out 3).trans rfl;have hb4:=(ya Gi.out 4).trans rfl
      go_upto_region 14 with (first|(at_builtin;(refine Kd.xg bg (w0:=wm) N rfl (.tmp 64) (.tmp 66) 28 67 (.agg #[(.int .i64 0),(.int .i64 0),(.int .i64 0),(.int .i64 0),(.int .i64 0)]) 40 rfl ?a1 ?a2 rfl ?a3 ?a4 (.slice B3 (ef Ca gs i).length d3) (ef Ca gs i) (ta Ca (i:Int)) [.int .i64 (ta Ca (i:Int)).f0,.int .i64 (ta Ca (i:Int)).f1,.int .i64 (ta Ca (i:Int)).f2,.int .i64 (ta Ca (i:Int)).f3,.int .i64 (ta Ca (i:Int)).f4] (fun _=>True) (fun _=>False) ?a5 ?a6 ?aP (fun _ hk=>hk.elim) ?a7 ?a8 ?a9 ?b1 ?b2 ?_);(case a1=>exact Try.underlying28);(case a2=>exact Gl);(case a3=>decide);(case a4=>omega);(case a5=>rfl);(case a6=>rfl);(case aP=>exact Ag _ _ _ _);(case a7=>exact fun _ _=>trivial);(case a8=>exact Al.out);(case a9=>exact Below.refl _ _);(case b1=>exact zj.out.2.2.2.2.2.2.2.2.2.2.2.2.2.2);(case b2=>have:=ML.out;omega);intro v1 xy ho hb hgr hat;have Ml:=aa.mk (zj.out.grown hgr (Kd.Td Al.out));have YA:=aa.mk (Kd.Qd Zo.out (Kd.Dc Al.out) (by decide) hgr);have Qu:=aa.mk (show Kd.R bg 67 xy N (fun _=>True) v1 (ef Ca gs (i + 1)) from by rw [KL.out];exact ho);obtain ⟨B7,d7,rfl⟩:=Kd.Ic ho;rw [List.length_append,List.length_singleton] at Qu;clear ho hb hgr hat Js hq1 Ur uu tu hb0 vn Fk Vr hb4;obtain ⟨⟨Js,hq1,Ur,uu⟩,tu⟩:=Ml.out.MC))
      go_wp2
      go_roundg (Ca.length - (i + 1))
      case measure=>omega
      case rel=>exact ⟨i + 1,_,by omega,by omega,by go_num,⟨Ml.out.set 3 _⟩,⟨Kd.Ah YA.out Ml.out.2.2.2.1 (by decide) 3 _⟩,⟨Kd.Ah Qu.out Ml.out.2.2.2.1 (by decide) 3 _⟩⟩
     | true =>
      rw [hb] at QG;have zP:=aa.mk hb;clear hb
      go_quiet (fail)
      clear QG hj2;have zj:=aa.mk (Ar.out.below (ga (Below.refl _ _) nq));have Zo:=aa.mk (Kd.Da iy.out nq);have Al:=aa.mk (Kd.Da Fz.out nq);have Gi:=aa.mk (oa Yo.out nq);generalize w1.drewN nq=wm at zj Zo Al Gi ⊢;clear Ar iy Fz Yo ME hp1 hp2 cM hb0 vn Fk Vr hb4 mA hc0 hc1 hy0 hy1 hy2 Q0 P0;have XP:=aa.mk (Rx A5 c5 gs (i:Int) wm (Kd.Jb zj.out.2.2.2.2.2.1).2.2 (Kd.Jb zj.out.2.2.2.2.2.1).2.1);cases hm:decide ((i:Int) ∈ gs) with
      | false =>
       rw [hm] at XP;have KL:=aa.mk (show ef Ca gs (i + 1)=ef Ca gs i from if_pos ⟨zP.out,of_decide_eq_false hm⟩);clear hm;go_wp2_with (first|(go_at_call 83;(refine XP.out.mono ?_);rintro e Ep ⟨rfl,⟨⟨nd,rfl⟩⟩⟩));have aE:=aa.mk (zj.out.below (ga (Below.refl _ _) nd));have cE:=aa.mk (Kd.Da Zo.out nd);have YD:=aa.mk (Kd.Da Al.out nd);have BH:=aa.mk (oa Gi.out nd);generalize wm.drewN nd=uy at aE cE YD BH ⊢;clear zj Zo Al Gi XP
       go_roundg (Ca.length - (i + 1))
       case measure=>omega
       case rel=>exact ⟨i + 1,_,by omega,by omega,by go_num,aE,cE,⟨by rw [KL.out];exact YD.out⟩⟩
      | true =>
       rw [hm] at XP;have KL:=aa.mk (show ef Ca gs (i + 1)=ef Ca gs i ++ [(ta Ca (i:Int))] from if_neg (fun hc=>hc.2 (of_decide_eq_true hm)));clear hm
       go_upto_region 13 with (first|(go_at_call 83;(refine XP.out.mono ?_);rintro e Ep ⟨rfl,⟨⟨nd,rfl⟩⟩⟩))
       have aE:=aa.mk (zj.out.below (ga (Below.refl _ _) nd));have cE:=aa.mk (Kd.Da Zo.out nd);have YD:=aa.mk (Kd.Da Al.out nd);have BH:=aa.mk (oa Gi.out nd);generalize wm.drewN nd=uy at aE cE YD BH ⊢;clear zj Zo Al Gi XP;have zj:=aE;have Zo:=cE;have Al:=YD;have Gi:=BH;clear aE cE YD BH;obtain ⟨⟨Js,hq1,Ur,uu⟩,tu⟩:=zj.out.MC;have hb0:=(ya Gi.out 0).trans rfl;have vn:=(ya Gi.out 1).trans rfl;have Fk:=(ya Gi.out 2).trans rfl;have Vr:=(ya Gi.out 3).trans rfl;have hb4:=(ya Gi.out 4).trans rfl
       go_upto_region 14 with (first|(at_builtin;(refine Kd.xg bg (w0:=uy) N rfl (.tmp 64) (.tmp 66) 28 67 (.agg #[(.int .i64 0),(.int .i64 0),(.int .i64 0),(.int .i64 0),(.int .i64 0)]) 40 rfl ?a1 ?a2 rfl ?a3 ?a4 (.slice B3 (ef Ca gs i).length d3) (ef Ca gs i) (ta Ca (i:Int)) [.int .i64 (ta Ca (i:Int)).f0,.int .i64 (ta Ca (i:Int)).f1,.int .i64 (ta Ca (i:Int)).f2,.int .i64 (ta Ca (i:Int)).f3,.int .i64 (ta Ca (i:Int)).f4] (fun _=>True) (fun _=>False) ?a5 ?a6 ?aP (fun _ hk=>hk.elim) ?a7 ?a8 ?a9 ?b1 ?b2 ?_);(case a1=>exact Try.underlying28);(case a2=>exact Gl);(case a3=>decide);(case a4=>omega);(case a5=>rfl);(case a6=>rfl);(case aP=>exact Ag _ _ _ _);(case a7=>exact fun _ _=>trivial);(case a8=>exact Al.out);(case a9=>exact Below.refl _ _);(case b1=>exact zj.out.2.2.2.2.2.2.2.2.2.2.2.2.2.2);(case b2=>have:=ML.out;omega);intro v1 xy ho hb hgr hat;have Ml:=aa.mk (zj.out.grown hgr (Kd.Td Al.out));have YA:=aa.mk (Kd.Qd Zo.out (Kd.Dc Al.out) (by decide) hgr);have Qu:=aa.mk (show Kd.R bg 67 xy N (fun _=>True) v1 (ef Ca gs (i + 1)) from by rw [KL.out];exact ho);obtain ⟨B7,d7,rfl⟩:=Kd.Ic ho;rw [List.length_append,List.length_singleton] at Qu;clear ho hb hgr hat Js hq1 Ur uu tu hb0 vn Fk Vr hb4;obtain ⟨⟨Js,hq1,Ur,uu⟩,tu⟩:=Ml.out.MC))
       go_wp2
       go_roundg (Ca.length - (i + 1))
       case measure=>omega
       case rel=>exact ⟨i + 1,_,by omega,by omega,by go_num,⟨Ml.out.set 3 _⟩,⟨Kd.Ah YA.out Ml.out.2.2.2.1 (by decide) 3 _⟩,⟨Kd.Ah Qu.out Ml.out.2.2.2.1 (by decide) 3 _⟩⟩
   ·have Y3:decide ((i:Int) < (Ca.length:Int))=false:=decide_eq_false (by omega);obtain rfl:i=Ca.length:=by omega
    have EU:=aa.mk (Ej Ca gs Ca.length);have HIN:=aa.mk (Av Ca gs Ca.length (Nat.le_refl _));have ML:=aa.mk (Nat.le_trans (Lj Ca gs Ca.length) hlen);generalize j4:ef Ca gs Ca.length=kl at HV HIN ML;generalize hpl:Ki Ca gs Ca.length=pl at HL EU;have HKE:=aa.mk j4;have HPE:=aa.mk hpl;clear j4 hpl;obtain ⟨B3,d3,rfl⟩:=Kd.Ic HV.out;obtain ⟨B5,d5,rfl⟩:=Kd.Ic HL.out;obtain ⟨⟨Js,hq1,Ur,uu⟩,tu⟩:=HP.out.MC;have HV2:=aa.mk (show Kd.R bg 67 wr N (fun _=>True) (.slice B3 kl.length d3) ((kl.map (Tg pl)).take 0 ++ kl.drop 0) from HV.out);clear HV
    go_upto_region 16 with (fail)
    go_loopg [73] kl.length (fun gg v73 wr=>∃ m:Nat,m ≤ kl.length∧kl.length - m ≤ gg∧v73 = .int .i64 m∧aa (PP w N w.heap.size (w.heap.size + 1) b3 #[.slice zb Sa.length yb,.int .i64 Qa,.int .i64 Ra,.slice Kb Ca.length Ab] #[.slice B0 r1.length d0,.int .i64 r2,.int .i64 r3,.slice B3 kl.length d3] (.slice B0 r1.length d0) r1 (.slice A5 gs.length c5) gs wr)∧aa (Kd.R (Kd.int .i64) 3 wr N (fun _=>True) (.slice B5 pl.length d5) pl)∧aa (Kd.R bg 67 wr N (fun _=>True) (.slice B3 kl.length d3) ((kl.map (Tg pl)).take m ++ kl.drop m)))
    case atStart=>exact ⟨0,Nat.zero_le _,by omega,rfl,HP,HL,HV2⟩
    case round =>
     clear HP HL HV2 Js hq1 Ur uu tu;(try clear HP);(try clear HL);(try clear HV);obtain ⟨m,hm,hg2,rfl,HP,HL,HV⟩:=hrel
     by_cases hlt2:m < kl.length
     ·have yR:decide ((m:Int) < (kl.length:Int))=true:=decide_eq_true (by omega);have m1:(m:Int) < (kl.length:Int):=by omega
      have m0:0 ≤ (m:Int):=by omega
      have AZ:((kl.map (Tg pl)).take m ++ kl.drop m).length=kl.length:=by rw [List.length_append,List.length_take,List.length_drop,List.length_map];omega
      obtain ⟨g,cap,e1,w_,CR,cells,Jr⟩:=Kd.Kp HV.out (by rw [AZ];omega);obtain rfl:B3=some ⟨g,0,none⟩:=by injection e1
      clear e1;obtain ⟨cs,vO,hM,zD,X_⟩:=Kd.Uh HV.out Sm (m:Int) m0 m1
      have hx:((kl.map (Tg pl)).take m ++ kl.drop m).getD (Int.toNat (m:Int)) Sm=kl[m]:=by
       rw [Int.toNat_natCast,List.getD_eq_getElem?_getD,List.getElem?_append_right (by rw [List.length_take];omega),List.length_take,List.length_map,Nat.min_eq_left (by omega),Nat.sub_self,List.getElem?_drop,Nat.add_zero];simp [List.getElem?_eq_getElem hlt2]
      rw [hx] at hM
      have ez:∀ y,((kl.map (Tg pl)).take m ++ kl.drop m).set (Int.toNat (m:Int)) y=(kl.map (Tg pl)).take m ++ y :: kl.drop (m + 1):=by
       intro y;rw [Int.toNat_natCast,List.set_append_right _ _ (by rw [List.length_take];omega),List.length_take,List.length_map,Nat.min_eq_left (by omega),Nat.sub_self,List.drop_eq_getElem_cons hlt2,List.set_cons_zero]
      have hnext:(kl.map (Tg pl)).take (m + 1) ++ kl.drop (m + 1)=(kl.map (Tg pl)).take m ++ Tg pl kl[m] :: kl.drop (m + 1):=by
       rw [List.take_succ_eq_append_getElem (by rw [List.length_map];exact hlt2),List.getElem_map,List.append_assoc,List.singleton_append]
      have hnN:N ≤ wr.heap.size:=HP.out.2.2.2.2.2.2.2.2.2.2.2.2.2.2;have P6:=HIN.out kl[m] (List.getElem_mem hlt2);have HGO:=HOK.out kl[m] P6;have NF:kl.drop m=kl[m] :: kl.drop (m + 1):=List.drop_eq_getElem_cons hlt2;have bE:=aa.mk hlt2;generalize kl[m]=x at hM hx hnext HGO P6 NF;have S6:=aa.mk NF;clear NF;have hcs:=jf hM;subst hcs;have hx0:=zD 0 _ rfl;have hx1:=zD 1 _ rfl;have hx2:=zD 2 _ rfl;have cz:=zD 3 _ rfl;have Lz:=zD 4 _ rfl;simp only [Int.toNat_natCast,show (bg).sz=5 from rfl,Nat.add_zero] at hx0 hx1 hx2 cz Lz;have PZ:=aa.mk zD;have HCF:=aa.mk X_;have NU:=aa.mk hnext;have HST:=aa.mk ez;have HCE:=aa.mk Jr;have Ru:=aa.mk (HP.out.alloc (.cells #[.int .i64 x.f0,.int .i64 x.f1,.int .i64 x.f2,.int .i64 x.f3,.int .i64 x.f4] 67 (0,0)));have Su:=aa.mk (Kd.Ea HL.out (.cells #[.int .i64 x.f0,.int .i64 x.f1,.int .i64 x.f2,.int .i64 x.f3,.int .i64 x.f4] 67 (0,0)));have vr:=aa.mk (Kd.Ea HV.out (.cells #[.int .i64 x.f0,.int .i64 x.f1,.int .i64 x.f2,.int .i64 x.f3,.int .i64 x.f4] 67 (0,0)));have fy:=aa.mk (Po wr (.cells #[.int .i64 x.f0,.int .i64 x.f1,.int .i64 x.f2,.int .i64 x.f3,.int .i64 x.f4] 67 (0,0)));clear hM hx zD X_ hnext ez Jr vO P6 AZ
      go_upto_region 18 with (fail)
      have hne:g ≠ wr.heap.size:=Nat.ne_of_lt CR;generalize wr.alloc (.cells #[.int .i64 x.f0,.int .i64 x.f1,.int .i64 x.f2,.int .i64 x.f3,.int .i64 x.f4] 67 (0,0))=wz at Ru Su vr fy ⊢;generalize wr.heap.size=g10 at fy hnN hne CR ⊢;clear HP HL HV hx0 hx1 hx2 cz Lz PZ HCF HCE cells;have hb0:=(ya fy.out 0).trans rfl;have vn:=(ya fy.out 1).trans rfl;have Fk:=(ya fy.out 2).trans rfl;have Vr:=(ya fy.out 3).trans rfl;have hb4:=(ya fy.out 4).trans rfl;obtain ⟨⟨Js,hq1,Ur,uu⟩,tu⟩:=Ru.out.MC
      have OG:(((x.f0 == 8)=true ∨ (x.f0 == 8)=false∧(x.f0 == 9)=true)∧(0 ≤ x.f4∧x.f4 < (Ca.length:Int))∧Tg pl x=⟨x.f0,x.f1,x.f2,x.f3,rd pl x.f4⟩) ∨ (((x.f0 == 8)=false∧(x.f0 == 9)=false)∧Tg pl x=x):=by
       have hgo:=of_decide_eq_true HGO;unfold Tg
       by_cases h8:x.f0=8
       ·exact Or.inl ⟨Or.inl (beq_iff_eq.2 h8),hgo (Or.inl h8),if_pos (Or.inl h8)⟩
       ·by_cases h9:x.f0=9
        ·exact Or.inl ⟨Or.inr ⟨beq_eq_false_iff_ne.2 h8,beq_iff_eq.2 h9⟩,hgo (Or.inr h9),if_pos (Or.inr h9)⟩
        ·exact Or.inr ⟨⟨beq_eq_false_iff_ne.2 h8,beq_eq_false_iff_ne.2 h9⟩,if_neg (fun h=>h.elim h8 h9)⟩
      rcases OG with ⟨hop,⟨y0,y1⟩,W3⟩|⟨⟨h8,h9⟩,W3⟩
      ·rw [W3] at NU;have y2:x.f4 < (pl.length:Int):=by rw [EU.out];exact y1
       obtain ⟨ad5,e5,hy⟩:=Kd.Wj (Kd.Jb Su.out).2.2 x.f4 y0 y2;subst e5
       rcases hop with h8|⟨h8,h9⟩
       ·go_upto_region 19 with (fail)
        go_still_tail 10,(by kernel_rfl)
        replace Ru:=aa.mk (Ru.out.below (kn (Below.refl _ wz)));replace Su:=aa.mk (Kd.Ga Su.out);replace vr:=aa.mk (Kd.Ga vr.out);clear hb0 vn Fk Vr hb4 Js hq1 Ur uu tu fy hy;obtain ⟨cs2,GG,hM2,Kx,IG⟩:=Kd.Uh vr.out Sm (m:Int) m0 m1
        have hx2:((kl.map (Tg pl)).take m ++ kl.drop m).getD (Int.toNat (m:Int)) Sm=x:=by
         have:=bE.out;rw [Int.toNat_natCast,List.getD_eq_getElem?_getD,List.getElem?_append_right (by rw [List.length_take];omega),List.length_take,List.length_map,Nat.min_eq_left (by omega),Nat.sub_self,S6.out]
         rfl
        rw [hx2] at hM2;have tO:=jf hM2;subst tO;have CH:=aa.mk (Kd.Dp (ok:=fun _=>True) (tn:=fun _=>False) vr.out (m:Int) m0 m1 (seg:=[.int .i64 (rd pl x.f4)]) (j:=4) GG Kx (show 4 + 1 ≤ 5 by decide) (x':=⟨x.f0,x.f1,x.f2,x.f3,rd pl x.f4⟩) (Ag _ _ _ _) (fun _ hk=>hk.elim));have Lz:=Kx 4 _ rfl;have nS:=IG 4;simp only [Int.toNat_natCast,show (bg).sz=5 from rfl] at Lz nS;have Q6:=aa.mk (Kx);clear Kx IG GG hM2 hx2
        change wpList _ _ _ _ _ wz.drew
        generalize wz.drew=wd at Ru Su vr CH Lz nS Q6 ⊢;go_wp2
        go_roundg (kl.length - (m + 1))
        case measure=>have:=bE.out;omega
        case rel =>
         obtain ⟨s1,s2⟩:=CH.out;rw [HST.out,← NU.out] at s1;simp only [Int.toNat_natCast,show (bg).sz=5 from rfl] at s1 s2;exact ⟨m + 1,by have:=bE.out;omega,by have:=bE.out;omega,by rw [kE bE.out ML.out],⟨Ru.out.grown s2 (fun k e=>by cases e;exact w_)⟩,⟨Kd.Qd Su.out (v:=.slice (some ⟨g,0,none⟩) kl.length d3) (Kd.Dc vr.out) (by decide) s2⟩,⟨s1⟩⟩
       ·go_upto_region 19 with (fail)
        go_still_tail 10,(by kernel_rfl)
        replace Ru:=aa.mk (Ru.out.below (kn (Below.refl _ wz)));replace Su:=aa.mk (Kd.Ga Su.out);replace vr:=aa.mk (Kd.Ga vr.out);clear hb0 vn Fk Vr hb4 Js hq1 Ur uu tu fy hy;obtain ⟨cs2,GG,hM2,Kx,IG⟩:=Kd.Uh vr.out Sm (m:Int) m0 m1
        have hx2:((kl.map (Tg pl)).take m ++ kl.drop m).getD (Int.toNat (m:Int)) Sm=x:=by
         have:=bE.out;rw [Int.toNat_natCast,List.getD_eq_getElem?_getD,List.getElem?_append_right (by rw [List.length_take];omega),List.length_take,List.length_map,Nat.min_eq_left (by omega),Nat.sub_self,S6.out]
         rfl
        rw [hx2] at hM2;have tO:=jf hM2;subst tO;have CH:=aa.mk (Kd.Dp (ok:=fun _=>True) (tn:=fun _=>False) vr.out (m:Int) m0 m1 (seg:=[.int .i64 (rd pl x.f4)]) (j:=4) GG Kx (show 4 + 1 ≤ 5 by decide) (x':=⟨x.f0,x.f1,x.f2,x.f3,rd pl x.f4⟩) (Ag _ _ _ _) (fun _ hk=>hk.elim));have Lz:=Kx 4 _ rfl;have nS:=IG 4;simp only [Int.toNat_natCast,show (bg).sz=5 from rfl] at Lz nS;have Q6:=aa.mk (Kx);clear Kx IG GG hM2 hx2
        change wpList _ _ _ _ _ wz.drew
        generalize wz.drew=wd at Ru Su vr CH Lz nS Q6 ⊢;go_wp2
        go_roundg (kl.length - (m + 1))
        case measure=>have:=bE.out;omega
        case rel =>
         obtain ⟨s1,s2⟩:=CH.out;rw [HST.out,← NU.out] at s1;simp only [Int.toNat_natCast,show (bg).sz=5 from rfl] at s1 s2;exact ⟨m + 1,by have:=bE.out;omega,by have:=bE.out;omega,by rw [kE bE.out ML.out],⟨Ru.out.grown s2 (fun k e=>by cases e;exact w_)⟩,⟨Kd.Qd Su.out (v:=.slice (some ⟨g,0,none⟩) kl.length d3) (Kd.Dc vr.out) (by decide) s2⟩,⟨s1⟩⟩
      ·rw [W3] at NU;go_wp2
       go_roundg (kl.length - (m + 1))
       case measure=>omega
       case rel=>exact ⟨m + 1,by have:=bE.out;omega,by have:=bE.out;omega,by rw [kE bE.out ML.out],Ru,Su,⟨by rw [NU.out,← S6.out];exact vr.out⟩⟩
     ·have yR:decide ((m:Int) < (kl.length:Int))=false:=decide_eq_false (by omega);obtain rfl:m=kl.length:=by omega
      have HVF:=aa.mk (show Kd.R bg 67 wr N (fun _=>True) (.slice B3 kl.length d3) (kl.map (Tg pl)) from by
       have h:=HV.out;rw [List.drop_length,List.append_nil,List.take_of_length_le (by rw [List.length_map];omega)] at h
       exact h)
      have HZ:=aa.mk HP.out.2.2.1;have HNB:=aa.mk HP.out.2.2.2.2.2.2.2.2.2.2.2.2.2.1;obtain ⟨⟨Js,hq1,Ur,uu⟩,tu⟩:=HP.out.MC;have hz0:=(ya HZ.out 0).trans rfl;have hz1:=(ya HZ.out 1).trans rfl;have hz2:=(ya HZ.out 2).trans rfl;have hz3:=(ya HZ.out 3).trans rfl;have O0:=ia HZ.out 0;have M0:=ia HZ.out 1;have L0:=ia HZ.out 2;have K0:=ia HZ.out 3;clear HV HL;go_wp2;have z0:=HZ.out;have z1:=ji z0 0 (.slice B0 r1.length d0);have z2:=ji z1 1 (.int .i64 r2);have z3:=ji z2 2 (.int .i64 r3);refine bodyPost_ret (results_cell_row rfl _ _ (w.heap.size + 1) 30 #[.slice B0 r1.length d0,.int .i64 r2,.int .i64 r3,.slice B3 kl.length d3] (0,0) _ rfl (ji z3 3 (.slice B3 kl.length d3)) Try.underlying30 rfl (by kernel_rfl)) rfl ?_;rw [HKE.out,HPE.out];refine ⟨_,_,rfl,Kd.jb (Kd.Ah (Kd.Ah (Kd.Ah (Kd.Ah HP.out.2.2.2.2.1 z0 (by decide) 0 _) z1 (by decide) 1 _) z2 (by decide) 2 _) z3 (by decide) 3 _) (fun _ _=>trivial),Kd.ke (Kd.Ah (Kd.Ah (Kd.Ah (Kd.Ah HVF.out z0 (by decide) 0 _) z1 (by decide) 1 _) z2 (by decide) 2 _) z3 (by decide) 3 _) HNB.out,(((HP.out.1.setCell (Nat.le_succ _) _).setCell (Nat.le_succ _) _).setCell (Nat.le_succ _) _).setCell (Nat.le_succ _) _⟩
end Go.Proofs.Ytoomcmaifgkkfaa.P
end
