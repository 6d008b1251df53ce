import Derived.Shelf.Abstract
import Derived.Outline
import Derived.RegionTactic
import Derived.Test.YtoomcmaifgkkfaaQRules1
import Derived.Test.YtoomcmaifgkkfaaQRules5
import Derived.Test.YtoomcmaifgkkfaaQRules6
import Derived.Test.YtoomcmaifgkkfaaQRules8
import Derived.Test.YtoomcmaifgkkfaaQRules2
import Derived.Test.YtoomcmaifgkkfaaQRules4
import Derived.Test.YtoomcmaifgkkfaaQRules3
set_option maxHeartbeats 8000000
set_option maxRecDepth 100000
section
namespace Go.Proofs.Ytoomcmaifgkkfaa.P
open Go.RowKit Go.Proofs.Ia.Qb Go.Proofs.Ia.Od Go.Proofs.Ia.Re
set_option linter.unusedVariables false
set_option linter.unusedSimpArgs false
noncomputable def Jg.f (Oa:List Int) (La:Int) (Pa:Int) (Ja:Int) (Fa:List (zf)):Option (List (List Int)):=open Classical in if Yf Fa then some (zk Fa) else none
noncomputable def SoE (bs:List zf) (D:List (List Int)) (i:Nat):Prop:=∀ b ∈ (Wc bs).take i,∀ t ∈ ji bs b.toNat,OkE D b.toNat t.toNat
def SoJ (D:List (List Int)) (b:Nat) (ts:List Int) (j:Nat):Prop:=∀ t ∈ ts.take j,OkE D b t.toNat
theorem SoE.next {bs:List zf} {D:List (List Int)} {i:Nat} (h:SoE bs D i) (hi:i < (Wc bs).length) (hj:SoJ D ((Wc bs)[i]).toNat (ji bs ((Wc bs)[i]).toNat) (ji bs ((Wc bs)[i]).toNat).length):SoE bs D (i + 1):=by
 intro b hb t ht;rw [List.take_succ_eq_append_getElem hi,List.mem_append,List.mem_singleton] at hb
 rcases hb with hb|hb
 ·exact h b hb t ht
 ·subst hb;exact hj t (by rw [List.take_length];exact ht)
theorem SoJ.next {D:List (List Int)} {b:Nat} {ts:List Int} {j:Nat} (h:SoJ D b ts j) (hj:j < ts.length) (ho:OkE D b (ts[j]).toNat):SoJ D b ts (j + 1):=by
 intro t ht;rw [List.take_succ_eq_append_getElem hj,List.mem_append,List.mem_singleton] at ht
 rcases ht with ht|ht
 ·exact h t ht
 ·subst ht;exact ho
structure T2 (bs:List zf) (D:List (List Int)) (m:Nat) (a:Bool) (i:Nat):Prop where
 inv:vV bs D
 le:gy D ≤ m
 lt:a=true→gy D < m
 so:a=false→SoE bs D i
theorem T2.keep {bs:List zf} {D:List (List Int)} {m:Nat} {a:Bool} {i:Nat} (h:T2 bs D m a i) (hE:Yf bs) (hi:i < (Wc bs).length) {t:Int} (ht:t ∈ ji bs ((Wc bs)[i]).toNat)
  (hlt:(ql D ((Wc bs)[i]).toNat t.toNat).length < (Ml D t.toNat).length):T2 bs (D.set t.toNat (ql D ((Wc bs)[i]).toNat t.toNat)) m true i:=by
 obtain ⟨x0,xr⟩:=(Tg hE _).1 (List.getElem_mem hi);obtain ⟨t0,t1⟩:=hE.2.2 _ (yp hE xr) t ht;have hs:=GF D t.toNat (ql D ((Wc bs)[i]).toNat t.toNat) (by rw [h.inv.len];omega);have:=h.le;exact ⟨h.inv.step hE xr ht,by omega,fun _=>by omega,fun e=>by cases e⟩
theorem DM {P:Nat→Prop} {w1:World} {base n B:Nat} {v:Value} (h:Kd.S (Kd.slice 3 (Kd.int .i64)) 22 w1 base P v (List.replicate ((n:Int)).toNat [])) (hn:0 < n) (hat:∃ b,v.ownBlock=some b∧B ≤ b) :
  ∃ g cap,v = .slice (some ⟨g,0,none⟩) n cap∧B ≤ g∧g < w1.heap.size∧Kd.S (Kd.slice 3 (Kd.int .i64)) 22 w1 base P (.slice (some ⟨g,0,none⟩) n cap) (List.replicate n []):=by
 rw [Int.toNat_natCast] at h;obtain ⟨g,cap,hv,hb,hl,-⟩:=Kd.gF h (by rw [List.length_replicate];exact hn);rw [List.length_replicate] at hv;obtain ⟨b,h1,h2⟩:=hat;rw [hv] at h1;obtain rfl:g=b:=by simpa [Value.ownBlock] using h1
 exact ⟨g,cap,hv,h2,hl,hv ▸ h⟩
theorem YA.fresh {w wA wd w1:World} {b4 g cap n:Nat} {D:List (List Int)} {ok:Nat→Prop} {v:Value} {xs:List Int} (h:YA w wA b4 g cap n D wd) (ho:Kd.R (Kd.int .i64) 3 w1 wd.heap.size ok v xs):Kd.R (Kd.int .i64) 3 w1 w.heap.size (fun k=>k ≠ b4∧wd.heap.size ≤ k) v xs :=
 Kd.Qe (Kd.Jc (Kd.Oh ho) (fun k hk=>⟨by have:=h.blt;have:=hk.2.1;omega,hk.2.1⟩)) h.bl.size
theorem NF {bs:List zf} (hE:Yf bs) {i:Nat} (hi:i < (Wc bs).length) {A:Option Addr} {W:World} (hC:Kd.C (Kd.int .i64) W A (Wc bs).length (Wc bs)) :
  ∃ (ad:Addr) (b:Nat),A=some ad∧(Wc bs)[i]=(b:Int)∧b < bs.length∧Ln (ji bs) b∧W.cell? (ad.add i)=some (.int .i64 (b:Int)):=by
 obtain ⟨x0,xr⟩:=(Tg hE _).1 (List.getElem_mem hi);obtain ⟨ad,e1,hx⟩:=Kd.Ef hC (i:Int) (by omega) (by omega);rw [Int.toNat_natCast,zl hi] at hx;exact ⟨ad,((Wc bs)[i]).toNat,e1,(Int.toNat_of_nonneg x0).symm,yp hE xr,xr,by rw [Int.toNat_of_nonneg x0];exact hx⟩
theorem uY {w wA jl cx:World} {TN b4 q9 g cap n b tn ck:Nat} {D:List (List Int)} {Ak:Option Addr} {ok:Nat→Prop} (h:YA w wA b4 g cap n D jl) (h11:jl.heap[TN]? = some (.cells #[.int .i64 (tn:Int)] 3 (0,0))) (h9:jl.heap[q9]? = some (.cells #[.int .i64 (b:Int)] 3 (0,0)))
  (sN:b < n) (hbd:Below jl.heap.size jl cx) (ho:Kd.R (Kd.int .i64) 3 cx jl.heap.size ok (.slice Ak (Ml D tn).length ck) (Ml D tn)) :
  Calls Try.prog 74 #[.slice Ak (Ml D tn).length ck,.func (.func 109) #[] #[.pointer (some ⟨TN,0,none⟩),.pointer (some ⟨b4,0,none⟩),.pointer (some ⟨q9,0,none⟩)]] cx fun e w'=>e = .returned (.slice Ak (ql D b tn).length ck)∧Kd.R (Kd.int .i64) 3 w' jl.heap.size (fun _=>True) (.slice Ak (ql D b tn).length ck) (ql D b tn)∧Below jl.heap.size jl w':=by
 have hown:∀ k,(Value.slice Ak (Ml D tn).length ck).ownBlock=some k→jl.heap.size ≤ k:=Kd.xh ho;have S5:=Kd.Lab h.row hbd;refine (WG 109 #[.pointer (some ⟨TN,0,none⟩),.pointer (some ⟨b4,0,none⟩),.pointer (some ⟨q9,0,none⟩)] (Mw D b tn) (enters_of Try.func109 (by kernel_rfl) rfl) (fun k=>some k=(Value.slice Ak (Ml D tn).length ck).ownBlock) Ak ck (Ml D tn) jl.heap.size jl cx hbd hbd.size (Kd.Fq rfl ho) (fun W x hk=>?_)).mono ?_
 ·have Ial:=Kd.Ix S5 hk (fun k hk e=>by have:=hown k e.symm;have:=hk.2;omega);obtain ⟨A,c,hc,-,hl,hC⟩:=lH Ial sN;have hne:∀ q,q < jl.heap.size→¬ some q=(Value.slice Ak (Ml D tn).length ck).ownBlock:=fun q hq e=>by have:=hown q e.symm;omega
  exact aI TN b4 q9 g n cap b tn D A c x W sN
   ((ja (Nh (Va h11 hbd) hk (hne _ (Qc h11))) 0).trans rfl) ((ja (Nh (Va h.v hbd) hk (hne _ h.blt)) 0).trans rfl) ((ja (Nh (Va h9 hbd) hk (hne _ (Qc h9))) 0).trans rfl) hc hl hC
 ·rintro e w' ⟨he,hr,hb,-⟩;exact ⟨he,Kd.Jc hr (fun _ _=>trivial),hb⟩
theorem zR {bs:List zf} {D:List (List Int)} (h:vV bs D) (hn:bs.length ≤ 1048576) (k:Nat):(Ml D k).length ≤ 1048576:=by
 obtain ⟨q,hq⟩:=h.fil k;rw [hq];exact Nat.le_trans (List.length_filter_le _ _) (Nat.le_trans (Hl bs) hn)
theorem XR {bs:List zf} (hE:Yf bs) {b j:Nat} (hb:b < bs.length) (hj:j < (ji bs b).length) {A:Option Addr} {W:World} (hC:Kd.C (Kd.int .i64) W A (ji bs b).length (ji bs b)) :
  ∃ (ad:Addr) (t:Nat),A=some ad∧(ji bs b)[j]=(t:Int)∧t < bs.length∧W.cell? (ad.add j)=some (.int .i64 (t:Int)):=by
 obtain ⟨t0,t1⟩:=hE.2.2 b hb _ (List.getElem_mem hj);obtain ⟨ad,e1,hx⟩:=Kd.Ef hC (j:Int) (by omega) (by omega);rw [Int.toNat_natCast,zl hj] at hx;exact ⟨ad,((ji bs b)[j]).toNat,e1,(Int.toNat_of_nonneg t0).symm,by omega,by rw [Int.toNat_of_nonneg t0];exact hx⟩
theorem Jg.calls (xb:Option Addr) (qb:Nat) (Oa:List Int) (La:Int) (Pa:Int) (Ja:Int) (Pb:Option Addr) (Gb:Nat) (Fa:List (zf)) (r:List (List Int)) (w:World) (xe:Kd.C (Kd.int .i64) w xb Oa.length Oa) (we:Oa.length ≤ qb) (Wf:Kd.C Bp w Pb Fa.length Fa) (Uf:Fa.length ≤ Gb) (h:Jg.f Oa La Pa Ja Fa=some r) :
  Calls Try.prog 82 #[.agg #[.slice xb Oa.length qb,.int .i64 La,.int .i64 Pa,.int .i64 Ja,.slice Pb Fa.length Gb]] w fun e w'=>∃ vn:Value,e = .returned (vn)∧Kd.S (Kd.slice 3 (Kd.int .i64)) 22 w' w.heap.size (fun _=>True) vn r∧Below w.heap.size w w':=by
 unfold Jg.f at h
 by_cases hE:Yf Fa
 case neg=>rw [if_neg hE] at h;cases h
 rw [if_pos hE] at h;obtain rfl:=Option.some.inj h;clear h;obtain ⟨R,hR,hRl,hRa⟩:=LP (l0:=Oa) (p:=La) (v:=Pa) (s:=Ja) hE;obtain ⟨ko,hko⟩:=Ev.rounds hR;have HO_:=ga.mk hko
 have HRA:=ga.mk (show Zh.f R=some (Wc Fa) from by
  unfold Zh.f
  rw [if_pos (by have:=hE.2.1;omega),hRa])
 have HE:=ga.mk hE;have hn0:0 < Fa.length:=hE.1;have hn1:Fa.length ≤ 1048576:=hE.2.1;have HML:=ga.mk (Hl Fa);have HN:=ga.mk (And.intro hn0 hn1);clear hR hRl hRa hko hE;obtain ⟨W1,mg⟩:∃ W1,W1=w.alloc (.cells #[.slice xb Oa.length qb,.int .i64 La,.int .i64 Pa,.int .i64 Ja,.slice Pb Fa.length Gb] 45 (0,0)):=⟨_,rfl⟩;have HW:=ga.mk mg;have HB:=ga.mk (show Below w.heap.size w W1 by rw [mg];exact oa (Below.refl _ _) _);have HX:=ga.mk (show W1.heap[w.heap.size]? = some (.cells #[.slice xb Oa.length qb,.int .i64 La,.int .i64 Pa,.int .i64 Ja,.slice Pb Fa.length Gb] 45 (0,0)) by rw [mg];exact Xo _ _);have fl:=ga.mk xe;have IV:=ga.mk Wf;have SX:=ga.mk we;have RX:=ga.mk Uf;have hx0:=(ja HX.out 0).trans rfl;have hx1:=(ja HX.out 1).trans rfl;have hx2:=(ja HX.out 2).trans rfl;have oy:=(ja HX.out 3).trans rfl;have ax:=(ja HX.out 4).trans rfl;clear mg xe Wf we Uf hn0 hn1;go_enter Try.func82,Try.ntmps82
 go_upto_region 1 with (fail)
 rw [← HW.out];clear HW
 go_upto_region 2 with (first|(go_at_call 78;(with_reducible refine (Zc.calls ko xb qb Oa La Pa Ja Pb Gb Fa R W1 (Kd.Mb fl.out HB.out) SX.out (Kd.Mb IV.out HB.out) RX.out HO_.out).mono ?_);rintro e w2 ⟨v2,rfl,ho,hb⟩;have HO2:=ga.mk ho;have br:=ga.mk (Qa HB.out hb);have TQ:=ga.mk hb;have HX2:=ga.mk (Va HX.out hb);clear ho hb hx0 hx1 hx2 oy ax)|(go_at_call 86;(with_reducible refine (Zh.calls (fun _=>True) v2 R (Wc Fa) W1 w2 TQ.out HO2.out HRA.out).mono ?_);rintro e w3 ⟨v3,rfl,ho,hb,hk⟩;obtain ⟨Ar,cr,rfl⟩:=Kd.Jd ho;have bC:=ga.mk ho;have xN:=ga.mk (Qa HB.out hb);have HX3:=ga.mk (Va HX.out hb);clear ho hb hk))
 have XX:=ga.mk (Kd.Tb bC.out).2.2;have hrl:(Wc Fa).length ≤ 1048576:=Nat.le_trans HML.out HN.out.2;clear bC HO2 br TQ HX2 HO_ HRA HX HB;have ax:=(ja HX3.out 4).trans rfl;have HMK:=ga.mk (show ((Fa.length:Int)).toNat * 24 ≤ 281474976710656 from by have:=HN.out;omega);have h0n:(0:Int) ≤ (Fa.length:Int):=by omega
 go_upto_region 3 with (first|((with_reducible refine Db (N:=19) rfl ?_);refine Kd.uQ (Kd.slice 3 (Kd.int .i64)) (w0:=w) w.heap.size 22 rfl (N:=19) rfl 53 _ _ rfl (Fa.length:Int) rfl rfl Try.underlying53 (.slice none 0 0) 24 sO rfl (by decide) (by omega) [] (ok:=fun _=>True) (Gh:=fun _=>True) ⟨_,rfl,Kd.cy _ _ _ _ _⟩ (fun _ hk=>hk) trivial h0n HMK.out xN.out xN.out.size ?_;intro v4 w4 hs hb hg hat;obtain ⟨g,cap,rfl,hgb,vW,hs⟩:=DM hs HN.out.1 hat;have HS4:=ga.mk hs;have ZX:=ga.mk hb;have RQ:=ga.mk hg;have PV:=ga.mk hgb;have HGL:=ga.mk vW;clear hs hb hg hat hgb vW))
 have naa:Below w3.heap.size w3 w4:=(Below.refl _ w3).grown RQ.out (Nat.le_refl _) (fun k e=>by cases e);have hb5:=oa (Below.refl w4.heap.size w4) (.cells #[.slice (some ⟨g,0,none⟩) Fa.length cap] 53 (0,0));have hv5:=Xo w4 (.cells #[.slice (some ⟨g,0,none⟩) Fa.length cap] 53 (0,0));generalize w4.alloc (.cells #[.slice (some ⟨g,0,none⟩) Fa.length cap] 53 (0,0))=wA at hb5 hv5 ⊢;have HBA:=ga.mk (Qa naa hb5);have HXA:=ga.mk (Va HX3.out HBA.out);have HBL:=ga.mk (show Below w.heap.size w wA from IA xN.out xN.out.size HBA.out);have HCR:=ga.mk (fun W' hk=>Kd.Nr (S:=fun k=>k=g) (Kd.Ui .i64) XX.out HBA.out (fun k e=>e ▸ PV.out) W' hk);have HS:=ga.mk (show YA w wA w4.heap.size g cap Fa.length (List.replicate Fa.length []) wA from ⟨HBL.out,Kept.refl _ _,hv5,Kd.Bg (Kd.Le (Kd.wQ HS4.out w4.heap.size (Nat.le_refl _)) hb5) (fun k hk=>hk.2),by have:=HGL.out;omega,Nat.le_trans xN.out.size PV.out⟩);have HNX:=ga.mk (show w.heap.size ≠ g from by have:=Qc HX3.out;have:=PV.out;omega);have HI:=ga.mk (mF.start Fa);clear naa hb5 hv5 HS4 ZX RQ HGL HX3 XX xN h0n HMK ax;generalize w4.heap.size=b4 at HS ⊢;go_wp2
 go_loopg [22] (Wc Fa).length (fun gg v22 wr=>∃ (i:Nat) (D:List (List Int)),i ≤ (Wc Fa).length∧(Wc Fa).length - i ≤ gg∧v22 = .int .i64 i∧ga (mF Fa i D)∧ga (YA w wA b4 g cap Fa.length D wr))
 case atStart=>exact ⟨0,_,Nat.zero_le _,by omega,rfl,HI,HS⟩
 case round =>
  clear HI HS;(try clear D);(try clear HI);(try clear HS);obtain ⟨i,D,hi,hgg,rfl,HI,HS⟩:=hrel
  by_cases hlt:i < (Wc Fa).length
  ·have KC:decide ((i:Int) < ((Wc Fa).length:Int))=true:=decide_eq_true (by omega);have p1:0 ≤ (i:Int):=by omega
   have p2:(i:Int) < ((Wc Fa).length:Int):=by omega
   obtain ⟨ad,b,e1,hb,sN,hbr,hx⟩:=NF HE.out hlt (HCR.out wr HS.out.k);subst e1;have HNI:=ga.mk (HI.out.next HE.out hlt);rw [hb,Int.toNat_natCast] at HNI;have q1:0 ≤ (b:Int):=by omega
   have q2:(b:Int) < (Fa.length:Int):=by omega
   clear hb hbr
   go_upto_region 6 with (fail)
   have HD:=ga.mk (HS.out.below (Kn (Below.refl wr.heap.size wr)));clear HS HI hx;refine xk (n:=7) (S:=fun w'=>w'.cell? ⟨b4,0,none⟩=some (.slice (some ⟨g,0,none⟩) Fa.length cap)) (ds:=[6]) #[false,false,false,false,false,false,false] (by kernel_rfl) rfl rfl (HD.out.cell) (fun hHeld=>?_);generalize wr.drew=wd at HD hHeld ⊢;refine od (i:=1) (N:=some 27) (v:=?_) (a':=?_) #[false,true,false,false,false,false,false] rfl rfl (by kernel_rfl) (fun _ _ _ h=>h) (Or.inl ⟨by rfl,?_⟩) ?_ ?_;rotate_left
   ·intro w';go_simp;with_reducible rfl
   rotate_left
   ·simp only [Act.put,List.setIfInBounds_toArray,List.set_cons_zero,List.set_cons_succ,dc,ec]
    rfl
   refine od (i:=3) (N:=some 29) (v:=?_) (a':=?_) #[false,true,false,true,false,false,false] rfl rfl (by kernel_rfl) (fun _ _ _ h=>h) (Or.inl ⟨by rfl,?_⟩) ?_ ?_;rotate_left
   ·intro w';go_simp;with_reducible rfl
   rotate_left
   ·simp only [Act.put,List.setIfInBounds_toArray,List.set_cons_zero,List.set_cons_succ,dc,ec]
    rfl
   refine Ug (i:=0) (N:=some 26) (v:=?_) (a':=?_) #[true,true,false,true,false,false,false] rfl rfl (by kernel_rfl) (fun _ _ _ h=>h) (Or.inl ⟨by rfl,?_⟩) hHeld ?_ ?_;rotate_left
   ·intro w' s0;go_simp;with_reducible rfl
   rotate_left
   ·simp only [Act.put,List.setIfInBounds_toArray,List.set_cons_zero,List.set_cons_succ,dc,ec]
    rfl
   refine Yu (i:=2) (N:=some 28) #[true,true,true,true,false,false,false] rfl rfl (by kernel_rfl) (by decide) (fun K hK=>?_);refine nY (w1:=?_) (v:=?_) (by rfl) rfl ?_ ?_;rotate_left 2
   ·go_simp
    constructor
    ·rfl
    ·rfl
   refine hK.out _ _ ((HD.out.below (oa (Below.refl _ _) _)).cell) (fun hHeld=>?_);clear hK K;refine Wn (a':=?_) ?_ ?_;rotate_left
   ·show Act.put _ (some 28) _=_
    simp only [Act.put,List.setIfInBounds_toArray,List.set_cons_zero,List.set_cons_succ,dc,ec]
    rfl
   refine Yu (i:=4) (N:=some 30) #[true,true,true,true,true,false,false] rfl rfl (by kernel_rfl) (by decide) (fun K hK=>?_);refine Kd.Mu (Kd.int .i64) (w0:=wd) wd.heap.size (by rfl) (.tmp 28) (.tmp 29) 22 3 (.int .i64 0) 8 rfl Try.underlying22 info3 rfl (by decide) (by omega) (.slice (some ⟨wd.heap.size,0,none⟩) 0 0) [] (Wc Fa) (some ad) (Wc Fa).length cr (fun _=>True) (fun _=>False) rfl rfl (dM (Kd.int .i64) 3 wd wd.heap.size (Nat.le_refl _)) ?aR (fun _ _ h=>h) (fun _ hk=>hk.elim) (fun _ _=>trivial) (oa (Below.refl _ _) _) (oa (Below.refl _ _) _).size ?aL ?_
   (case aR=>exact HCR.out _ (HD.out.below (oa (Below.refl _ _) _)).k)
   (case aL=>have:=HML.out;have:=HN.out.2;simp;omega)
   intro v1 w1 ho Qp VA hat;rw [List.nil_append] at ho;clear VA hat;obtain ⟨A1,c1,rfl⟩:=Kd.Jd ho;have C5:=ga.mk (HD.out.below Qp);have HP:=ga.mk (HD.out.put Qp sN (HD.out.fresh ho));clear ho Qp;refine hK.out _ _ (C5.out.cell) (fun hHeld=>?_);clear hK K;refine Wn (a':=?_) ?_ ?_;rotate_left
   ·show Act.put _ (some 30) _=_
    simp only [Act.put,List.setIfInBounds_toArray,List.set_cons_zero,List.set_cons_succ,dc,ec]
    rfl
   refine od (i:=5) (N:=some 31) (v:=?_) (a':=?_) #[true,true,true,true,true,true,false] rfl rfl (by kernel_rfl) (fun _ _ _ h=>h) (Or.inl ⟨by rfl,?_⟩) ?_ ?_;rotate_left
   ·intro w';go_simp;with_reducible rfl
   rotate_left
   ·simp only [Act.put,List.setIfInBounds_toArray,List.set_cons_zero,List.set_cons_succ,dc,ec]
    rfl
   refine mO (i:=6) (N:=none) #[true,true,true,true,true,true,true] rfl rfl (by kernel_rfl) (by decide) (fun K hK=>?_);obtain ⟨Ao,co,hc,hf,-,-⟩:=C5.out.at sN;refine MN (w1:=?_) (by rfl) rfl ?_ ?_;rotate_left
   ·go_simp
    rfl
   refine hK.out _ _ ?_;clear hK K;refine Wo (by kernel_rfl) ?_;clear hHeld;go_wp2
   go_roundg ((Wc Fa).length - (i + 1))
   case measure=>omega
   case rel=>exact ⟨i + 1,_,by omega,by omega,by go_num,HNI,HP⟩
  ·have KC:decide ((i:Int) < ((Wc Fa).length:Int))=false:=decide_eq_false (by omega);obtain rfl:i=(Wc Fa).length:=by omega
   have zX:=ga.mk (HI.out.go HE.out);have hv:=HS.out.cell;obtain ⟨A0,c0,WM,E9,-,-⟩:=HS.out.at (i:=0) HN.out.1;have q0:(0:Int) < (Fa.length:Int):=by have:=HN.out.1;omega
   have s1:=HS.out.glt;have s2:=HS.out.blt;have hp:=HS.out.put (oa (Below.refl _ _) (.cells #[.int .i64 0] 3 (0,0))) HN.out.1 (HS.out.fresh (Oab wr wr.heap.size 0 (Nat.le_refl _)));rw [World.setCell_alloc_past _ _ _ _ s1] at hp;have HP:=ga.mk hp;clear hp
   go_upto_region 9 with (fail)
   clear HI HS hv WM E9 s1 s2 q0 KC hlt hgg hi;generalize (wr.setCell ⟨g,0,none⟩ (.slice (some ⟨wr.heap.size,0,none⟩) 1 1)).alloc (.cells #[.int .i64 0] 3 (0,0))=w8 at HP ⊢;generalize D.set 0 [0]=D at zX HP;go_wp2
   go_loopg [7] (gy D + 1) (fun gg v7 wr=>∃ (D:List (List Int)) (a:Bool),v7 = .bool a∧gy D + (if a=true then 1 else 0) ≤ gg∧ga (vV Fa D)∧ga (a=false→SoE Fa D (Wc Fa).length)∧ga (YA w wA b4 g cap Fa.length D wr))
   case atStart=>exact ⟨_,true,rfl,by simp,zX,⟨fun e=>by cases e⟩,HP⟩
   case round =>
    clear zX HP;(try clear D);(try clear zX);(try clear F3);(try clear HS);obtain ⟨D,a,rfl,hgg,zX,F3,HS⟩:=hrel;cases a with
    | false =>
     have HDE:=ga.mk (zX.out.done HE.out (fun b hb t ht=>by
      have h:=F3.out rfl (b:Int) (by rw [List.take_length];exact (Tg HE.out _).2 ⟨by omega,by rw [Int.toNat_natCast];exact hb⟩) t (by rw [Int.toNat_natCast];exact ht)
      rwa [Int.toNat_natCast] at h))
     have hv:=HS.out.cell;go_wp2;go_ret;exact ⟨_,rfl,by rw [← HDE.out];exact Kd.Bg HS.out.row (fun _ _=>trivial),HS.out.bl⟩
    | true =>
     have e7:=hgg;rw [if_pos rfl] at e7;have HJ:=ga.mk (show T2 Fa D (gy D) false 0 from ⟨zX.out,Nat.le_refl _,(fun e=>by cases e),(fun _ b hb=>by simp at hb)⟩);clear zX F3 hgg;generalize gy D=m0 at HJ e7;go_wp2
     go_loopg [7,39] (Wc Fa).length (fun g3 v7 v39 wr=>∃ (i:Nat) (D:List (List Int)) (a:Bool),v7 = .bool a∧v39 = .int .i64 i∧i ≤ (Wc Fa).length∧(Wc Fa).length - i ≤ g3∧ga (T2 Fa D m0 a i)∧ga (YA w wA b4 g cap Fa.length D wr))
     case atStart=>exact ⟨0,_,false,rfl,rfl,Nat.zero_le _,by omega,HJ,HS⟩
     case round =>
      clear HJ HS;(try clear D);(try clear HJ);(try clear HS);obtain ⟨i,D,a,rfl,rfl,hi,JH,HJ,HS⟩:=hrel
      by_cases hlt:i < (Wc Fa).length
      ·have KC:decide ((i:Int) < ((Wc Fa).length:Int))=true:=decide_eq_true (by omega);have p1:0 ≤ (i:Int):=by omega
       have p2:(i:Int) < ((Wc Fa).length:Int):=by omega
       obtain ⟨ad,b,e1,hb,sN,hbr,hx⟩:=NF HE.out hlt (HCR.out wr HS.out.k);subst e1;have HRB:=ga.mk hb;clear hb hbr
       go_upto_region 15 with (fail)
       have hb9:=oa (Below.refl wr.heap.size wr) (.cells #[.int .i64 (b:Int)] 3 (0,0));have hv9:=Xo wr (.cells #[.int .i64 (b:Int)] 3 (0,0));generalize wr.alloc (.cells #[.int .i64 (b:Int)] 3 (0,0))=w9 at hb9 hv9 ⊢;have HS9:=ga.mk (HS.out.below hb9);have HQ9:=ga.mk hv9;have HN9:=ga.mk (show wr.heap.size ≠ g from by have:=HS.out.glt;omega);clear hb9 hv9 HS hx;generalize wr.heap.size=q9 at HQ9 HN9 ⊢;have hq9:=(ja HQ9.out 0).trans rfl;have ax:=(ja (Nh HXA.out HS9.out.k HNX.out) 4).trans rfl;obtain ⟨ag,Ac,cc,e1,hc0,hc1,KH,mR,hc4,WA,hcC⟩:=ek (Kd.Mb IV.out HS9.out.bl) (b:Int) (by omega) (by omega);subst e1;simp only [Int.toNat_natCast] at hc0 hc1 KH mR hc4;have q1:0 ≤ (b:Int):=by omega
       have q2:(b:Int) < (Fa.length:Int):=by omega
       have Yao:=ga.mk (show jg.f (Ta Fa (b:Int)).f0 (Ta Fa (b:Int)).f1 (Ta Fa (b:Int)).f2 (Ta Fa (b:Int)).f3 (Ta Fa (b:Int)).f4=some (ji Fa b) from CB _);have HCC:=ga.mk hcC;have HCL:=ga.mk WA;clear hcC WA;have htl:(ji Fa b).length ≤ 2:=Gr _;go_wp2_with (first|(go_at_call 75;(with_reducible refine (jg.calls Ac cc (Ta Fa (b:Int)).f0 (Ta Fa (b:Int)).f1 (Ta Fa (b:Int)).f2 (Ta Fa (b:Int)).f3 (Ta Fa (b:Int)).f4 (ji Fa b) w9 HCC.out HCL.out Yao.out).mono ?_);rintro e Gp ⟨v15,rfl,ho,hb⟩;obtain ⟨An,cn,rfl⟩:=Kd.Jd ho;have Fac:=ga.mk ho;have yH:=ga.mk hb;clear ho hb hc0 hc1 KH mR hc4 ax hq9));have wac:=ga.mk (HS9.out.below yH.out);have Wao:=ga.mk (Va HQ9.out yH.out);have UX:=ga.mk HS9.out.glt;have HNC:=ga.mk (fun W' hk=>Kd.yJ (S:=fun k=>k=g) (Kd.Jc (Kd.Oh Fac.out) (fun k hk=>hk.2.1)) (fun k hk e=>by have:=UX.out;omega) W' hk);have HNE:=ga.mk (rfl:ji Fa b=ji Fa b);clear HS9 Fac yH HCC HCL HQ9
       go_loopg [7,50] (ji Fa b).length (fun g4 v7 v50 wr=>∃ (j:Nat) (D:List (List Int)) (a:Bool),v7 = .bool a∧v50 = .int .i64 j∧j ≤ (ji Fa b).length∧(ji Fa b).length - j ≤ g4∧ga (T2 Fa D m0 a i)∧ga (a=false→SoJ D b (ji Fa b) j)∧ga (YA w wA b4 g cap Fa.length D wr)∧ga (Kept Gp wr (fun k=>k=g)))
       case atStart=>exact ⟨0,_,_,rfl,rfl,Nat.zero_le _,by omega,HJ,⟨fun _ t ht=>by simp at ht⟩,wac,⟨Kept.refl _ _⟩⟩
       case round =>
        clear HJ wac;(try clear D);(try clear HJ);(try clear F3);(try clear HS);(try clear HK);obtain ⟨j,D,a,rfl,rfl,hj,GH,HJ,F3,HS,HK⟩:=hrel
        by_cases hjt:j < (ji Fa b).length
        ·have ian:decide ((j:Int) < ((ji Fa b).length:Int))=true:=decide_eq_true (by omega);have r1:0 ≤ (j:Int):=by omega
         have r2:(j:Int) < ((ji Fa b).length:Int):=by omega
         obtain ⟨an,tn,e1,ht,htn,hx⟩:=XR HE.out sN hjt (HNC.out wr HK.out);subst e1;have HT:=ga.mk ht;clear ht
         go_upto_region 18 with (fail)
         have FP:=oa (Below.refl wr.heap.size wr) (.cells #[.int .i64 (tn:Int)] 3 (0,0));have YY:=Xo wr (.cells #[.int .i64 (tn:Int)] 3 (0,0));generalize wr.alloc (.cells #[.int .i64 (tn:Int)] 3 (0,0))=jl at FP YY ⊢;have sJ:=ga.mk (HS.out.below FP);have pF:=ga.mk YY;have zac:=ga.mk (Va (Nh Wao.out HK.out HN9.out) FP);have Qac:=ga.mk (HK.out.below FP);clear FP YY HS HK hx;generalize wr.heap.size=TN at pF ⊢;have xH:=ga.mk (oa (Below.refl jl.heap.size jl) (.cells #[] 3 (0,0)));obtain ⟨At,ct,j6,-,hlt',hCt⟩:=(sJ.out.below xH.out).at htn;have HCt:=ga.mk hCt;have hv4:=(sJ.out.below xH.out).cell;have l6:=(ja (Va pF.out xH.out) 0).trans rfl;have t1:0 ≤ (tn:Int):=by omega
         have t2:(tn:Int) < (Fa.length:Int):=by omega
         have HEM:=ga.mk (dM (Kd.int .i64) 3 jl jl.heap.size (Nat.le_refl _));have HLN:=ga.mk (show (([]:List Int).length + (Ml D tn).length) * 8 ≤ 140737488355328 from by have:=zR HJ.out.inv HN.out.2 tn;simp;omega);have hmf:∀ (fn:Fn) (first cap:Array Value) (w:World),(Instr.makeFunc fn first cap).run Try.prog w = .ok (.func fn first cap) w:=fun _ _ _ _=>rfl
         clear hCt
         go_upto_region 19 with (first|((with_reducible refine Db (N:=59) rfl ?_);refine Kd.Yt (Kd.int .i64) (w0:=jl) jl.heap.size rfl (.tmp 54) (.tmp 58) 22 3 (.int .i64 0) 8 rfl Try.underlying22 info3 rfl (by decide) (by omega) (.slice (some ⟨jl.heap.size,0,none⟩) 0 0) [] (Ml D tn) At (Ml D tn).length ct (fun _=>True) (fun _=>False) rfl rfl HEM.out HCt.out (fun _ _ h=>h) (fun _ hk=>hk.elim) (fun _ _=>trivial) xH.out xH.out.size HLN.out ?_;intro v19 cx ho Qp VA hat;rw [List.nil_append] at ho;obtain ⟨Ak,ck,rfl⟩:=Kd.Jd ho;have HDC:=ga.mk (uY sJ.out pF.out zac.out sN Qp ho);clear ho Qp VA hat j6 hv4 l6)|(go_at_call 74;(with_reducible refine HDC.out.mono ?_);rintro e w20 ⟨rfl,k6,oaa⟩;have yac:=ga.mk k6;have SQ:=ga.mk oaa;clear k6 oaa HDC))
         have I3:=ga.mk (sJ.out.below SQ.out);have HP:=ga.mk (sJ.out.put SQ.out htn (sJ.out.fresh yac.out));have Pac:=ga.mk (Qac.out.below SQ.out);have hv4:=I3.out.cell;have l6:=(ja (Va pF.out SQ.out) 0).trans rfl;obtain ⟨At,ct,j6,hft,-,-⟩:=I3.out.at htn;clear sJ zac Qac HEM HLN HCt xH yac hlt' pF SQ
         by_cases hk:(ql D b tn).length < (Ml D tn).length
         ·have hkb:decide (((ql D b tn).length:Int) < ((Ml D tn).length:Int))=true:=decide_eq_true (by omega);have HJN:=ga.mk (HJ.out.keep HE.out hlt (t:=(ji Fa b)[j]) (by rw [HRB.out,Int.toNat_natCast];exact List.getElem_mem hjt) (by rw [HRB.out,HT.out,Int.toNat_natCast,Int.toNat_natCast];exact hk));rw [HRB.out,HT.out,Int.toNat_natCast,Int.toNat_natCast] at HJN;have hGK:=HP.out.k;go_wp2
          go_roundg ((ji Fa b).length - (j + 1))
          case measure=>omega
          case rel=>exact ⟨j + 1,_,true,rfl,by go_num,by omega,by omega,HJN,⟨fun e=>by cases e⟩,HP,⟨Pac.out.setCell (Or.inl rfl) _⟩⟩
         ·have hkb:decide (((ql D b tn).length:Int) < ((Ml D tn).length:Int))=false:=decide_eq_false (by omega);have D4:=ga.mk (nO hk).2;clear HP;go_wp2
          go_roundg ((ji Fa b).length - (j + 1))
          case measure=>omega
          case rel=>exact ⟨j + 1,D,a,rfl,by go_num,by omega,by omega,HJ,⟨fun e=>(F3.out e).next hjt (by rw [HT.out,Int.toNat_natCast];exact D4.out)⟩,I3,Pac⟩
        ·have ian:decide ((j:Int) < ((ji Fa b).length:Int))=false:=decide_eq_false (by omega);obtain rfl:j=(ji Fa b).length:=by omega
         have HJN:=ga.mk (show T2 Fa D m0 a (i + 1) from ⟨HJ.out.inv,HJ.out.le,HJ.out.lt,fun e=>(HJ.out.so e).next hlt (by rw [HRB.out,Int.toNat_natCast];exact F3.out e)⟩);go_wp2
         go_roundg ((Wc Fa).length - (i + 1))
         case measure=>omega
         case rel=>exact ⟨i + 1,D,a,rfl,by go_num,by omega,by omega,HJN,HS⟩
      ·have KC:decide ((i:Int) < ((Wc Fa).length:Int))=false:=decide_eq_false (by omega);obtain rfl:i=(Wc Fa).length:=by omega
       have h1:=HJ.out.le;have h2:=HJ.out.lt
       have HM:=ga.mk (show gy D + (if a=true then 1 else 0) < m0 + 1 from by
        cases a with
        | false=>rw [if_neg (by simp)];omega
        | true=>have:=h2 rfl;rw [if_pos rfl];omega)
       clear h1 h2;go_wp2
       go_roundg (gy D + (if a=true then 1 else 0))
       case measure=>have:=HM.out;omega
       case rel=>exact ⟨D,a,rfl,Nat.le_refl _,⟨HJ.out.inv⟩,⟨HJ.out.so⟩,HS⟩
attribute [local go_sem] Wh Uh Fj Ej oh nh Vh Th
noncomputable def xj.f (k:Nat) (Oa:List Int) (La:Int) (Pa:Int) (Ja:Int) (Fa:List (zf)):Option ((List (List Int))):=(Xb.f k Oa La Pa Ja Fa).bind fun t102=>(if t102=true then ((Jg.f Oa La Pa Ja Fa).bind fun t103=>(some t103)) else (some ([]:List (List Int))))
theorem xj.calls (k:Nat) (xb:Option Addr) (qb:Nat) (Oa:List Int) (La:Int) (Pa:Int) (Ja:Int) (Pb:Option Addr) (Gb:Nat) (Fa:List (zf)) (r:List (List Int)) (w:World) (xe:Kd.C (Kd.int .i64) w xb Oa.length Oa) (we:Oa.length ≤ qb) (Wf:Kd.C Bp w Pb Fa.length Fa) (Uf:Fa.length ≤ Gb) (h:xj.f k Oa La Pa Ja Fa=some r) :
  Calls Try.prog 36 #[.agg #[.slice xb Oa.length qb,.int .i64 La,.int .i64 Pa,.int .i64 Ja,.slice Pb Fa.length Gb]] w fun e w'=>∃ vn:Value,e = .returned (vn)∧Kd.S (Kd.slice 3 (Kd.int .i64)) 22 w' w.heap.size (fun _=>True) vn r∧Below w.heap.size w w':=by
 have mA:=Try.underlying45;have Ue:=ga.mk xe;have af:=ga.mk we;clear xe we;have ng:=ga.mk Wf;have Xg:=ga.mk Uf;clear Wf Uf;have HB:=ga.mk (Below.refl w.heap.size w);have H:((Xb.f k Oa La Pa Ja Fa).bind fun t102=>(if t102=true then ((Jg.f Oa La Pa Ja Fa).bind fun t103=>(some t103)) else (some ([]:List (List Int)))))=some r:=h;clear h;replace H:=Option.bind_eq_some_iff.mp H;obtain ⟨t102,sF,H⟩:=H;replace H:(if t102=true then ((Jg.f Oa La Pa Ja Fa).bind fun t103=>(some t103)) else (some ([]:List (List Int))))=some r:=H;have A2:=ga.mk sF;clear sF
 by_cases c3:t102=true
 ·subst c3;have H1:((Jg.f Oa La Pa Ja Fa).bind fun t103=>(some t103))=some r:=by rw [if_pos rfl] at H;exact H
  clear H;have H:=H1;clear H1;replace H:=Option.bind_eq_some_iff.mp H;obtain ⟨t103,AH,H⟩:=H;replace H:(some t103)=some r:=H;have A4:=ga.mk AH;clear AH;obtain rfl:=Option.some.inj H;go_enter Try.func36,Try.ntmps36;go_wp2_with (first|((with_reducible refine Db (N:=1) rfl ?_);refine Jb ?hg (N:=1) ?hd (cs:=#[.slice xb Oa.length qb,.int .i64 La,.int .i64 Pa,.int .i64 Ja,.slice Pb Fa.length Gb]) (t:=45) ?hr ?_;(case hd=>rfl);(case hg=>rfl);(case hr=>first|(go_simp;done)|(go_simp;rfl));intro za hg w5 Wb hb;have Fb:=ga.mk (Qa (by repeat (first|(with_reducible first|exact HB.out|apply oa|apply ia|apply qa)|exact HB.out)) hb);have Lb:=ga.mk (Wb);have Vb:=ga.mk ((by rw [hg];exact (Ka (by repeat (first|(with_reducible first|exact HB.out|apply oa|apply ia|apply qa)|exact HB.out))):w.heap.size ≤ za));have Bc:=ga.mk ((by rw [hg];exact (Ka (by repeat (first|(with_reducible first|exact HB.out|apply oa|apply ia|apply qa)|exact HB.out))):w.heap.size ≤ za));clear HB;have HB:=Fb;have ta:=Lb;have ye:=Vb;have Sa:=Bc;clear Fb Lb Vb Bc hb Wb hg;have Gu:w5.cell? ⟨za,0,none⟩=some (.slice xb Oa.length qb):=(ja ta.out 0).trans rfl;have Fu:w5.cell? ⟨za,1,none⟩=some (.int .i64 La):=(ja ta.out 1).trans rfl;have Eu:w5.cell? ⟨za,2,none⟩=some (.int .i64 Pa):=(ja ta.out 2).trans rfl;have Du:w5.cell? ⟨za,3,none⟩=some (.int .i64 Ja):=(ja ta.out 3).trans rfl;have Cu:w5.cell? ⟨za,4,none⟩=some (.slice Pb Fa.length Gb):=(ja ta.out 4).trans rfl;have wu:=aa ta.out 0;have vu:=aa ta.out 1;have uu:=aa ta.out 2;have tu:=aa ta.out 3;have su:=aa ta.out 4)|((with_reducible refine zb (f:=71) rfl ?_);refine Dc (some 4) rfl rfl Try.func71 (by kernel_rfl) rfl #[.agg #[.slice xb Oa.length qb,.int .i64 La,.int .i64 Pa,.int .i64 Ja,.slice Pb Fa.length Gb]] rfl (by (try simp only [List.map_toArray,List.map_cons,List.map_nil]);first|done|rfl|(simp only [List.length_drop,List.length_take];rfl)) ?_;(with_reducible refine (Xb.calls k _ _ Oa La Pa Ja _ _ Fa true _ ?yc ?uc ?Ad ?yd A2.out).mono ?_);(case yc=>repeat (first|exact (Kd.Mb Ue.out HB.out)|(with_reducible refine Kd.Sb ?_ _)|(with_reducible refine Kd.Rb ?_ _)|(with_reducible refine Kd.jc ?_)));(case uc=>exact af.out);(case Ad=>repeat (first|exact (Kd.Mb ng.out HB.out)|(with_reducible refine Kd.Sb ?_ _)|(with_reducible refine Kd.Rb ?_ _)|(with_reducible refine Kd.jc ?_)));(case yd=>exact Xg.out);rintro e w7 ⟨rfl,hb⟩;refine ⟨_,rfl,?_⟩;have Fb:=ga.mk (Va (g:=za) (o:=.cells #[.slice xb Oa.length qb,.int .i64 La,.int .i64 Pa,.int .i64 Ja,.slice Pb Fa.length Gb] 45 (0,0)) (by (with_reducible repeat (first|refine Ca ?_ _|refine Ea ?_|refine Da ?_ _));exact ta.out) hb);have Lb:=ga.mk (Qa (by repeat (first|(with_reducible first|exact HB.out|apply oa|apply ia|apply qa|refine ua ?_ Sa.out)|exact HB.out)) hb);clear ta HB;have ta:=Fb;have HB:=Lb;clear Fb Lb;(try clear hb);(try clear Jj);(try clear hk);(try clear hi);have Bu:w7.cell? ⟨za,0,none⟩=some (.slice xb Oa.length qb):=(ja ta.out 0).trans rfl;have Au:w7.cell? ⟨za,1,none⟩=some (.int .i64 La):=(ja ta.out 1).trans rfl;have zu:w7.cell? ⟨za,2,none⟩=some (.int .i64 Pa):=(ja ta.out 2).trans rfl;have yu:w7.cell? ⟨za,3,none⟩=some (.int .i64 Ja):=(ja ta.out 3).trans rfl;have xu:w7.cell? ⟨za,4,none⟩=some (.slice Pb Fa.length Gb):=(ja ta.out 4).trans rfl;have ru:=aa ta.out 0;have qu:=aa ta.out 1;have ou:=aa ta.out 2;have nu:=aa ta.out 3;have lu:=aa ta.out 4)|((with_reducible refine zb (f:=82) rfl ?_);refine Dc (some 7) rfl rfl Try.func82 (by kernel_rfl) rfl #[.agg #[.slice xb Oa.length qb,.int .i64 La,.int .i64 Pa,.int .i64 Ja,.slice Pb Fa.length Gb]] rfl (by (try simp only [List.map_toArray,List.map_cons,List.map_nil]);first|done|rfl|(simp only [List.length_drop,List.length_take];rfl)) ?_;(with_reducible refine (Jg.calls _ _ Oa La Pa Ja _ _ Fa t103 _ ?yc ?uc ?Ad ?yd A4.out).mono ?_);(case yc=>repeat (first|exact (Kd.Mb Ue.out HB.out)|(with_reducible refine Kd.Sb ?_ _)|(with_reducible refine Kd.Rb ?_ _)|(with_reducible refine Kd.jc ?_)));(case uc=>exact af.out);(case Ad=>repeat (first|exact (Kd.Mb ng.out HB.out)|(with_reducible refine Kd.Sb ?_ _)|(with_reducible refine Kd.Rb ?_ _)|(with_reducible refine Kd.jc ?_)));(case yd=>exact Xg.out);rintro e w9 ⟨Sau,rfl,Zi,hb⟩;refine ⟨_,rfl,?_⟩;have Fb:=ga.mk (Kd.Zo Zi (Ka (by repeat (first|(with_reducible first|exact HB.out|apply oa|apply ia|apply qa|refine ua ?_ Sa.out)|exact HB.out))));have Lb:=ga.mk (Va (g:=za) (o:=.cells #[.slice xb Oa.length qb,.int .i64 La,.int .i64 Pa,.int .i64 Ja,.slice Pb Fa.length Gb] 45 (0,0)) (by (with_reducible repeat (first|refine Ca ?_ _|refine Ea ?_|refine Da ?_ _));exact ta.out) hb);have Vb:=ga.mk (Qa (by repeat (first|(with_reducible first|exact HB.out|apply oa|apply ia|apply qa|refine ua ?_ Sa.out)|exact HB.out)) hb);clear ta HB;have Nac:=Fb;have ta:=Lb;have HB:=Vb;clear Fb Lb Vb;(try clear hb);(try clear Jj);(try clear hk);(try clear hi);(try clear Zi)));go_ret;exact ⟨_,by first|rfl|(simp [Na,Ma] <;> rfl)|(simp [*,Na,Ma] <;> rfl),by (with_reducible repeat (first|apply Kd.Gd|apply Kd.Ed|apply Kd.qe));exact Nac.out,by repeat (first|(with_reducible first|exact HB.out|apply oa|apply ia|apply qa|refine ua ?_ Sa.out)|exact HB.out)⟩
 ·replace c3:=Bool.eq_false_iff.mpr c3;subst c3;have H1:(some ([]:List (List Int)))=some r:=by rw [if_neg (show ¬ (false=true) by decide)] at H;exact H
  clear H;have H:=H1;clear H1;obtain rfl:=Option.some.inj H;go_enter Try.func36,Try.ntmps36;go_wp2_with (first|((with_reducible refine Db (N:=1) rfl ?_);refine Jb ?hg (N:=1) ?hd (cs:=#[.slice xb Oa.length qb,.int .i64 La,.int .i64 Pa,.int .i64 Ja,.slice Pb Fa.length Gb]) (t:=45) ?hr ?_;(case hd=>rfl);(case hg=>rfl);(case hr=>first|(go_simp;done)|(go_simp;rfl));intro za hg Qn Wb hb;have Fb:=ga.mk (Qa (by repeat (first|(with_reducible first|exact HB.out|apply oa|apply ia|apply qa)|exact HB.out)) hb);have Lb:=ga.mk (Wb);have Vb:=ga.mk ((by rw [hg];exact (Ka (by repeat (first|(with_reducible first|exact HB.out|apply oa|apply ia|apply qa)|exact HB.out))):w.heap.size ≤ za));have Bc:=ga.mk ((by rw [hg];exact (Ka (by repeat (first|(with_reducible first|exact HB.out|apply oa|apply ia|apply qa)|exact HB.out))):w.heap.size ≤ za));clear HB;have HB:=Fb;have ta:=Lb;have ye:=Vb;have Sa:=Bc;clear Fb Lb Vb Bc hb Wb hg;have Bt:Qn.cell? ⟨za,0,none⟩=some (.slice xb Oa.length qb):=(ja ta.out 0).trans rfl;have yt:Qn.cell? ⟨za,1,none⟩=some (.int .i64 La):=(ja ta.out 1).trans rfl;have vt:Qn.cell? ⟨za,2,none⟩=some (.int .i64 Pa):=(ja ta.out 2).trans rfl;have qt:Qn.cell? ⟨za,3,none⟩=some (.int .i64 Ja):=(ja ta.out 3).trans rfl;have ot:Qn.cell? ⟨za,4,none⟩=some (.slice Pb Fa.length Gb):=(ja ta.out 4).trans rfl;have Ss:=aa ta.out 0;have Rs:=aa ta.out 1;have Qs:=aa ta.out 2;have Ns:=aa ta.out 3;have Ms:=aa ta.out 4)|((with_reducible refine zb (f:=71) rfl ?_);refine Dc (some 4) rfl rfl Try.func71 (by kernel_rfl) rfl #[.agg #[.slice xb Oa.length qb,.int .i64 La,.int .i64 Pa,.int .i64 Ja,.slice Pb Fa.length Gb]] rfl (by (try simp only [List.map_toArray,List.map_cons,List.map_nil]);first|done|rfl|(simp only [List.length_drop,List.length_take];rfl)) ?_;(with_reducible refine (Xb.calls k _ _ Oa La Pa Ja _ _ Fa false _ ?yc ?uc ?Ad ?yd A2.out).mono ?_);(case yc=>repeat (first|exact (Kd.Mb Ue.out HB.out)|(with_reducible refine Kd.Sb ?_ _)|(with_reducible refine Kd.Rb ?_ _)|(with_reducible refine Kd.jc ?_)));(case uc=>exact af.out);(case Ad=>repeat (first|exact (Kd.Mb ng.out HB.out)|(with_reducible refine Kd.Sb ?_ _)|(with_reducible refine Kd.Rb ?_ _)|(with_reducible refine Kd.jc ?_)));(case yd=>exact Xg.out);rintro e dx ⟨rfl,hb⟩;refine ⟨_,rfl,?_⟩;have Fb:=ga.mk (Va (g:=za) (o:=.cells #[.slice xb Oa.length qb,.int .i64 La,.int .i64 Pa,.int .i64 Ja,.slice Pb Fa.length Gb] 45 (0,0)) (by (with_reducible repeat (first|refine Ca ?_ _|refine Ea ?_|refine Da ?_ _));exact ta.out) hb);have Lb:=ga.mk (Qa (by repeat (first|(with_reducible first|exact HB.out|apply oa|apply ia|apply qa|refine ua ?_ Sa.out)|exact HB.out)) hb);clear ta HB;have ta:=Fb;have HB:=Lb;clear Fb Lb;(try clear hb);(try clear Jj);(try clear hk);(try clear hi)));go_ret;exact ⟨_,by first|rfl|(simp [Na,Ma] <;> rfl)|(simp [*,Na,Ma] <;> rfl),by first|exact Kd.jX _ _ _ _ _|exact Kd.uX _ _ _ _ _|exact Kd.gX _ _ _ _ _|exact Kd.nX _ _ _ _ _|exact Kd.cy _ _ _ _ _,by repeat (first|(with_reducible first|exact HB.out|apply oa|apply ia|apply qa|refine ua ?_ Sa.out)|exact HB.out)⟩
section
variable {l0:List Int} {p v s:Int} {l4:List zf}
theorem IE (h:Kj l0 p v s l4=true):Ax l0 p v s l4.length=true∧(∀ b ∈ l4,Jn l0 s l4 b=true)∧Pd l4 ≤ 1000:=by
 unfold Kj at h;simp only [Bool.and_eq_true,Bool.not_eq_true',List.any_eq_false,decide_eq_true_eq] at h;exact ⟨h.1,fun b hb=>by have:=h.2.1 b hb;simpa using this,h.2.2⟩
theorem mV (l:List zf) (b:zf) (hb:b ∈ l):b.f0.length ≤ Pd l:=by
 unfold Pd;exact eA (List.mem_map.mpr ⟨b,hb,rfl⟩)
end
end Go.Proofs.Ytoomcmaifgkkfaa.P
end
section
namespace Go.Proofs.Ytoomcmaifgkkfaa.P
open Go.RowKit Go.Proofs.Ia.Qb Go.Proofs.Ia.Od Go.Proofs.Ia.Re
set_option linter.unusedVariables false
set_option linter.unusedSimpArgs false
attribute [local go_sem] Wh Uh Fj Ej oh nh Vh Th
def Ph:List Bool→Nat→List Int
 | [],_=>[]
 | b :: s,i=>if b=true then (i:Int) :: Ph s (i + 1) else Ph s (i + 1)
theorem Rp:∀ (s:List Bool) (i:Nat),(Ph s i).length ≤ s.length
 | [],_=>Nat.le_refl _
 | b :: s,i=>by
  have:=Rp s (i + 1);unfold Ph
  by_cases h:b=true
  ·rw [if_pos h];simp;omega
  ·rw [if_neg h];simp;omega
theorem xB:∀ (s t:List Bool) (i:Nat),Ph (s ++ t) i=Ph s i ++ Ph t (i + s.length)
 | [],t,i=>by simp [Ph]
 | b :: s,t,i=>by
  have:=xB s t (i + 1);simp only [List.cons_append,Ph,this,List.length_cons];rw [show i + 1 + s.length=i + (s.length + 1) from by omega]
  by_cases h:b=true
  ·rw [if_pos h,if_pos h];rfl
  ·rw [if_neg h,if_neg h]
theorem Qz (s:List Bool) (i:Nat) (hi:i < s.length):Ph (s.take (i + 1)) 0=if s[i]=true then Ph (s.take i) 0 ++ [(i:Int)] else Ph (s.take i) 0:=by
 rw [List.take_succ_eq_append_getElem hi,xB,List.length_take,Nat.min_eq_left (by omega),Nat.zero_add];unfold Ph Ph
 by_cases h:s[i]=true
 ·rw [if_pos h,if_pos h]
 ·rw [if_neg h,if_neg h,List.append_nil]
def Iu (s:List Bool):List Int:=s.map fun b=>if b=true then 1 else 0
theorem Jr (s:List Bool):(Iu s).length=s.length:=by simp [Iu]
theorem QL (s:List Bool) {j:Int} (h0:0 ≤ j) (h1:j < (s.length:Int)):rd (Iu s) j=if seen s j.toNat=true then 1 else 0:=by
 have hl:j.toNat < s.length:=by omega
 simp [rd,Iu,seen,List.getD_eq_getElem?_getD,hl]
theorem UG (s:List Bool) (i:Nat):(Iu s).set i 1=Iu (s.set i true):=by
 unfold Iu;rw [List.map_set]
 rfl
theorem MP (n:Nat) (hn:n ≤ 1048576):Ev (fun k=>td.f k (n:Int)) (List.replicate n 0):=by
 unfold td.f;have key:=Qg (r:=List.replicate n (0:Int)) (n:=n) (fun i=>Ev (fun k=>td.l0 k (n:Int) (List.replicate i 0) (i:Int)) (List.replicate n 0)) ?_ ?_ 0 (by omega)
 ·exact key
 ·refine Ev.step (fun k=>by rw [td.l0]) ?_;exact Ev.neg (by omega) (Ev.now _)
 ·intro i hi h;refine Ev.step (fun k=>by rw [td.l0]) ?_;refine Ev.pos (by omega) (Ev.pos (by rw [List.length_replicate];omega) ?_);rw [Ie hi (by omega),← List.replicate_succ'];exact h
section
variable {l0:List Int} {p v s:Int} {bs:List zf}
theorem SE {ys acc:List Int} {r:List Int} {n:Nat} (hn:n ≤ 1048576) (hy:ys.length ≤ 2) :
  ∀ (d i:Nat) (sn:List Bool) (q:List Int),i + d=ys.length→sn.length=n→q.length + d ≤ 4 * n + 8→(∀ j ∈ ys,0 ≤ j∧j < n) →
  Ev (fun k=>Ib.l0 k acc (Iu ((ys.drop i).foldl Hf (sn,q)).1) ((ys.drop i).foldl Hf (sn,q)).2 l0 p v s bs) r→Ev (fun k=>Ib.l1 k acc (Iu sn) q ys (i:Int) l0 p v s bs) r:=by
 intro d
 induction d with
 | zero =>
  intro i sn q hi hs hq hr he;have e:i=ys.length:=by omega
  subst e;rw [List.drop_length] at he;refine Ev.step (fun k=>by rw [Ib.l1]) ?_;exact Ev.neg (by omega) he
 | succ d ih =>
  intro i sn q hi hs hq hr he;have hi':i < ys.length:=by omega
  obtain ⟨j0,j1⟩:=hr ys[i] (List.getElem_mem hi');have hrd:rd ys (i:Int)=ys[i]:=by rw [mC,List.getD_eq_getElem?_getD,List.getElem?_eq_getElem hi'];rfl
  rw [List.drop_eq_getElem_cons hi',List.foldl_cons] at he;refine Ev.step (fun k=>by rw [Ib.l1]) ?_;refine Ev.pos (by omega) (Ev.pos (by omega) ?_);rw [hrd];refine Ev.pos j0 (Ev.pos (by rw [Jr];omega) ?_);rw [Ie hi' (by omega),QL sn j0 (by omega)]
  by_cases hc:seen sn ys[i].toNat=true
  ·rw [if_pos hc];refine Ev.neg (by decide) ?_;have e:Hf (sn,q) ys[i]=(sn,q):=by unfold Hf;rw [if_pos hc]
   rw [e] at he;exact ih (i + 1) sn q (by omega) hs (by omega) hr he
  ·rw [if_neg hc];refine Ev.pos rfl (Ev.pos (by omega) ?_);have e:Hf (sn,q) ys[i]=(sn.set ys[i].toNat true,q ++ [ys[i]]):=by unfold Hf;rw [if_neg hc]
   rw [e] at he;rw [UG];exact ih (i + 1) _ _ (by omega) (by rw [List.length_set];exact hs) (by rw [List.length_append,List.length_singleton];omega) hr he
theorem yA {r:List Int} (hE:Yf bs) (hend:∀ sn:List Bool,sn.length=bs.length→(∀ j,seen sn j=true ↔ Ln (ji bs) j)→Ev (fun k=>Ib.l2 k [] (Iu sn) 0) r) :
  ∀ (m:Nat) (sn:List Bool) (q:List Int),2 * news sn + q.length ≤ m→tB bs.length (ji bs) sn q→(∀ j,seen sn j=true→(j:Int) ∉ q→∀ m ∈ ji bs j,seen sn m.toNat=true)→Ev (fun k=>Ib.l0 k [] (Iu sn) q l0 p v s bs) r:=by
 have hn:=hE.2.1;intro m
 induction m with
 | zero =>
  intro sn q hm h hs;cases q with
  | cons i q=>rw [List.length_cons] at hm;omega
  | nil =>
   refine Ev.step (fun k=>by rw [Ib.l0]) ?_;exact Ev.neg (by simp) (hend sn h.len (iV h (fun j hj=>hs j hj (by simp))))
 | succ m ih =>
  intro sn q hm h hs;cases q with
  | nil =>
   refine Ev.step (fun k=>by rw [Ib.l0]) ?_;exact Ev.neg (by simp) (hend sn h.len (iV h (fun j hj=>hs j hj (by simp))))
  | cons i q =>
   obtain ⟨h0,h1,h2⟩:=h.NN i (by simp);have hi:i.toNat < bs.length:=by omega
   have hR:=h.FH _ h2;have hc:=h.cap;rw [List.length_cons] at hc hm;have g:tB bs.length (ji bs) sn q:=⟨h.len,fun j hj=>h.NN j (by simp [hj]),h.FH,by omega,h.qR⟩
   have gs:Shut (ji bs) sn q i.toNat:=by
    intro j hj hq hji;refine hs j hj ?_;intro hmem
    rcases List.mem_cons.mp hmem with e|e
    ·exact hji (by omega)
    ·exact hq e
   obtain ⟨a1,a2,a3,a4,a5⟩:=PF hR (ji bs i.toNat) sn q g gs (fun j hj=>⟨(hE.2.2 _ hi j hj).1,(hE.2.2 _ hi j hj).2,hj⟩);have hit:((i.toNat:Nat):Int)=i:=Int.toNat_of_nonneg h0;have vW:(ji bs i.toNat).length ≤ 2:=Gr _;have X4:Hg.f (Ta bs i).f0 (Ta bs i).f1 (Ta bs i).f2 (Ta bs i).f3 (Ta bs i).f4=some (ji bs i.toNat):=by unfold ji;rw [hit];exact BB _
   have hrd:rd (i :: q) 0=i:=rfl;refine Ev.step (fun k=>by rw [Ib.l0]) ?_;refine Ev.pos (by rw [List.length_cons];omega) (Ev.pos (by rw [List.length_cons];omega) ?_);rw [hrd];refine Ev.pos h0 (Ev.pos h1 ?_);rw [X4];refine Ev.val (Ev.pos (by rw [List.length_cons];omega) ?_);have hl:=h.len;refine SE (n:=bs.length) hn vW (ji bs i.toNat).length 0 sn q (by omega) hl (by omega) (hE.2.2 _ hi) ?_;refine ih _ _ (by rw [List.drop_zero];omega) (by rw [List.drop_zero];exact a1) ?_;rw [List.drop_zero];intro j hj hq
   by_cases e:j=i.toNat
   ·intro m hm';rw [e] at hm';exact a3 m hm'
   ·exact a2 j hj hq e
theorem RE (sn:List Bool) (hs:sn.length ≤ 1048576):Ev (fun k=>Ib.l2 k [] (Iu sn) 0) (Ph sn 0):=by
 have key:=Qg (r:=Ph sn 0) (n:=sn.length) (fun i=>Ev (fun k=>Ib.l2 k (Ph (sn.take i) 0) (Iu sn) (i:Int)) (Ph sn 0)) ?_ ?_ 0 (by omega)
 ·exact key
 ·refine Ev.step (fun k=>by rw [Ib.l2]) ?_;refine Ev.neg (by rw [Jr];omega) ?_;rw [List.take_length];exact Ev.now _
 ·intro i hi h;have ht:=Rp (sn.take i) 0;rw [List.length_take] at ht;refine Ev.step (fun k=>by rw [Ib.l2]) ?_;refine Ev.pos (by rw [Jr];omega) (Ev.pos (by omega) ?_);rw [Ie hi (by omega),QL sn (by omega) (by omega),Int.toNat_natCast];have hse:seen sn i=sn[i]:=by simp [seen,List.getD_eq_getElem?_getD,hi]
  rw [hse];rw [Qz sn i hi] at h
  by_cases hc:sn[i]=true
  ·rw [if_pos hc] at h ⊢;exact Ev.pos rfl (Ev.pos (by omega) h)
  ·rw [if_neg hc] at h ⊢;exact Ev.neg (by decide) h
theorem Pr:∀ (sn:List Bool) (i:Nat) (x:Int),x ∈ Ph sn i ↔ ∃ j:Nat,j < sn.length∧seen sn j=true∧x=((i + j:Nat):Int)
 | [],i,x=>by simp [Ph]
 | b :: sn,i,x=>by
  have ih:=Pr sn (i + 1) x;have hs0:seen (b :: sn) 0=b:=rfl;have hs1:∀ j,seen (b :: sn) (j + 1)=seen sn j:=fun j=>rfl
  unfold Ph
  constructor
  ·intro h
   by_cases hb:b=true
   ·rw [if_pos hb] at h
    rcases List.mem_cons.1 h with h|h
    ·exact ⟨0,by simp,by rw [hs0];exact hb,by rw [h];rfl⟩
    ·obtain ⟨j,h1,h2,h3⟩:=ih.1 h;exact ⟨j + 1,by simpa using h1,by rw [hs1];exact h2,by omega⟩
   ·rw [if_neg hb] at h;obtain ⟨j,h1,h2,h3⟩:=ih.1 h;exact ⟨j + 1,by simpa using h1,by rw [hs1];exact h2,by omega⟩
  ·rintro ⟨j,h1,h2,h3⟩
   have hrest:(∃ j',j=j' + 1)→x ∈ Ph sn (i + 1):=by
    rintro ⟨j',rfl⟩;exact ih.2 ⟨j',by simpa using h1,by rw [← hs1];exact h2,by omega⟩
   by_cases hb:b=true
   ·rw [if_pos hb]
    rcases j with _|j
    ·exact List.mem_cons.2 (Or.inl (by omega))
    ·exact List.mem_cons.2 (Or.inr (hrest ⟨j,rfl⟩))
   ·rw [if_neg hb]
    rcases j with _|j
    ·rw [hs0] at h2;exact absurd h2 hb
    ·exact hrest ⟨j,rfl⟩
theorem Rz:∀ (sn:List Bool) (i:Nat),(Ph sn i).Pairwise (· < ·)
 | [],i=>by simp [Ph]
 | b :: sn,i=>by
  have ih:=Rz sn (i + 1);unfold Ph
  by_cases hb:b=true
  ·rw [if_pos hb,List.pairwise_cons];refine ⟨fun x hx=>?_,ih⟩;obtain ⟨j,_,_,h3⟩:=(Pr sn (i + 1) x).1 hx;omega
  ·rw [if_neg hb];exact ih
theorem DF (hE:Yf bs) (sn:List Bool) (hs:sn.length=bs.length) (h:∀ j,seen sn j=true ↔ Ln (ji bs) j):Ph sn 0=Wc bs:=by
 refine uC _ _ (Rz sn 0) (Tr bs) (fun x=>?_);rw [Pr,Tg hE]
 constructor
 ·rintro ⟨j,h1,h2,h3⟩;rw [Nat.zero_add] at h3;subst h3;exact ⟨by omega,(h _).1 (by rw [Int.toNat_natCast];exact h2)⟩
 ·rintro ⟨h0,hr⟩;exact ⟨x.toNat,by rw [hs];exact yp hE hr,(h _).2 hr,by omega⟩
theorem Ql (n:Nat) (hn:0 < n) (j:Nat):seen ((List.replicate n false).set 0 true) j=decide (j=0):=by
 rw [Ri (by simpa using hn),Hp,Bool.or_false]
 by_cases h:j=0
 ·subst h;rfl
 ·rw [decide_eq_false h,decide_eq_false (fun e=>h e.symm)]
theorem jA {n:Nat} {nx:Nat→List Int} (hn:0 < n):tB n nx ((List.replicate n false).set 0 true) [0]:=by
 refine ⟨by simp,fun j hj=>?_,fun j hj=>?_,?_,?_⟩
 ·rw [List.mem_singleton] at hj;subst hj;exact ⟨by omega,by omega,by rw [Ql n hn];rfl⟩
 ·rw [Ql n hn,decide_eq_true_eq] at hj;subst hj;exact Ln.zero
 ·have:=Zu (s:=List.replicate n false) (i:=0) (by simpa using hn) (Hp _ _);rw [yx] at this;rw [List.length_singleton];omega
 ·rw [Ql n hn];rfl
theorem QE (h0:l0.length ≤ 1048576) (hl:bs.length ≤ 1048576) (ht:Pd bs ≤ 1048576) (hok:Kj l0 p v s bs=true):Ev (fun k=>Ib.f k l0 p v s bs) (Wc bs):=by
 have hE:=zq hok;unfold Ib.f;refine Ev.val (Ev.bind (Hu h0 hl ht) ?_);refine Ev.pos hok (Ev.bind (MP bs.length hl) (Ev.pos (by rw [List.length_replicate];have:=hE.1;omega) ?_))
 have e:(List.replicate bs.length (0:Int)).set (0:Int).toNat 1=Iu ((List.replicate bs.length false).set 0 true):=by
  rw [← UG];unfold Iu;rw [List.map_replicate]
  rfl
 rw [e];refine yA hE (fun sn hs hr=>?_) _ _ _ (Nat.le_refl _) (jA hE.1) (fun j hj hq=>?_)
 ·rw [← DF hE sn hs hr];exact RE sn (by omega)
 ·rw [Ql _ hE.1,decide_eq_true_eq] at hj;subst hj;exact absurd (by simp) hq
end
end Go.Proofs.Ytoomcmaifgkkfaa.P
end
section
namespace Go.Proofs.Ytoomcmaifgkkfaa.P
open Go.RowKit Go.Proofs.Ia.Qb Go.Proofs.Ia.Od Go.Proofs.Ia.Re
set_option linter.unusedVariables false
set_option linter.unusedSimpArgs false
def GY (bs:List zf) (a:Int) (i:Nat):List Int:=(ji bs i).filter fun j=>decide (j ≠ a)
section
variable {l0:List Int} {p v s:Int} {bs:List zf}
theorem AR (hE:Yf bs) {a:Nat} (ha:0 ≠ a) (k:Nat):Ln (GY bs (a:Int)) k ↔ RA (ji bs) a k:=by
 constructor
 ·intro h
  induction h with
  | zero=>exact RA.zero ha
  | @step i j hr hj ih =>
   obtain ⟨h1,h2⟩:=List.mem_filter.1 hj;have:=hE.2.2 i (yp hE ih.FH) j h1;rw [decide_eq_true_eq] at h2;exact RA.step ih h1 (by omega)
 ·intro h
  induction h with
  | zero _=>exact Ln.zero
  | @step i j hr hj hne ih =>
   have:=hE.2.2 i (yp hE hr.FH) j hj;exact Ln.step ih (List.mem_filter.2 ⟨hj,by rw [decide_eq_true_eq];omega⟩)
theorem PE {ys:List Int} {a:Int} {r:List Bool} {n:Nat} (hn:n ≤ 1048576) (hy:ys.length ≤ 2) :
  ∀ (d i:Nat) (sn:List Bool) (q:List Int),i + d=ys.length→sn.length=n→q.length + d ≤ 4 * n + 8→(∀ j ∈ ys,0 ≤ j∧j < n) →
  Ev (fun k=>Eb.l0 k a (((ys.drop i).filter fun j=>decide (j ≠ a)).foldl Hf (sn,q)).1 (((ys.drop i).filter fun j=>decide (j ≠ a)).foldl Hf (sn,q)).2 l0 p v s bs) r→Ev (fun k=>Eb.l1 k a sn q ys (i:Int) l0 p v s bs) r:=by
 intro d
 induction d with
 | zero =>
  intro i sn q hi hs hq hr he;have e:i=ys.length:=by omega
  subst e;rw [List.drop_length,List.filter_nil] at he;refine Ev.step (fun k=>by rw [Eb.l1]) ?_;exact Ev.neg (by omega) he
 | succ d ih =>
  intro i sn q hi hs hq hr he;have hi':i < ys.length:=by omega
  obtain ⟨j0,j1⟩:=hr ys[i] (List.getElem_mem hi');have hrd:rd ys (i:Int)=ys[i]:=by rw [mC,List.getD_eq_getElem?_getD,List.getElem?_eq_getElem hi'];rfl
  rw [List.drop_eq_getElem_cons hi',List.filter_cons] at he;refine Ev.step (fun k=>by rw [Eb.l1]) ?_;refine Ev.pos (by omega) (Ev.pos (by omega) ?_);rw [hrd];rw [Ie hi' (by omega)];have hse:sg false sn ys[i]=seen sn ys[i].toNat:=rfl;rw [hse]
  by_cases ha:ys[i]=a
  ·refine Ev.pos ha ?_;rw [if_neg (by simp [ha])] at he;exact ih (i + 1) sn q (by omega) hs (by omega) hr he
  ·rw [if_pos (by simp [ha]),List.foldl_cons] at he;refine Ev.neg ha (Ev.pos j0 (Ev.pos (by omega) ?_))
   by_cases hc:seen sn ys[i].toNat=true
   ·refine Ev.pos hc ?_;have e:Hf (sn,q) ys[i]=(sn,q):=by unfold Hf;rw [if_pos hc]
    rw [e] at he;exact ih (i + 1) sn q (by omega) hs (by omega) hr he
   ·refine Ev.neg hc (Ev.pos (by omega) ?_);have e:Hf (sn,q) ys[i]=(sn.set ys[i].toNat true,q ++ [ys[i]]):=by unfold Hf;rw [if_neg hc]
    rw [e] at he;exact ih (i + 1) _ _ (by omega) (by rw [List.length_set];exact hs) (by rw [List.length_append,List.length_singleton];omega) hr he
theorem xA {a:Int} (hE:Yf bs) :
  ∀ (m:Nat) (sn:List Bool) (q:List Int),2 * news sn + q.length ≤ m→tB bs.length (GY bs a) sn q→(∀ j,seen sn j=true→(j:Int) ∉ q→∀ m ∈ GY bs a j,seen sn m.toNat=true)→∃ t:List Bool,t.length=bs.length∧(∀ j,seen t j=true ↔ Ln (GY bs a) j)∧Ev (fun k=>Eb.l0 k a sn q l0 p v s bs) t:=by
 have hn:=hE.2.1;intro m
 induction m with
 | zero =>
  intro sn q hm h hs;cases q with
  | cons i q=>rw [List.length_cons] at hm;omega
  | nil=>exact ⟨sn,h.len,iV h (fun j hj=>hs j hj (by simp)),Ev.step (fun k=>by rw [Eb.l0]) (Ev.neg (by simp) (Ev.now _))⟩
 | succ m ih =>
  intro sn q hm h hs;cases q with
  | nil=>exact ⟨sn,h.len,iV h (fun j hj=>hs j hj (by simp)),Ev.step (fun k=>by rw [Eb.l0]) (Ev.neg (by simp) (Ev.now _))⟩
  | cons i q =>
   obtain ⟨h0,h1,h2⟩:=h.NN i (by simp);have hi:i.toNat < bs.length:=by omega
   have hR:=h.FH _ h2;have hc:=h.cap;rw [List.length_cons] at hc hm;have g:tB bs.length (GY bs a) sn q:=⟨h.len,fun j hj=>h.NN j (by simp [hj]),h.FH,by omega,h.qR⟩
   have gs:Shut (GY bs a) sn q i.toNat:=by
    intro j hj hq hji;refine hs j hj ?_;intro hmem
    rcases List.mem_cons.mp hmem with e|e
    ·exact hji (by omega)
    ·exact hq e
   obtain ⟨a1,a2,a3,a4,a5⟩:=PF hR (GY bs a i.toNat) sn q g gs (fun j hj=>⟨(hE.2.2 _ hi j (List.mem_filter.1 hj).1).1,(hE.2.2 _ hi j (List.mem_filter.1 hj).1).2,hj⟩);have hit:((i.toNat:Nat):Int)=i:=Int.toNat_of_nonneg h0;have vW:(ji bs i.toNat).length ≤ 2:=Gr _;have X4:Hg.f (Ta bs i).f0 (Ta bs i).f1 (Ta bs i).f2 (Ta bs i).f3 (Ta bs i).f4=some (ji bs i.toNat):=by unfold ji;rw [hit];exact BB _
   have hrd:rd (i :: q) 0=i:=rfl;have hl:=h.len
   obtain ⟨t,t1,t2,t3⟩:=ih _ _ (by omega) a1 (by
    intro j hj hq
    by_cases e:j=i.toNat
    ·intro m hm';rw [e] at hm';exact a3 m hm'
    ·exact a2 j hj hq e)
   refine ⟨t,t1,t2,?_⟩;refine Ev.step (fun k=>by rw [Eb.l0]) ?_;refine Ev.pos (by rw [List.length_cons];omega) (Ev.pos (by rw [List.length_cons];omega) ?_);rw [hrd];refine Ev.pos h0 (Ev.pos h1 ?_);rw [X4];refine Ev.val (Ev.pos (by rw [List.length_cons];omega) ?_);refine PE (n:=bs.length) hn vW (ji bs i.toNat).length 0 sn q (by omega) hl (by omega) (hE.2.2 _ hi) ?_;rw [List.drop_zero];exact t3
theorem YM (hE:Yf bs) (a:Nat) (ha:0 ≠ a):∃ t:List Bool,t.length=bs.length∧(∀ j,seen t j=true ↔ RA (ji bs) a j)∧Ev (fun k=>Eb.f k l0 p v s bs 0 (a:Int) (List.replicate bs.length false)) t:=by
 obtain ⟨t,t1,t2,t3⟩:=xA (a:=(a:Int)) (l0:=l0) (p:=p) (v:=v) (s:=s) hE _ ((List.replicate bs.length false).set 0 true) [0] (Nat.le_refl _) (jA hE.1) (fun j hj hq=>by
  rw [Ql _ hE.1,decide_eq_true_eq] at hj;subst hj
  exact absurd (by simp) hq)
 refine ⟨t,t1,fun j=>(t2 j).trans (AR hE ha j),?_⟩;unfold Eb.f;exact Ev.pos (by omega) (Ev.pos (by rw [List.length_replicate];have:=hE.1;omega) t3)
noncomputable def En (bs:List zf) (i:Nat):List Bool:=open Classical in (List.range bs.length).map fun k=>decide (Dom (ji bs) i k)
noncomputable def Rq (bs:List zf):List (List Bool):=(List.range bs.length).map (En bs)
theorem Xl (bs:List zf) (i:Nat):(En bs i).length=bs.length:=by simp [En]
theorem Ol (bs:List zf):(Rq bs).length=bs.length:=by simp [Rq]
theorem tR {bs:List zf} {i:Nat} (hi:i < bs.length):(Rq bs).getD i []=En bs i:=by simp [Rq,List.getD_eq_getElem?_getD,hi]
theorem lV {bs:List zf} {i k:Nat} (hk:k < bs.length):(En bs i).getD k false=true ↔ Dom (ji bs) i k:=by simp [En,List.getD_eq_getElem?_getD,hk]
theorem tA {r:List (List Bool)} (hE:Yf bs) (he:∀ cm:List Bool,cm.length=bs.length→(∀ j,seen cm j=true ↔ Ln (ji bs) j)→Ev (fun k=>jb.l1 k (bs.length:Int) cm [] 0 l0 p v s bs) r) :
  Ev (fun k=>jb.l0 k (bs.length:Int) (List.replicate bs.length false) (Wc bs) 0 l0 p v s bs) r:=by
 have hrl:=Hl bs;have hn:=hE.2.1;have key:=Qg (r:=r) (n:=(Wc bs).length) (fun i=>∀ cm:List Bool,cm.length=bs.length→(∀ j:Nat,seen cm j=true ↔ (j:Int) ∈ (Wc bs).take i)→Ev (fun k=>jb.l0 k (bs.length:Int) cm (Wc bs) (i:Int) l0 p v s bs) r) ?_ ?_ 0 (by omega)
 ·exact key _ (by simp) (fun j=>by rw [Hp];simp)
 ·intro cm hc hs;refine Ev.step (fun k=>by rw [jb.l0]) ?_;refine Ev.neg (by omega) (he cm hc (fun j=>?_));rw [hs,List.take_length,Tg hE,Int.toNat_natCast];exact ⟨fun h=>h.2,fun h=>⟨by omega,h⟩⟩
 ·intro i hi h cm hc hs;obtain ⟨x0,xr⟩:=(Tg hE _).1 (List.getElem_mem hi);have hx:=yp hE xr;refine Ev.step (fun k=>by rw [jb.l0]) ?_;refine Ev.pos (by omega) (Ev.pos (by omega) ?_);rw [zl hi,Ie hi (by omega)];refine Ev.pos x0 (Ev.pos (by rw [hc];omega) (h _ (by rw [List.length_set];exact hc) (fun j=>?_)));rw [Ri (by rw [hc];exact hx),Bool.or_eq_true,decide_eq_true_eq,hs,List.take_succ_eq_append_getElem hi,List.mem_append,List.mem_singleton]
  constructor
  ·rintro (h|h)
   ·right;omega
   ·left;exact h
  ·rintro (h|h)
   ·right;exact h
   ·left;omega
theorem Ir {r:List (List Bool)} {cm wo:List Bool} {acc:List (List Bool)} {i:Nat} (hE:Yf bs) (hi:i < bs.length) (hc:cm.length=bs.length) (HZ:∀ j,seen cm j=true ↔ Ln (ji bs) j) (hw:wo.length=bs.length) (hwr:Ln (ji bs) i→∀ j,Ln (ji bs) j→(seen wo j=true ↔ RA (ji bs) i j)) (ha:acc.length ≤ bs.length)
  (he:Ev (fun k=>jb.l1 k (bs.length:Int) cm (acc ++ [En bs i]) ((i + 1:Nat):Int) l0 p v s bs) r) :
  Ev (fun k=>jb.l2 k (bs.length:Int) cm acc (i:Int) wo (List.replicate bs.length false) 0 l0 p v s bs) r:=by
 have hn:=hE.2.1;have key:=Qg (r:=r) (n:=bs.length) (fun j=>Ev (fun k=>jb.l2 k (bs.length:Int) cm acc (i:Int) wo ((En bs i).take j ++ List.replicate (bs.length - j) false) (j:Int) l0 p v s bs) r) ?_ ?_ 0 (by omega)
 ·simpa using key
 ·have e:(En bs i).take bs.length ++ List.replicate (bs.length - bs.length) false=En bs i:=by rw [List.take_of_length_le (by rw [Xl];omega),Nat.sub_self,List.replicate_zero,List.append_nil]
  rw [e];refine Ev.step (fun k=>by rw [jb.l2]) ?_;refine Ev.neg (by omega) (Ev.pos (by omega) ?_);rw [Ie hi (by omega)];exact he
 ·intro j hj h
  have nA:∀ b:Bool,b=(En bs i).getD j false→((En bs i).take j ++ List.replicate (bs.length - j) false).set j b=(En bs i).take (j + 1) ++ List.replicate (bs.length - (j + 1)) false:=by
   intro b hb;subst hb;have:=Lw (m:=En bs i) (z:=false) (i:=j) (by rw [Xl];exact hj);rw [Xl] at this;exact this
  have hln:((En bs i).take j ++ List.replicate (bs.length - j) false).length=bs.length:=by rw [List.length_append,List.length_take,List.length_replicate,Xl];omega
  have s1:sg false cm (i:Int)=seen cm i:=rfl;have s2:sg false cm (j:Int)=seen cm j:=rfl;have s3:sg false wo (j:Int)=seen wo j:=rfl;refine Ev.step (fun k=>by rw [jb.l2]) ?_;refine Ev.pos (by omega) (Ev.pos (by omega) (Ev.pos (by omega) ?_));rw [s1,s2,s3,Int.toNat_natCast,Ie hj (by omega)];have hdom:=lV (bs:=bs) (i:=i) hj
  by_cases lR:seen cm i=true
  ·refine Ev.pos lR (Ev.pos (by omega) (Ev.pos (by omega) ?_))
   by_cases hcj:seen cm j=true
   ·refine Ev.pos hcj (Ev.pos (by omega) (Ev.pos (by rw [hln];omega) ?_));rw [nA]
    ·exact h
    ·have hri:=(HZ i).1 lR;have hrj:=(HZ j).1 hcj;have hwj:=hwr hri j hrj;cases hwb:seen wo j with
     | true =>
      cases hd:(En bs i).getD j false with
      | false=>rfl
      | true=>exact absurd (hwj.1 hwb) (hdom.1 hd).2.2
     | false=>exact (hdom.2 ⟨hri,hrj,fun hra=>by rw [hwj.2 hra] at hwb;cases hwb⟩).symm
   ·refine Ev.neg hcj (Ev.pos (by rw [hln];omega) ?_);rw [nA]
    ·exact h
    ·cases hd:(En bs i).getD j false with
     | false=>rfl
     | true=>exact absurd ((HZ j).2 (hdom.1 hd).2.1) hcj
  ·refine Ev.neg lR (Ev.pos (by omega) (Ev.pos (by rw [hln];omega) ?_));rw [nA]
   ·exact h
   ·cases hd:(En bs i).getD j false with
    | false=>rfl
    | true=>exact absurd ((HZ i).2 (hdom.1 hd).1) lR
theorem sA {cm:List Bool} (hE:Yf bs) (hc:cm.length=bs.length) (HZ:∀ j,seen cm j=true ↔ Ln (ji bs) j):Ev (fun k=>jb.l1 k (bs.length:Int) cm [] 0 l0 p v s bs) (Rq bs):=by
 have hn:=hE.2.1;have key:=Qg (r:=Rq bs) (n:=bs.length) (fun i=>Ev (fun k=>jb.l1 k (bs.length:Int) cm ((Rq bs).take i) (i:Int) l0 p v s bs) (Rq bs)) ?_ ?_ 0 (by omega)
 ·exact key
 ·refine Ev.step (fun k=>by rw [jb.l1]) ?_;refine Ev.neg (by omega) ?_;rw [List.take_of_length_le (by rw [Ol];omega)];exact Ev.now _
 ·intro i hi h
  have hti:(Rq bs).take (i + 1)=(Rq bs).take i ++ [En bs i]:=by
   rw [List.take_succ_eq_append_getElem (by rw [Ol];exact hi)];simp [Rq]
  rw [hti] at h;have hlt:((Rq bs).take i).length ≤ bs.length:=by rw [List.length_take,Ol];omega
  refine Ev.step (fun k=>by rw [jb.l1]) ?_;refine Ev.pos (by omega) (Ev.pos (by omega) (Ev.pos (by omega) (Ev.val ?_)));rw [Int.toNat_natCast]
  by_cases h0:i=0
  ·subst h0;refine Ev.pos rfl ?_;refine Ev.step (fun k=>by rw [jb.j2]) ?_;refine Ev.pos (by omega) (Ev.pos (by omega) ?_);rw [Int.toNat_natCast];refine Ir hE hi hc HZ (by simp) (fun _ j hj=>?_) hlt h;rw [Hp];exact ⟨(fun h=>by cases h),fun h=>absurd h (Dom.zero hj).2.2⟩
  ·obtain ⟨t,t1,t2,t3⟩:=YM (l0:=l0) (p:=p) (v:=v) (s:=s) hE i (fun e=>h0 e.symm);refine Ev.neg (by omega) (Ev.bind t3 ?_);refine Ev.step (fun k=>by rw [jb.j2]) ?_;refine Ev.pos (by omega) (Ev.pos (by omega) ?_);rw [Int.toNat_natCast];exact Ir hE hi hc HZ t1 (fun _ j _=>t2 j) hlt h
theorem LG (h0:l0.length ≤ 1048576) (hl:bs.length ≤ 1048576) (ht:Pd bs ≤ 1048576) (hok:Kj l0 p v s bs=true):Ev (fun k=>jb.f k l0 p v s bs) (Rq bs):=by
 have hE:=zq hok;unfold jb.f;refine Ev.pos (by omega) (Ev.pos (by omega) (Ev.bind (QE h0 hl ht hok) ?_));rw [Int.toNat_natCast];exact tA hE (fun cm h1 h2=>sA hE h1 h2)
end
end Go.Proofs.Ytoomcmaifgkkfaa.P
end
section
namespace Go.Proofs.Ytoomcmaifgkkfaa.P
open Go.RowKit Go.Proofs.Ia.Qb Go.Proofs.Ia.Od Go.Proofs.Ia.Re
set_option linter.unusedVariables false
set_option linter.unusedSimpArgs false
section
variable {l0:List Int} {p v s:Int} {bs:List zf}
theorem YP (hE:Yf bs) {i:Int} {k:Nat}:i ∈ qB bs k ↔ 0 ≤ i∧Dom (ji bs) i.toNat k:=by
 unfold qB;rw [List.mem_filter,Tg hE]
 constructor
 ·rintro ⟨⟨h0,_⟩,h⟩;exact ⟨h0,by simpa using h⟩
 ·rintro ⟨h0,h⟩;exact ⟨⟨h0,h.1⟩,by simpa using h⟩
theorem kV (k:Nat):(qB bs k).Pairwise (· < ·):=(Tr bs).filter _
theorem ZH (hE:Yf bs):Jg.f l0 p v s bs=some (zk bs):=by
 unfold Jg.f;rw [if_pos hE]
end
end Go.Proofs.Ytoomcmaifgkkfaa.P
end
section
namespace Go.Proofs.Ytoomcmaifgkkfaa.P
open Go.RowKit Go.Proofs.Ia.Qb Go.Proofs.Ia.Od Go.Proofs.Ia.Re
set_option linter.unusedVariables false
set_option linter.unusedSimpArgs false
theorem Dom.trans {nx:Nat→List Int} {x y z:Nat} (h1:Dom nx x y) (h2:Dom nx y z):Dom nx x z:=by
 refine ⟨h1.1,h2.2.1,fun hr=>h2.2.2 ?_⟩
 have key:∀ v,RA nx x v→RA nx y v:=by
  intro v hv
  induction hv with
  | zero h0=>exact RA.zero (fun e=>h1.2.2 (e ▸ RA.zero h0))
  | @step u t hu ht hne ih=>exact RA.step ih ht (fun e=>h1.2.2 (e ▸ RA.step hu ht hne))
 exact key z hr
section
variable {bs:List zf}
end
end Go.Proofs.Ytoomcmaifgkkfaa.P
end
section
namespace Go.Proofs.Ytoomcmaifgkkfaa.P
open Go.RowKit Go.Proofs.Ia.Qb Go.Proofs.Ia.Od Go.Proofs.Ia.Re
set_option linter.unusedVariables false
set_option linter.unusedSimpArgs false
section
variable {l0:List Int} {p v s:Int} {bs:List zf}
noncomputable def rB (bs:List zf) (k:Nat):List Bool:=open Classical in (List.range bs.length).map fun i=>decide (Dom (ji bs) i k)
theorem qk (k:Nat):(rB bs k).length=bs.length:=by simp [rB]
theorem PB {i k:Nat} (hi:i < bs.length):seen (rB bs k) i=true ↔ Dom (ji bs) i k:=by simp [seen,rB,List.getD_eq_getElem?_getD,hi]
theorem bN {i k:Nat} (hi:i < bs.length) (hk:k < bs.length):(rB bs k)[i]'(by rw [qk];exact hi)=sg false (En bs i) (k:Int):=by
 simp [rB,sg,En,List.getD_eq_getElem?_getD,hk]
theorem aQ (hE:Yf bs) (k:Nat):Ph (rB bs k) 0=qB bs k:=by
 refine uC _ _ (Rz _ 0) (kV k) (fun x=>?_);rw [Pr,YP hE]
 constructor
 ·rintro ⟨j,h1,h2,h3⟩;rw [Nat.zero_add] at h3;subst h3;rw [qk] at h1;exact ⟨by omega,by rw [Int.toNat_natCast];exact (PB h1).1 h2⟩
 ·rintro ⟨h0,hr⟩;have hl:=yp hE hr.1;exact ⟨x.toNat,by rw [qk];exact hl,(PB hl).2 hr,by omega⟩
theorem wY {i:Nat} (hi:i < bs.length):Bk (Rq bs) (i:Int)=En bs i:=tR hi
theorem KF {i:Nat} (hi:i < bs.length):(zk bs).take (i + 1)=(zk bs).take i ++ [qB bs i]:=by
 rw [List.take_succ_eq_append_getElem (by rw [Gl];exact hi)];simp [zk]
theorem QG {acc:List (List Int)} {r:List (List Int)} {j:Nat} (hE:Yf bs) (hj:j < bs.length) (ha:acc.length ≤ bs.length) (he:Ev (fun k=>Gc.l0 k (acc ++ [qB bs j]) (Rq bs) ((j + 1:Nat):Int)) r) :
  Ev (fun k=>Gc.l1 k acc (Rq bs) (j:Int) [] 0) r:=by
 have hn:=hE.2.1;have htl:=Ol bs;have key:=Qg (r:=r) (n:=bs.length) (fun i=>Ev (fun k=>Gc.l1 k acc (Rq bs) (j:Int) (Ph ((rB bs j).take i) 0) (i:Int)) r) ?_ ?_ 0 (by omega)
 ·exact key
 ·refine Ev.step (fun k=>by rw [Gc.l1]) ?_;refine Ev.neg (by omega) (Ev.pos (by omega) ?_);rw [List.take_of_length_le (by rw [qk];omega),aQ hE,Ie hj (by omega)];exact he
 ·intro i hi h;have ht:=Rp ((rB bs j).take i) 0;rw [List.length_take,qk] at ht;refine Ev.step (fun k=>by rw [Gc.l1]) ?_;refine Ev.pos (by omega) (Ev.pos (by omega) (Ev.pos (by omega) ?_));rw [wY hi,Xl];refine Ev.pos (by omega) ?_;rw [Qz (rB bs j) i (by rw [qk];exact hi),bN hi hj] at h;rw [Ie hi (by omega)]
  by_cases hb:sg false (En bs i) (j:Int)=true
  ·rw [if_pos hb] at h;exact Ev.pos hb (Ev.pos (by omega) h)
  ·rw [if_neg hb] at h;exact Ev.neg hb h
theorem ZM (h0:l0.length ≤ 1048576) (hl:bs.length ≤ 1048576) (ht:Pd bs ≤ 1048576) (hok:Kj l0 p v s bs=true):Ev (fun k=>Gc.f k l0 p v s bs) (zk bs):=by
 have hE:=zq hok;have hn:=hE.2.1;have htl:=Ol bs;unfold Gc.f;refine Ev.val (Ev.bind (Hu h0 hl ht) (Ev.pos hok (Ev.bind (LG h0 hl ht hok) ?_)));have key:=Qg (r:=zk bs) (n:=bs.length) (fun i=>Ev (fun k=>Gc.l0 k ((zk bs).take i) (Rq bs) (i:Int)) (zk bs)) ?_ ?_ 0 (by omega)
 ·exact key
 ·refine Ev.step (fun k=>by rw [Gc.l0]) ?_;refine Ev.neg (by omega) ?_;rw [List.take_of_length_le (by rw [Gl];omega)];exact Ev.now _
 ·intro i hi h;rw [KF hi] at h;refine Ev.step (fun k=>by rw [Gc.l0]) ?_;refine Ev.pos (by omega) ?_;exact QG hE hi (by rw [List.length_take,Gl];omega) h
theorem NP (l0:List Int) (p v s:Int) (bs:List zf) (h0:l0.length ≤ 1048576) (hl:bs.length ≤ 1048576) (ht:Pd bs ≤ 1048576) :
  ∃ r:List (List Int),Ev (fun k=>Gc.f k l0 p v s bs) r∧Ev (fun k=>xj.f k l0 p v s bs) r∧r.length ≤ 300∧∀ x ∈ r,x.length ≤ 300:=by
 by_cases hok:Kj l0 p v s bs=true
 ·have hE:=zq hok;have hb:=KB (IE hok).1;refine ⟨zk bs,ZM h0 hl ht hok,?_,by rw [Gl];omega,fun x hx=>?_⟩
  ·unfold xj.f;refine Ev.bind (uA h0 hl ht) (Ev.pos hok ?_);rw [ZH hE];exact Ev.val (Ev.now _)
  ·obtain ⟨k,_,rfl⟩:=List.mem_map.1 hx;have:=VG bs k;omega
 ·refine ⟨[],?_,?_,by simp,fun x hx=>by cases hx⟩
  ·unfold Gc.f;exact Ev.val (Ev.bind (Hu h0 hl ht) (Ev.neg hok (Ev.now _)))
  ·unfold xj.f;exact Ev.bind (uA h0 hl ht) (Ev.neg hok (Ev.now _))
end
end Go.Proofs.Ytoomcmaifgkkfaa.P
end
section
namespace Go.Proofs.Ytoomcmaifgkkfaa.P
open Go.RowKit Go.Proofs.Ia.Qb Go.Proofs.Ia.Od Go.Proofs.Ia.Re
set_option linter.unusedVariables false
set_option linter.unusedSimpArgs false
attribute [local go_sem] Wh Uh Fj Ej oh nh Vh Th
def Xc.l0:Nat→Int→ByteArray→Option (ByteArray)
 | 0,_,_=>none
 | k + 1,x0,x3=>if x0 > 0 then ((some (([(wrap64 (48 + (Int.tmod x0 10))) % 256]:List Int):List Int)).bind fun Mf=>(if (strOfNums Mf).size + x3.size ≤ 9223372036854775807 then (Xc.l0 k (wrap64 (Int.tdiv x0 10)) ((strOfNums Mf) ++ x3)) else (none))) else (if 1 + x3.size ≤ 9223372036854775807 then (some ((⟨#[109]⟩:ByteArray) ++ x3)) else (none))
def Xc.f (k:Nat) (a0:Int):Option (ByteArray):=if a0 ≤ 0 then (some (⟨#[109,48]⟩:ByteArray)) else (Xc.l0 k a0 (⟨#[]⟩:ByteArray))
theorem Xc.calls (k:Nat) (a0:Int) (r:ByteArray) (w:World) (h:Xc.f k a0=some r) :
  Calls Try.prog 127 #[.int .i64 a0] w fun e w'=>e = .returned (.string r)∧Below w.heap.size w w':=by
 have HB:=ga.mk (Below.refl w.heap.size w);have H:(if a0 ≤ 0 then (some (⟨#[109,48]⟩:ByteArray)) else (Xc.l0 k a0 (⟨#[]⟩:ByteArray)))=some r:=h;clear h
 by_cases c2:a0 ≤ 0
 ·rw [if_pos c2] at H;have Bq:decide (a0 ≤ 0)=true:=decide_eq_true c2;clear c2;obtain rfl:=Option.some.inj H;go_enter Try.func127,Try.ntmps127;go_wp2;go_ret;exact ⟨by first|rfl|(simp [Na,Ma] <;> rfl)|(simp [*,Na,Ma] <;> rfl),by repeat (first|(with_reducible first|exact HB.out|apply oa|apply ia|apply qa)|exact HB.out)⟩
 ·rw [if_neg c2] at H;have Bq:decide (a0 ≤ 0)=false:=decide_eq_false c2;clear c2;have H':=ga.mk H;clear H;go_enter Try.func127,Try.ntmps127;go_wp2
  go_loopg [0,3] k (fun kq v0 v3 w'=>∃ (Td:Int) (Fc:ByteArray),v0 = .int .i64 Td∧v3 = .string Fc∧ga (Xc.l0 kq Td Fc=some r)∧ga (kq ≤ k)∧ga (Below w.heap.size w w'))
  case atStart=>exact ⟨(a0),((⟨#[]⟩:ByteArray)),(by first|rfl|(simp;done)|(simp [*];done)),(by first|rfl|(simp;done)|(simp [*];done)),H',⟨Nat.le_refl _⟩,⟨by repeat (first|(with_reducible first|exact HB.out|apply oa|apply ia|apply qa)|exact HB.out)⟩⟩
  case round =>
   clear H'
   try clear c1
   try clear c2
   try clear Bq
   try clear p2
   (try clear HA);(try clear Gf);(try clear HB);obtain ⟨Td,Fc,rfl,rfl,HA,Gf,HB⟩:=hrel;cases gk with
   | zero=>exact absurd HA.out (by simp [Xc.l0])
   | succ k1 =>
    have H:=HA.out;clear HA;simp only [Xc.l0] at H
    by_cases c3:Td > 0
    ·rw [if_pos c3] at H;have Cg:decide (0 < Td)=true:=decide_eq_true c3;clear c3;obtain ⟨Mf,Tf⟩:∃ y_:List Int,y_=(([(wrap64 (48 + (Int.tmod Td 10))) % 256]:List Int)):=⟨_,rfl⟩;replace H:(if (strOfNums Mf).size + Fc.size ≤ 9223372036854775807 then (Xc.l0 k1 (wrap64 (Int.tdiv Td 10)) ((strOfNums Mf) ++ Fc)) else (none))=some r:=by first|(rw [Tf];with_reducible exact H)|(have Md:=(Option.bind_some _ _).symm.trans H;rw [Tf];with_reducible exact Md)|(have Md:=(Option.bind_some _ _).symm.trans H;with_reducible exact Md)|with_reducible exact H|(rw [Tf];exact H)|exact H
     have Sj:=ga.mk Tf;clear Tf
     by_cases c4:(strOfNums Mf).size + Fc.size ≤ 9223372036854775807
     ·rw [if_pos c4] at H;have Aj:=eq_true c4;have dab:decide ((strOfNums Mf).size + Fc.size ≤ 9223372036854775807)=true:=decide_eq_true c4
      try have aaw:(9223372036854775807 < (strOfNums Mf).size + Fc.size)=False:=eq_false (Nat.not_lt.2 c4)
      have H':=ga.mk H;clear H;go_wp2_with (first|((with_reducible refine Db (N:=12) rfl ?_);refine Kd.vl (Kd.int .u8) _ 5 ?hg (N:=12) ?hd (xs:=([(wrap64 (48 + (Int.tmod Td 10))) % 256]:List Int)) (inner:=[.int .u8 ((wrap64 (48 + (Int.tmod Td 10))) % 256)]) (ok:=fun _=>True) (Gh:=fun _=>True) ?hr ?hp (fun _ hk=>hk) trivial (Below.refl _ _) (Nat.le_refl _) (by simp) ?_;(case hd=>rfl);(case hg=>rfl);(case hr=>first|(go_simp;done)|(go_simp;rfl));(case hp=>exact (Ld.one (show Kd.M (Kd.int .u8) _ _ _ ((wrap64 (48 + (Int.tmod Td 10))) % 256) [.int .u8 ((wrap64 (48 + (Int.tmod Td 10))) % 256)] from rfl) (Ld.none _ _)));intro CF w5 iG hb um Df;clear um Df;(first|rw [← Sj.out] at iG|(simp only [Int.reduceToNat] at iG;rw [← Sj.out] at iG));have Fb:=ga.mk (Kd.Qe iG (Ka (by repeat (first|(with_reducible first|exact HB.out|apply oa|apply ia|apply qa)|exact HB.out))));have Lb:=ga.mk (Qa (by repeat (first|(with_reducible first|exact HB.out|apply oa|apply ia|apply qa)|exact HB.out)) hb);clear HB;have Pp:=Fb;have HB:=Lb;clear Fb Lb hb iG;have tav:=rI (P:=Try.prog) Try.underlying148 Try.underlying5 Try.underlying9 (Kd.Xu Pp.out)))
      go_roundg k1
      case measure=>have:=Gf.out;omega
      case rel=>exact ⟨(wrap64 (Int.tdiv Td 10)),((strOfNums Mf) ++ Fc),(by first|rfl|(simp;done)|(simp [*];done)),(by first|rfl|(simp;done)|(simp [*];done)),H',⟨by have:=Gf.out;omega⟩,⟨by repeat (first|(with_reducible first|exact HB.out|apply oa|apply ia|apply qa)|exact HB.out)⟩⟩
     ·rw [if_neg c4] at H;exact absurd H (by simp)
    ·rw [if_neg c3] at H;have Cg:decide (0 < Td)=false:=decide_eq_false c3;clear c3
     by_cases c8:1 + Fc.size ≤ 9223372036854775807
     ·rw [if_pos c8] at H;have aJ:=eq_true c8;have pV:decide (1 + Fc.size ≤ 9223372036854775807)=true:=decide_eq_true c8
      try have Zav:(9223372036854775807 < 1 + Fc.size)=False:=eq_false (Nat.not_lt.2 c8)
      obtain rfl:=Option.some.inj H;go_wp2;go_ret;exact ⟨by first|rfl|(simp [Na,Ma] <;> rfl)|(simp [*,Na,Ma] <;> rfl),by repeat (first|(with_reducible first|exact HB.out|apply oa|apply ia|apply qa)|exact HB.out)⟩
     ·rw [if_neg c8] at H;exact absurd H (by simp)
def Nc.l0:Nat→List (Vc)→Int→Int→Option (Int × (List (Vc)))
 | 0,_,_,_=>none
 | k + 1,x0,x1,x5=>if x5 < (x0.length:Int) then (if 0 ≤ x5 then ((some (x0.set (x5:Int).toNat (⟨x1,(Ba x0 x5).f1,(Ba x0 x5).f2,(Ba x0 x5).f3,(Ba x0 x5).f4,(Ba x0 x5).f5,(Ba x0 x5).f6⟩:Vc):List (Vc))).bind fun Mf=>((some (Mf.set (x5:Int).toNat (⟨(Ba Mf x5).f0,wrap64 (x1 + 1),(Ba Mf x5).f2,(Ba Mf x5).f3,(Ba Mf x5).f4,(Ba Mf x5).f5,(Ba Mf x5).f6⟩:Vc):List (Vc))).bind fun Yd=>((some (Yd.set (x5:Int).toNat (⟨(Ba Yd x5).f0,(Ba Yd x5).f1,wrap64 ((wrap64 (x1 + 1)) + 1),(Ba Yd x5).f3,(Ba Yd x5).f4,(Ba Yd x5).f5,(Ba Yd x5).f6⟩:Vc):List (Vc))).bind fun ug=>((some (ug.set (x5:Int).toNat (⟨(Ba ug x5).f0,(Ba ug x5).f1,(Ba ug x5).f2,wrap64 ((wrap64 ((wrap64 (x1 + 1)) + 1)) + 1),(Ba ug x5).f4,(Ba ug x5).f5,(Ba ug x5).f6⟩:Vc):List (Vc))).bind fun Lf=>((some (Lf.set (x5:Int).toNat (⟨(Ba Lf x5).f0,(Ba Lf x5).f1,(Ba Lf x5).f2,(Ba Lf x5).f3,wrap64 ((wrap64 ((wrap64 ((wrap64 (x1 + 1)) + 1)) + 1)) + 1),(Ba Lf x5).f5,(Ba Lf x5).f6⟩:Vc):List (Vc))).bind fun Ce=>((some (Ce.set (x5:Int).toNat (⟨(Ba Ce x5).f0,(Ba Ce x5).f1,(Ba Ce x5).f2,(Ba Ce x5).f3,(Ba Ce x5).f4,wrap64 ((wrap64 ((wrap64 ((wrap64 ((wrap64 (x1 + 1)) + 1)) + 1)) + 1)) + 1),(Ba Ce x5).f6⟩:Vc):List (Vc))).bind fun He=>((Xc.f k (wrap64 ((wrap64 ((wrap64 ((wrap64 ((wrap64 ((wrap64 (x1 + 1)) + 1)) + 1)) + 1)) + 1)) + 1))).bind fun t107=>(Nc.l0 k (He.set (x5:Int).toNat (⟨(Ba He x5).f0,(Ba He x5).f1,(Ba He x5).f2,(Ba He x5).f3,(Ba He x5).f4,(Ba He x5).f5,t107⟩:Vc)) (wrap64 ((wrap64 ((wrap64 ((wrap64 ((wrap64 ((wrap64 ((wrap64 (x1 + 1)) + 1)) + 1)) + 1)) + 1)) + 1)) + 1)) (wrap64 (x5 + 1)))))))))) else (none)) else (some (x1,x0))
def Nc.f (k:Nat) (l0:List (Vc)) (a1:Int):Option (Int × (List (Vc))):=Nc.l0 k l0 a1 0
theorem Nc.calls (k:Nat) (Bj:Nat→Prop) (Nf:Value) (l0:List (Vc)) (a1:Int) (r1:Int) (r2:List (Vc)) (w0 w:World) (hB:Below w0.heap.size w0 w) (Zi:Kd.R Pf 122 w w0.heap.size Bj Nf l0) (h:Nc.f k l0 a1=some (r1,r2)) :
  Calls Try.prog 111 #[Nf,.int .i64 a1] w fun e w'=>e = .returned (.int .i64 r1)∧Kd.R Pf 122 w' w0.heap.size (fun k_=>(Bj k_ ∨ w.heap.size ≤ k_)) Nf r2∧Below w0.heap.size w0 w'∧Kept w w' (fun k_=>Bj k_):=by
 have o5:=ga.mk (show Kd.R Pf 122 w w0.heap.size (fun k_=>(Bj k_ ∨ w.heap.size ≤ k_)) Nf l0 from Kd.Jc Zi (fun k_ hk=>(.inl hk)));have HK:=ga.mk (Kept.refl w (fun k_=>Bj k_));have HW0:=ga.mk hB.size;have HB:=ga.mk hB;clear hB;have H:(Nc.l0 k l0 a1 0)=some (r1,r2):=h;clear h;have H':=ga.mk H;clear H;go_enter Try.func111,Try.ntmps111;go_wp2
 go_loopg [1,5] k (fun kq v1 v5 w'=>∃ (Td:List (Vc)) (Zd:Int) (Aa:Int),v1 = .int .i64 Zd∧v5 = .int .i64 Aa∧ga (Nc.l0 kq Td Zd Aa=some (r1,r2))∧ga (kq ≤ k)∧ga (Kd.R Pf 122 w' w0.heap.size (fun k_=>(Bj k_ ∨ w.heap.size ≤ k_)) Nf Td)∧ga (Kept w w' (fun k_=>Bj k_))∧ga (Below w0.heap.size w0 w'))
 case atStart=>exact ⟨(l0),(a1),(0),(by first|rfl|(simp;done)|(simp [*];done)),(by first|rfl|(simp;done)|(simp [*];done)),H',⟨Nat.le_refl _⟩,⟨by (with_reducible repeat (first|apply Kd.Xa|apply Kd.Wa|apply Kd.yb));exact o5.out⟩,⟨by repeat (first|(with_reducible first|exact HK.out|apply Kept.alloc|apply Kept.drewN|apply Kept.drew)|exact HK.out)⟩,⟨by repeat (first|(with_reducible first|exact HB.out|apply oa|apply ia|apply qa)|exact HB.out)⟩⟩
 case round =>
  clear H'
  try clear c1
  try clear p2
  (try clear HA);(try clear Gf);(try clear Pe);(try clear HK);(try clear HB);obtain ⟨Td,Zd,Aa,rfl,rfl,HA,Gf,Pe,HK,HB⟩:=hrel;cases gk with
  | zero=>exact absurd HA.out (by simp [Nc.l0])
  | succ k1 =>
   have H:=HA.out;clear HA;simp only [Nc.l0] at H
   by_cases c3:Aa < (Td.length:Int)
   ·rw [if_pos c3] at H;have Cg:decide (Aa < (Td.length:Int))=true:=decide_eq_true c3;clear c3
    by_cases c4:0 ≤ Aa
    ·rw [if_pos c4] at H;have Aj:decide (0 ≤ Aa)=true:=decide_eq_true c4;clear c4;obtain ⟨Mf,Tf⟩:∃ y_:List (Vc),y_=(Td.set (Aa:Int).toNat (⟨Zd,(Ba Td Aa).f1,(Ba Td Aa).f2,(Ba Td Aa).f3,(Ba Td Aa).f4,(Ba Td Aa).f5,(Ba Td Aa).f6⟩:Vc)):=⟨_,rfl⟩;replace H:((some (Mf.set (Aa:Int).toNat (⟨(Ba Mf Aa).f0,wrap64 (Zd + 1),(Ba Mf Aa).f2,(Ba Mf Aa).f3,(Ba Mf Aa).f4,(Ba Mf Aa).f5,(Ba Mf Aa).f6⟩:Vc):List (Vc))).bind fun Yd=>((some (Yd.set (Aa:Int).toNat (⟨(Ba Yd Aa).f0,(Ba Yd Aa).f1,wrap64 ((wrap64 (Zd + 1)) + 1),(Ba Yd Aa).f3,(Ba Yd Aa).f4,(Ba Yd Aa).f5,(Ba Yd Aa).f6⟩:Vc):List (Vc))).bind fun ug=>((some (ug.set (Aa:Int).toNat (⟨(Ba ug Aa).f0,(Ba ug Aa).f1,(Ba ug Aa).f2,wrap64 ((wrap64 ((wrap64 (Zd + 1)) + 1)) + 1),(Ba ug Aa).f4,(Ba ug Aa).f5,(Ba ug Aa).f6⟩:Vc):List (Vc))).bind fun Lf=>((some (Lf.set (Aa:Int).toNat (⟨(Ba Lf Aa).f0,(Ba Lf Aa).f1,(Ba Lf Aa).f2,(Ba Lf Aa).f3,wrap64 ((wrap64 ((wrap64 ((wrap64 (Zd + 1)) + 1)) + 1)) + 1),(Ba Lf Aa).f5,(Ba Lf Aa).f6⟩:Vc):List (Vc))).bind fun Ce=>((some (Ce.set (Aa:Int).toNat (⟨(Ba Ce Aa).f0,(Ba Ce Aa).f1,(Ba Ce Aa).f2,(Ba Ce Aa).f3,(Ba Ce Aa).f4,wrap64 ((wrap64 ((wrap64 ((wrap64 ((wrap64 (Zd + 1)) + 1)) + 1)) + 1)) + 1),(Ba Ce Aa).f6⟩:Vc):List (Vc))).bind fun He=>((Xc.f k1 (wrap64 ((wrap64 ((wrap64 ((wrap64 ((wrap64 ((wrap64 (Zd + 1)) + 1)) + 1)) + 1)) + 1)) + 1))).bind fun t107=>(Nc.l0 k1 (He.set (Aa:Int).toNat (⟨(Ba He Aa).f0,(Ba He Aa).f1,(Ba He Aa).f2,(Ba He Aa).f3,(Ba He Aa).f4,(Ba He Aa).f5,t107⟩:Vc)) (wrap64 ((wrap64 ((wrap64 ((wrap64 ((wrap64 ((wrap64 ((wrap64 (Zd + 1)) + 1)) + 1)) + 1)) + 1)) + 1)) + 1)) (wrap64 (Aa + 1)))))))))=some (r1,r2):=by first|(rw [Tf];with_reducible exact H)|(have Md:=(Option.bind_some _ _).symm.trans H;rw [Tf];with_reducible exact Md)|(have Md:=(Option.bind_some _ _).symm.trans H;with_reducible exact Md)|with_reducible exact H|(rw [Tf];exact H)|exact H
     have Sj:=ga.mk Tf;clear Tf;obtain ⟨Yd,Rf⟩:∃ y_:List (Vc),y_=(Mf.set (Aa:Int).toNat (⟨(Ba Mf Aa).f0,wrap64 (Zd + 1),(Ba Mf Aa).f2,(Ba Mf Aa).f3,(Ba Mf Aa).f4,(Ba Mf Aa).f5,(Ba Mf Aa).f6⟩:Vc)):=⟨_,rfl⟩;replace H:((some (Yd.set (Aa:Int).toNat (⟨(Ba Yd Aa).f0,(Ba Yd Aa).f1,wrap64 ((wrap64 (Zd + 1)) + 1),(Ba Yd Aa).f3,(Ba Yd Aa).f4,(Ba Yd Aa).f5,(Ba Yd Aa).f6⟩:Vc):List (Vc))).bind fun ug=>((some (ug.set (Aa:Int).toNat (⟨(Ba ug Aa).f0,(Ba ug Aa).f1,(Ba ug Aa).f2,wrap64 ((wrap64 ((wrap64 (Zd + 1)) + 1)) + 1),(Ba ug Aa).f4,(Ba ug Aa).f5,(Ba ug Aa).f6⟩:Vc):List (Vc))).bind fun Lf=>((some (Lf.set (Aa:Int).toNat (⟨(Ba Lf Aa).f0,(Ba Lf Aa).f1,(Ba Lf Aa).f2,(Ba Lf Aa).f3,wrap64 ((wrap64 ((wrap64 ((wrap64 (Zd + 1)) + 1)) + 1)) + 1),(Ba Lf Aa).f5,(Ba Lf Aa).f6⟩:Vc):List (Vc))).bind fun Ce=>((some (Ce.set (Aa:Int).toNat (⟨(Ba Ce Aa).f0,(Ba Ce Aa).f1,(Ba Ce Aa).f2,(Ba Ce Aa).f3,(Ba Ce Aa).f4,wrap64 ((wrap64 ((wrap64 ((wrap64 ((wrap64 (Zd + 1)) + 1)) + 1)) + 1)) + 1),(Ba Ce Aa).f6⟩:Vc):List (Vc))).bind fun He=>((Xc.f k1 (wrap64 ((wrap64 ((wrap64 ((wrap64 ((wrap64 ((wrap64 (Zd + 1)) + 1)) + 1)) + 1)) + 1)) + 1))).bind fun t107=>(Nc.l0 k1 (He.set (Aa:Int).toNat (⟨(Ba He Aa).f0,(Ba He Aa).f1,(Ba He Aa).f2,(Ba He Aa).f3,(Ba He Aa).f4,(Ba He Aa).f5,t107⟩:Vc)) (wrap64 ((wrap64 ((wrap64 ((wrap64 ((wrap64 ((wrap64 ((wrap64 (Zd + 1)) + 1)) + 1)) + 1)) + 1)) + 1)) + 1)) (wrap64 (Aa + 1))))))))=some (r1,r2):=by first|(rw [Rf];with_reducible exact H)|(have Md:=(Option.bind_some _ _).symm.trans H;rw [Rf];with_reducible exact Md)|(have Md:=(Option.bind_some _ _).symm.trans H;with_reducible exact Md)|with_reducible exact H|(rw [Rf];exact H)|exact H
     have ki:=ga.mk Rf;clear Rf;obtain ⟨ug,Er⟩:∃ y_:List (Vc),y_=(Yd.set (Aa:Int).toNat (⟨(Ba Yd Aa).f0,(Ba Yd Aa).f1,wrap64 ((wrap64 (Zd + 1)) + 1),(Ba Yd Aa).f3,(Ba Yd Aa).f4,(Ba Yd Aa).f5,(Ba Yd Aa).f6⟩:Vc)):=⟨_,rfl⟩;replace H:((some (ug.set (Aa:Int).toNat (⟨(Ba ug Aa).f0,(Ba ug Aa).f1,(Ba ug Aa).f2,wrap64 ((wrap64 ((wrap64 (Zd + 1)) + 1)) + 1),(Ba ug Aa).f4,(Ba ug Aa).f5,(Ba ug Aa).f6⟩:Vc):List (Vc))).bind fun Lf=>((some (Lf.set (Aa:Int).toNat (⟨(Ba Lf Aa).f0,(Ba Lf Aa).f1,(Ba Lf Aa).f2,(Ba Lf Aa).f3,wrap64 ((wrap64 ((wrap64 ((wrap64 (Zd + 1)) + 1)) + 1)) + 1),(Ba Lf Aa).f5,(Ba Lf Aa).f6⟩:Vc):List (Vc))).bind fun Ce=>((some (Ce.set (Aa:Int).toNat (⟨(Ba Ce Aa).f0,(Ba Ce Aa).f1,(Ba Ce Aa).f2,(Ba Ce Aa).f3,(Ba Ce Aa).f4,wrap64 ((wrap64 ((wrap64 ((wrap64 ((wrap64 (Zd + 1)) + 1)) + 1)) + 1)) + 1),(Ba Ce Aa).f6⟩:Vc):List (Vc))).bind fun He=>((Xc.f k1 (wrap64 ((wrap64 ((wrap64 ((wrap64 ((wrap64 ((wrap64 (Zd + 1)) + 1)) + 1)) + 1)) + 1)) + 1))).bind fun t107=>(Nc.l0 k1 (He.set (Aa:Int).toNat (⟨(Ba He Aa).f0,(Ba He Aa).f1,(Ba He Aa).f2,(Ba He Aa).f3,(Ba He Aa).f4,(Ba He Aa).f5,t107⟩:Vc)) (wrap64 ((wrap64 ((wrap64 ((wrap64 ((wrap64 ((wrap64 ((wrap64 (Zd + 1)) + 1)) + 1)) + 1)) + 1)) + 1)) + 1)) (wrap64 (Aa + 1)))))))=some (r1,r2):=by first|(rw [Er];with_reducible exact H)|(have Md:=(Option.bind_some _ _).symm.trans H;rw [Er];with_reducible exact Md)|(have Md:=(Option.bind_some _ _).symm.trans H;with_reducible exact Md)|with_reducible exact H|(rw [Er];exact H)|exact H
     have GQ:=ga.mk Er;clear Er;obtain ⟨Lf,Vl⟩:∃ y_:List (Vc),y_=(ug.set (Aa:Int).toNat (⟨(Ba ug Aa).f0,(Ba ug Aa).f1,(Ba ug Aa).f2,wrap64 ((wrap64 ((wrap64 (Zd + 1)) + 1)) + 1),(Ba ug Aa).f4,(Ba ug Aa).f5,(Ba ug Aa).f6⟩:Vc)):=⟨_,rfl⟩;replace H:((some (Lf.set (Aa:Int).toNat (⟨(Ba Lf Aa).f0,(Ba Lf Aa).f1,(Ba Lf Aa).f2,(Ba Lf Aa).f3,wrap64 ((wrap64 ((wrap64 ((wrap64 (Zd + 1)) + 1)) + 1)) + 1),(Ba Lf Aa).f5,(Ba Lf Aa).f6⟩:Vc):List (Vc))).bind fun Ce=>((some (Ce.set (Aa:Int).toNat (⟨(Ba Ce Aa).f0,(Ba Ce Aa).f1,(Ba Ce Aa).f2,(Ba Ce Aa).f3,(Ba Ce Aa).f4,wrap64 ((wrap64 ((wrap64 ((wrap64 ((wrap64 (Zd + 1)) + 1)) + 1)) + 1)) + 1),(Ba Ce Aa).f6⟩:Vc):List (Vc))).bind fun He=>((Xc.f k1 (wrap64 ((wrap64 ((wrap64 ((wrap64 ((wrap64 ((wrap64 (Zd + 1)) + 1)) + 1)) + 1)) + 1)) + 1))).bind fun t107=>(Nc.l0 k1 (He.set (Aa:Int).toNat (⟨(Ba He Aa).f0,(Ba He Aa).f1,(Ba He Aa).f2,(Ba He Aa).f3,(Ba He Aa).f4,(Ba He Aa).f5,t107⟩:Vc)) (wrap64 ((wrap64 ((wrap64 ((wrap64 ((wrap64 ((wrap64 ((wrap64 (Zd + 1)) + 1)) + 1)) + 1)) + 1)) + 1)) + 1)) (wrap64 (Aa + 1))))))=some (r1,r2):=by first|(rw [Vl];with_reducible exact H)|(have Md:=(Option.bind_some _ _).symm.trans H;rw [Vl];with_reducible exact Md)|(have Md:=(Option.bind_some _ _).symm.trans H;with_reducible exact Md)|with_reducible exact H|(rw [Vl];exact H)|exact H
     have tH:=ga.mk Vl;clear Vl;obtain ⟨Ce,Ng⟩:∃ y_:List (Vc),y_=(Lf.set (Aa:Int).toNat (⟨(Ba Lf Aa).f0,(Ba Lf Aa).f1,(Ba Lf Aa).f2,(Ba Lf Aa).f3,wrap64 ((wrap64 ((wrap64 ((wrap64 (Zd + 1)) + 1)) + 1)) + 1),(Ba Lf Aa).f5,(Ba Lf Aa).f6⟩:Vc)):=⟨_,rfl⟩;replace H:((some (Ce.set (Aa:Int).toNat (⟨(Ba Ce Aa).f0,(Ba Ce Aa).f1,(Ba Ce Aa).f2,(Ba Ce Aa).f3,(Ba Ce Aa).f4,wrap64 ((wrap64 ((wrap64 ((wrap64 ((wrap64 (Zd + 1)) + 1)) + 1)) + 1)) + 1),(Ba Ce Aa).f6⟩:Vc):List (Vc))).bind fun He=>((Xc.f k1 (wrap64 ((wrap64 ((wrap64 ((wrap64 ((wrap64 ((wrap64 (Zd + 1)) + 1)) + 1)) + 1)) + 1)) + 1))).bind fun t107=>(Nc.l0 k1 (He.set (Aa:Int).toNat (⟨(Ba He Aa).f0,(Ba He Aa).f1,(Ba He Aa).f2,(Ba He Aa).f3,(Ba He Aa).f4,(Ba He Aa).f5,t107⟩:Vc)) (wrap64 ((wrap64 ((wrap64 ((wrap64 ((wrap64 ((wrap64 ((wrap64 (Zd + 1)) + 1)) + 1)) + 1)) + 1)) + 1)) + 1)) (wrap64 (Aa + 1)))))=some (r1,r2):=by first|(rw [Ng];with_reducible exact H)|(have Md:=(Option.bind_some _ _).symm.trans H;rw [Ng];with_reducible exact Md)|(have Md:=(Option.bind_some _ _).symm.trans H;with_reducible exact Md)|with_reducible exact H|(rw [Ng];exact H)|exact H
     have bp:=ga.mk Ng;clear Ng;obtain ⟨He,fG⟩:∃ y_:List (Vc),y_=(Ce.set (Aa:Int).toNat (⟨(Ba Ce Aa).f0,(Ba Ce Aa).f1,(Ba Ce Aa).f2,(Ba Ce Aa).f3,(Ba Ce Aa).f4,wrap64 ((wrap64 ((wrap64 ((wrap64 ((wrap64 (Zd + 1)) + 1)) + 1)) + 1)) + 1),(Ba Ce Aa).f6⟩:Vc)):=⟨_,rfl⟩;replace H:((Xc.f k1 (wrap64 ((wrap64 ((wrap64 ((wrap64 ((wrap64 ((wrap64 (Zd + 1)) + 1)) + 1)) + 1)) + 1)) + 1))).bind fun t107=>(Nc.l0 k1 (He.set (Aa:Int).toNat (⟨(Ba He Aa).f0,(Ba He Aa).f1,(Ba He Aa).f2,(Ba He Aa).f3,(Ba He Aa).f4,(Ba He Aa).f5,t107⟩:Vc)) (wrap64 ((wrap64 ((wrap64 ((wrap64 ((wrap64 ((wrap64 ((wrap64 (Zd + 1)) + 1)) + 1)) + 1)) + 1)) + 1)) + 1)) (wrap64 (Aa + 1))))=some (r1,r2):=by first|(rw [fG];with_reducible exact H)|(have Md:=(Option.bind_some _ _).symm.trans H;rw [fG];with_reducible exact Md)|(have Md:=(Option.bind_some _ _).symm.trans H;with_reducible exact Md)|with_reducible exact H|(rw [fG];exact H)|exact H
     have Yab:=ga.mk fG;clear fG;replace H:=Option.bind_eq_some_iff.mp H;obtain ⟨t107,YQ,H⟩:=H;replace H:(Nc.l0 k1 (He.set (Aa:Int).toNat (⟨(Ba He Aa).f0,(Ba He Aa).f1,(Ba He Aa).f2,(Ba He Aa).f3,(Ba He Aa).f4,(Ba He Aa).f5,t107⟩:Vc)) (wrap64 ((wrap64 ((wrap64 ((wrap64 ((wrap64 ((wrap64 ((wrap64 (Zd + 1)) + 1)) + 1)) + 1)) + 1)) + 1)) + 1)) (wrap64 (Aa + 1)))=some (r1,r2):=H;have eY:=ga.mk YQ;clear YQ;obtain ⟨Mz,yj⟩:∃ y_:List (Vc),y_=(He.set (Aa:Int).toNat (⟨(Ba He Aa).f0,(Ba He Aa).f1,(Ba He Aa).f2,(Ba He Aa).f3,(Ba He Aa).f4,(Ba He Aa).f5,t107⟩:Vc)):=⟨_,rfl⟩;replace H:(Nc.l0 k1 Mz (wrap64 ((wrap64 ((wrap64 ((wrap64 ((wrap64 ((wrap64 ((wrap64 (Zd + 1)) + 1)) + 1)) + 1)) + 1)) + 1)) + 1)) (wrap64 (Aa + 1)))=some (r1,r2):=by first|(rw [yj];with_reducible exact H)|(have Md:=(Option.bind_some _ _).symm.trans H;rw [yj];with_reducible exact Md)|(have Md:=(Option.bind_some _ _).symm.trans H;with_reducible exact Md)|with_reducible exact H|(rw [yj];exact H)|exact H
     have Zt:=ga.mk yj;clear yj;have H':=ga.mk H;clear H;obtain ⟨sad,Kt,XZ⟩:=Kd.Jd Pe.out;subst XZ;have p5:0 ≤ (Aa:Int):=of_decide_eq_true (by first|(with_reducible assumption)|assumption);have q5:(Aa:Int) < ((Td.length:Int):Int):=of_decide_eq_true (by first|(with_reducible assumption)|assumption);obtain ⟨kg,co5,PZ,gb5,gl5,cl5,VX⟩:=Kd.jk Pe.out (by omega);(first|cases PZ|(injection PZ with Uj sy uy;(first|subst Uj|(injection Uj with Uj;subst Uj));subst uy;clear sy));have WV:=ga.mk gb5;have GG5:=ga.mk VX;clear gb5 gl5 VX;have Oac:=ga.mk (show (Bj kg ∨ w.heap.size ≤ kg) from (Pe.out.1 _ rfl));obtain ⟨ce5,Lan,hM5,AG,rG⟩:=Kd.aj Pe.out Cj (Aa:Int) p5 q5;obtain rfl:=bg hM5;have X5:wr.cell? ⟨kg,(Aa:Int).toNat * 7,none⟩=some (.int .i64 ((Ba Td Aa).f0)):=AG 0 _ rfl;have yaq:wr.cell? ⟨kg,(Aa:Int).toNat * 7 + 1,none⟩=some (.int .i64 ((Ba Td Aa).f1)):=AG 1 _ rfl;have xaq:wr.cell? ⟨kg,(Aa:Int).toNat * 7 + 2,none⟩=some (.int .i64 ((Ba Td Aa).f2)):=AG 2 _ rfl;have waq:wr.cell? ⟨kg,(Aa:Int).toNat * 7 + 3,none⟩=some (.int .i64 ((Ba Td Aa).f3)):=AG 3 _ rfl;have vaq:wr.cell? ⟨kg,(Aa:Int).toNat * 7 + 4,none⟩=some (.int .i64 ((Ba Td Aa).f4)):=AG 4 _ rfl;have uaq:wr.cell? ⟨kg,(Aa:Int).toNat * 7 + 5,none⟩=some (.int .i64 ((Ba Td Aa).f5)):=AG 5 _ rfl;have taq:wr.cell? ⟨kg,(Aa:Int).toNat * 7 + 6,none⟩=some (.string ((Ba Td Aa).f6)):=AG 6 _ rfl;have C9:wr.frozen? ⟨kg,(Aa:Int).toNat * 7,none⟩=false:=rG 0;have Pas:wr.frozen? ⟨kg,(Aa:Int).toNat * 7 + 1,none⟩=false:=rG 1;have Oas:wr.frozen? ⟨kg,(Aa:Int).toNat * 7 + 2,none⟩=false:=rG 2;have Nas:wr.frozen? ⟨kg,(Aa:Int).toNat * 7 + 3,none⟩=false:=rG 3;have Mas:wr.frozen? ⟨kg,(Aa:Int).toNat * 7 + 4,none⟩=false:=rG 4;have Las:wr.frozen? ⟨kg,(Aa:Int).toNat * 7 + 5,none⟩=false:=rG 5;have Kas:wr.frozen? ⟨kg,(Aa:Int).toNat * 7 + 6,none⟩=false:=rG 6;clear Lan AG rG hM5;replace p5:=eq_true p5;replace q5:=eq_true q5;have rac:=ga.mk (show Kd.R Pf 122 wr w0.heap.size (fun k_=>(Bj k_ ∨ w.heap.size ≤ k_)) (.slice (some ⟨kg,0,none⟩) Td.length Kt) Td from (by (with_reducible repeat (first|apply Kd.Xa|apply Kd.Wa|apply Kd.yb));exact Pe.out));obtain ⟨Yav,NW,vaa,zP,EW⟩:=Kd.aj rac.out Cj (Aa:Int) (of_decide_eq_true (by first|(with_reducible assumption)|assumption)) (by have h_:(Aa:Int) < ((Td.length:Int):Int):=of_decide_eq_true (by first|(with_reducible assumption)|assumption);first|exact h_|(have e_:=(Kd.Tb Pe.out).1;omega)|simpa using h_);obtain rfl:=bg vaa;have uJ:=Kd.Vw rac.out (Aa:Int) (of_decide_eq_true (by first|(with_reducible assumption)|assumption)) (by have h_:(Aa:Int) < ((Td.length:Int):Int):=of_decide_eq_true (by first|(with_reducible assumption)|assumption);first|exact h_|(have e_:=(Kd.Tb Pe.out).1;omega)|simpa using h_) (seg:=[.int .i64 Zd]) (j:=0) NW zP (show 1 ≤ 7 from by decide) (x':=(⟨Zd,(Ba Td Aa).f1,(Ba Td Aa).f2,(Ba Td Aa).f3,(Ba Td Aa).f4,(Ba Td Aa).f5,(Ba Td Aa).f6⟩:Vc)) (Ek _ _ _ (⟨Zd,(Ba Td Aa).f1,(Ba Td Aa).f2,(Ba Td Aa).f3,(Ba Td Aa).f4,(Ba Td Aa).f5,(Ba Td Aa).f6⟩:Vc) ) (fun _ hk=>hk);have VY:=zP 0 _ rfl;(try simp only [show (Pf).sz=7 from rfl,Nat.mul_one,Nat.add_zero] at VY);have vZ:=EW 0;(try simp only [show (Pf).sz=7 from rfl,Nat.mul_one,Nat.add_zero] at vZ);clear NW zP EW vaa;go_wp2_with (first|((with_reducible refine Xe (t:=3) (p:=16) rfl ?_);refine Ae (t:=3) (p:=16) (v:=?kY) (w1:=(wr.setCell ⟨kg,(Aa:Int).toNat * 7,none⟩ (.int .i64 Zd))) ?hg ?ho ?hn ?hr ?_;(case ho=>rfl);(case hg=>rfl);(case hn=>rfl);(case hr=>first|(go_simp;done)|(go_simp;rfl));intro Gp hw;have hg:wr.grownBy Gp (some kg):=(by rw [hw];exact uJ.2);have Tk:Kd.R Pf 122 Gp w0.heap.size (fun k_=>(Bj k_ ∨ w.heap.size ≤ k_)) (.slice (some ⟨kg,0,none⟩) Td.length Kt) Mf:=(by rw [hw,Sj.out];exact uJ.1);clear uJ;have Fb:=ga.mk (Tk);have Lb:=ga.mk ((by rw [hw];exact ua (HB.out) WV.out:Below w0.heap.size w0 Gp));have Vb:=ga.mk (Kept.Dg (S:=(fun k_=>Bj k_)) hg (by repeat (first|(with_reducible first|exact HK.out|apply Kept.alloc|apply Kept.drewN|apply Kept.drew)|exact HK.out)) (fun k_ e_=>(Pe.out.1 k_ e_)));clear Pe HB HK;have Pe:=Fb;have HB:=Lb;have HK:=Vb;clear Fb Lb Vb hg hw Tk;have p6:0 ≤ (Aa:Int):=of_decide_eq_true (by first|(with_reducible assumption)|assumption);have q6:(Aa:Int) < ((Td.length:Int):Int):=of_decide_eq_true (by first|(with_reducible assumption)|assumption);obtain ⟨ce6,Kan,hM6,zG,qG⟩:=Kd.aj Pe.out Cj (Aa:Int) p6 q6;obtain rfl:=bg hM6;have IB:Gp.cell? ⟨kg,(Aa:Int).toNat * 7,none⟩=some (.int .i64 ((Ba Mf Aa).f0)):=zG 0 _ rfl;have saq:Gp.cell? ⟨kg,(Aa:Int).toNat * 7 + 1,none⟩=some (.int .i64 ((Ba Mf Aa).f1)):=zG 1 _ rfl;have raq:Gp.cell? ⟨kg,(Aa:Int).toNat * 7 + 2,none⟩=some (.int .i64 ((Ba Mf Aa).f2)):=zG 2 _ rfl;have qaq:Gp.cell? ⟨kg,(Aa:Int).toNat * 7 + 3,none⟩=some (.int .i64 ((Ba Mf Aa).f3)):=zG 3 _ rfl;have paq:Gp.cell? ⟨kg,(Aa:Int).toNat * 7 + 4,none⟩=some (.int .i64 ((Ba Mf Aa).f4)):=zG 4 _ rfl;have oaq:Gp.cell? ⟨kg,(Aa:Int).toNat * 7 + 5,none⟩=some (.int .i64 ((Ba Mf Aa).f5)):=zG 5 _ rfl;have naq:Gp.cell? ⟨kg,(Aa:Int).toNat * 7 + 6,none⟩=some (.string ((Ba Mf Aa).f6)):=zG 6 _ rfl;have fP:Gp.frozen? ⟨kg,(Aa:Int).toNat * 7,none⟩=false:=qG 0;have Ias:Gp.frozen? ⟨kg,(Aa:Int).toNat * 7 + 1,none⟩=false:=qG 1;have Gas:Gp.frozen? ⟨kg,(Aa:Int).toNat * 7 + 2,none⟩=false:=qG 2;have Fas:Gp.frozen? ⟨kg,(Aa:Int).toNat * 7 + 3,none⟩=false:=qG 3;have Eas:Gp.frozen? ⟨kg,(Aa:Int).toNat * 7 + 4,none⟩=false:=qG 4;have Das:Gp.frozen? ⟨kg,(Aa:Int).toNat * 7 + 5,none⟩=false:=qG 5;have Cas:Gp.frozen? ⟨kg,(Aa:Int).toNat * 7 + 6,none⟩=false:=qG 6;clear Kan zG qG hM6;replace p6:=eq_true p6;replace q6:=eq_true q6;have qac:=ga.mk (show Kd.R Pf 122 Gp w0.heap.size (fun k_=>(Bj k_ ∨ w.heap.size ≤ k_)) (.slice (some ⟨kg,0,none⟩) Td.length Kt) Mf from (by (with_reducible repeat (first|apply Kd.Xa|apply Kd.Wa|apply Kd.yb));exact Pe.out));obtain ⟨Xav,MW,uaa,yP,DW⟩:=Kd.aj qac.out Cj (Aa:Int) (of_decide_eq_true (by first|(with_reducible assumption)|assumption)) (by have h_:(Aa:Int) < ((Td.length:Int):Int):=of_decide_eq_true (by first|(with_reducible assumption)|assumption);first|exact h_|(have e_:=(Kd.Tb Pe.out).1;omega)|simpa using h_);obtain rfl:=bg uaa;have j4:=Kd.Vw qac.out (Aa:Int) (of_decide_eq_true (by first|(with_reducible assumption)|assumption)) (by have h_:(Aa:Int) < ((Td.length:Int):Int):=of_decide_eq_true (by first|(with_reducible assumption)|assumption);first|exact h_|(have e_:=(Kd.Tb Pe.out).1;omega)|simpa using h_) (seg:=[.int .i64 (wrap64 (Zd + 1))]) (j:=1) MW yP (show 2 ≤ 7 from by decide) (x':=(⟨(Ba Mf Aa).f0,wrap64 (Zd + 1),(Ba Mf Aa).f2,(Ba Mf Aa).f3,(Ba Mf Aa).f4,(Ba Mf Aa).f5,(Ba Mf Aa).f6⟩:Vc)) (Ek _ _ _ (⟨(Ba Mf Aa).f0,wrap64 (Zd + 1),(Ba Mf Aa).f2,(Ba Mf Aa).f3,(Ba Mf Aa).f4,(Ba Mf Aa).f5,(Ba Mf Aa).f6⟩:Vc) ) (fun _ hk=>hk);have UY:=yP 1 _ rfl;(try simp only [show (Pf).sz=7 from rfl,Nat.mul_one,Nat.add_zero] at UY);have uZ:=DW 1;(try simp only [show (Pf).sz=7 from rfl,Nat.mul_one,Nat.add_zero] at uZ);clear MW yP DW uaa)|((with_reducible refine Xe (t:=3) (p:=23) rfl ?_);refine Ae (t:=3) (p:=23) (v:=?Bal) (w1:=(Gp.setCell ⟨kg,(Aa:Int).toNat * 7 + 1,none⟩ (.int .i64 (wrap64 (Zd + 1))))) ?hg ?ho ?hn ?hr ?_;(case ho=>rfl);(case hg=>rfl);(case hn=>rfl);(case hr=>first|(go_simp;done)|(go_simp;rfl));intro jl hw;have hg:Gp.grownBy jl (some kg):=(by rw [hw];exact j4.2);have Tk:Kd.R Pf 122 jl w0.heap.size (fun k_=>(Bj k_ ∨ w.heap.size ≤ k_)) (.slice (some ⟨kg,0,none⟩) Td.length Kt) Yd:=(by rw [hw,ki.out];exact j4.1);clear j4;have Fb:=ga.mk (Tk);have Lb:=ga.mk ((by rw [hw];exact ua (HB.out) WV.out:Below w0.heap.size w0 jl));have Vb:=ga.mk (Kept.Dg (S:=(fun k_=>Bj k_)) hg (by repeat (first|(with_reducible first|exact HK.out|apply Kept.alloc|apply Kept.drewN|apply Kept.drew)|exact HK.out)) (fun k_ e_=>(Pe.out.1 k_ e_)));clear Pe HB HK;have Pe:=Fb;have HB:=Lb;have HK:=Vb;clear Fb Lb Vb hg hw Tk;have p7:0 ≤ (Aa:Int):=of_decide_eq_true (by first|(with_reducible assumption)|assumption);have q7:(Aa:Int) < ((Td.length:Int):Int):=of_decide_eq_true (by first|(with_reducible assumption)|assumption);obtain ⟨ce7,Jan,hM7,yG,pG⟩:=Kd.aj Pe.out Cj (Aa:Int) p7 q7;obtain rfl:=bg hM7;have wO:jl.cell? ⟨kg,(Aa:Int).toNat * 7,none⟩=some (.int .i64 ((Ba Yd Aa).f0)):=yG 0 _ rfl;have maq:jl.cell? ⟨kg,(Aa:Int).toNat * 7 + 1,none⟩=some (.int .i64 ((Ba Yd Aa).f1)):=yG 1 _ rfl;have laq:jl.cell? ⟨kg,(Aa:Int).toNat * 7 + 2,none⟩=some (.int .i64 ((Ba Yd Aa).f2)):=yG 2 _ rfl;have kaq:jl.cell? ⟨kg,(Aa:Int).toNat * 7 + 3,none⟩=some (.int .i64 ((Ba Yd Aa).f3)):=yG 3 _ rfl;have jaq:jl.cell? ⟨kg,(Aa:Int).toNat * 7 + 4,none⟩=some (.int .i64 ((Ba Yd Aa).f4)):=yG 4 _ rfl;have iaq:jl.cell? ⟨kg,(Aa:Int).toNat * 7 + 5,none⟩=some (.int .i64 ((Ba Yd Aa).f5)):=yG 5 _ rfl;have haq:jl.cell? ⟨kg,(Aa:Int).toNat * 7 + 6,none⟩=some (.string ((Ba Yd Aa).f6)):=yG 6 _ rfl;have B9:jl.frozen? ⟨kg,(Aa:Int).toNat * 7,none⟩=false:=pG 0;have Bas:jl.frozen? ⟨kg,(Aa:Int).toNat * 7 + 1,none⟩=false:=pG 1;have Aas:jl.frozen? ⟨kg,(Aa:Int).toNat * 7 + 2,none⟩=false:=pG 2;have zas:jl.frozen? ⟨kg,(Aa:Int).toNat * 7 + 3,none⟩=false:=pG 3;have yas:jl.frozen? ⟨kg,(Aa:Int).toNat * 7 + 4,none⟩=false:=pG 4;have xas:jl.frozen? ⟨kg,(Aa:Int).toNat * 7 + 5,none⟩=false:=pG 5;have vas:jl.frozen? ⟨kg,(Aa:Int).toNat * 7 + 6,none⟩=false:=pG 6;clear Jan yG pG hM7;replace p7:=eq_true p7;replace q7:=eq_true q7;have pac:=ga.mk (show Kd.R Pf 122 jl w0.heap.size (fun k_=>(Bj k_ ∨ w.heap.size ≤ k_)) (.slice (some ⟨kg,0,none⟩) Td.length Kt) Yd from (by (with_reducible repeat (first|apply Kd.Xa|apply Kd.Wa|apply Kd.yb));exact Pe.out));obtain ⟨Wav,LW,taa,xP,CW⟩:=Kd.aj pac.out Cj (Aa:Int) (of_decide_eq_true (by first|(with_reducible assumption)|assumption)) (by have h_:(Aa:Int) < ((Td.length:Int):Int):=of_decide_eq_true (by first|(with_reducible assumption)|assumption);first|exact h_|(have e_:=(Kd.Tb Pe.out).1;omega)|simpa using h_);obtain rfl:=bg taa;have Y3:=Kd.Vw pac.out (Aa:Int) (of_decide_eq_true (by first|(with_reducible assumption)|assumption)) (by have h_:(Aa:Int) < ((Td.length:Int):Int):=of_decide_eq_true (by first|(with_reducible assumption)|assumption);first|exact h_|(have e_:=(Kd.Tb Pe.out).1;omega)|simpa using h_) (seg:=[.int .i64 (wrap64 ((wrap64 (Zd + 1)) + 1))]) (j:=2) LW xP (show 3 ≤ 7 from by decide) (x':=(⟨(Ba Yd Aa).f0,(Ba Yd Aa).f1,wrap64 ((wrap64 (Zd + 1)) + 1),(Ba Yd Aa).f3,(Ba Yd Aa).f4,(Ba Yd Aa).f5,(Ba Yd Aa).f6⟩:Vc)) (Ek _ _ _ (⟨(Ba Yd Aa).f0,(Ba Yd Aa).f1,wrap64 ((wrap64 (Zd + 1)) + 1),(Ba Yd Aa).f3,(Ba Yd Aa).f4,(Ba Yd Aa).f5,(Ba Yd Aa).f6⟩:Vc) ) (fun _ hk=>hk);have SY:=xP 2 _ rfl;(try simp only [show (Pf).sz=7 from rfl,Nat.mul_one,Nat.add_zero] at SY);have tZ:=CW 2;(try simp only [show (Pf).sz=7 from rfl,Nat.mul_one,Nat.add_zero] at tZ);clear LW xP CW taa)|((with_reducible refine Xe (t:=3) (p:=30) rfl ?_);refine Ae (t:=3) (p:=30) (v:=?zal) (w1:=(jl.setCell ⟨kg,(Aa:Int).toNat * 7 + 2,none⟩ (.int .i64 (wrap64 ((wrap64 (Zd + 1)) + 1))))) ?hg ?ho ?hn ?hr ?_;(case ho=>rfl);(case hg=>rfl);(case hn=>rfl);(case hr=>first|(go_simp;done)|(go_simp;rfl));intro cx hw;have hg:jl.grownBy cx (some kg):=(by rw [hw];exact Y3.2);have Tk:Kd.R Pf 122 cx w0.heap.size (fun k_=>(Bj k_ ∨ w.heap.size ≤ k_)) (.slice (some ⟨kg,0,none⟩) Td.length Kt) ug:=(by rw [hw,GQ.out];exact Y3.1);clear Y3;have Fb:=ga.mk (Tk);have Lb:=ga.mk ((by rw [hw];exact ua (HB.out) WV.out:Below w0.heap.size w0 cx));have Vb:=ga.mk (Kept.Dg (S:=(fun k_=>Bj k_)) hg (by repeat (first|(with_reducible first|exact HK.out|apply Kept.alloc|apply Kept.drewN|apply Kept.drew)|exact HK.out)) (fun k_ e_=>(Pe.out.1 k_ e_)));clear Pe HB HK;have Pe:=Fb;have HB:=Lb;have HK:=Vb;clear Fb Lb Vb hg hw Tk;have p8:0 ≤ (Aa:Int):=of_decide_eq_true (by first|(with_reducible assumption)|assumption);have q8:(Aa:Int) < ((Td.length:Int):Int):=of_decide_eq_true (by first|(with_reducible assumption)|assumption);obtain ⟨ce8,Ian,hM8,xG,oG⟩:=Kd.aj Pe.out Cj (Aa:Int) p8 q8;obtain rfl:=bg hM8;have gW:cx.cell? ⟨kg,(Aa:Int).toNat * 7,none⟩=some (.int .i64 ((Ba ug Aa).f0)):=xG 0 _ rfl;have gaq:cx.cell? ⟨kg,(Aa:Int).toNat * 7 + 1,none⟩=some (.int .i64 ((Ba ug Aa).f1)):=xG 1 _ rfl;have faq:cx.cell? ⟨kg,(Aa:Int).toNat * 7 + 2,none⟩=some (.int .i64 ((Ba ug Aa).f2)):=xG 2 _ rfl;have eaq:cx.cell? ⟨kg,(Aa:Int).toNat * 7 + 3,none⟩=some (.int .i64 ((Ba ug Aa).f3)):=xG 3 _ rfl;have daq:cx.cell? ⟨kg,(Aa:Int).toNat * 7 + 4,none⟩=some (.int .i64 ((Ba ug Aa).f4)):=xG 4 _ rfl;have caq:cx.cell? ⟨kg,(Aa:Int).toNat * 7 + 5,none⟩=some (.int .i64 ((Ba ug Aa).f5)):=xG 5 _ rfl;have baq:cx.cell? ⟨kg,(Aa:Int).toNat * 7 + 6,none⟩=some (.string ((Ba ug Aa).f6)):=xG 6 _ rfl;have FW:cx.frozen? ⟨kg,(Aa:Int).toNat * 7,none⟩=false:=oG 0;have uas:cx.frozen? ⟨kg,(Aa:Int).toNat * 7 + 1,none⟩=false:=oG 1;have tas:cx.frozen? ⟨kg,(Aa:Int).toNat * 7 + 2,none⟩=false:=oG 2;have sas:cx.frozen? ⟨kg,(Aa:Int).toNat * 7 + 3,none⟩=false:=oG 3;have ras:cx.frozen? ⟨kg,(Aa:Int).toNat * 7 + 4,none⟩=false:=oG 4;have qas:cx.frozen? ⟨kg,(Aa:Int).toNat * 7 + 5,none⟩=false:=oG 5;have pas:cx.frozen? ⟨kg,(Aa:Int).toNat * 7 + 6,none⟩=false:=oG 6;clear Ian xG oG hM8;replace p8:=eq_true p8;replace q8:=eq_true q8;have oac:=ga.mk (show Kd.R Pf 122 cx w0.heap.size (fun k_=>(Bj k_ ∨ w.heap.size ≤ k_)) (.slice (some ⟨kg,0,none⟩) Td.length Kt) ug from (by (with_reducible repeat (first|apply Kd.Xa|apply Kd.Wa|apply Kd.yb));exact Pe.out));obtain ⟨Vav,KW,saa,wP,AW⟩:=Kd.aj oac.out Cj (Aa:Int) (of_decide_eq_true (by first|(with_reducible assumption)|assumption)) (by have h_:(Aa:Int) < ((Td.length:Int):Int):=of_decide_eq_true (by first|(with_reducible assumption)|assumption);first|exact h_|(have e_:=(Kd.Tb Pe.out).1;omega)|simpa using h_);obtain rfl:=bg saa;have X3:=Kd.Vw oac.out (Aa:Int) (of_decide_eq_true (by first|(with_reducible assumption)|assumption)) (by have h_:(Aa:Int) < ((Td.length:Int):Int):=of_decide_eq_true (by first|(with_reducible assumption)|assumption);first|exact h_|(have e_:=(Kd.Tb Pe.out).1;omega)|simpa using h_) (seg:=[.int .i64 (wrap64 ((wrap64 ((wrap64 (Zd + 1)) + 1)) + 1))]) (j:=3) KW wP (show 4 ≤ 7 from by decide) (x':=(⟨(Ba ug Aa).f0,(Ba ug Aa).f1,(Ba ug Aa).f2,wrap64 ((wrap64 ((wrap64 (Zd + 1)) + 1)) + 1),(Ba ug Aa).f4,(Ba ug Aa).f5,(Ba ug Aa).f6⟩:Vc)) (Ek _ _ _ (⟨(Ba ug Aa).f0,(Ba ug Aa).f1,(Ba ug Aa).f2,wrap64 ((wrap64 ((wrap64 (Zd + 1)) + 1)) + 1),(Ba ug Aa).f4,(Ba ug Aa).f5,(Ba ug Aa).f6⟩:Vc) ) (fun _ hk=>hk);have RY:=wP 3 _ rfl;(try simp only [show (Pf).sz=7 from rfl,Nat.mul_one,Nat.add_zero] at RY);have sZ:=AW 3;(try simp only [show (Pf).sz=7 from rfl,Nat.mul_one,Nat.add_zero] at sZ);clear KW wP AW saa)|((with_reducible refine Xe (t:=3) (p:=37) rfl ?_);refine Ae (t:=3) (p:=37) (v:=?yal) (w1:=(cx.setCell ⟨kg,(Aa:Int).toNat * 7 + 3,none⟩ (.int .i64 (wrap64 ((wrap64 ((wrap64 (Zd + 1)) + 1)) + 1))))) ?hg ?ho ?hn ?hr ?_;(case ho=>rfl);(case hg=>rfl);(case hn=>rfl);(case hr=>first|(go_simp;done)|(go_simp;rfl));intro Kq hw;have hg:cx.grownBy Kq (some kg):=(by rw [hw];exact X3.2);have Tk:Kd.R Pf 122 Kq w0.heap.size (fun k_=>(Bj k_ ∨ w.heap.size ≤ k_)) (.slice (some ⟨kg,0,none⟩) Td.length Kt) Lf:=(by rw [hw,tH.out];exact X3.1);clear X3;have Fb:=ga.mk (Tk);have Lb:=ga.mk ((by rw [hw];exact ua (HB.out) WV.out:Below w0.heap.size w0 Kq));have Vb:=ga.mk (Kept.Dg (S:=(fun k_=>Bj k_)) hg (by repeat (first|(with_reducible first|exact HK.out|apply Kept.alloc|apply Kept.drewN|apply Kept.drew)|exact HK.out)) (fun k_ e_=>(Pe.out.1 k_ e_)));clear Pe HB HK;have Pe:=Fb;have HB:=Lb;have HK:=Vb;clear Fb Lb Vb hg hw Tk;have p9:0 ≤ (Aa:Int):=of_decide_eq_true (by first|(with_reducible assumption)|assumption);have q9:(Aa:Int) < ((Td.length:Int):Int):=of_decide_eq_true (by first|(with_reducible assumption)|assumption);obtain ⟨ce9,Han,hM9,wG,nG⟩:=Kd.aj Pe.out Cj (Aa:Int) p9 q9;obtain rfl:=bg hM9;have vO:Kq.cell? ⟨kg,(Aa:Int).toNat * 7,none⟩=some (.int .i64 ((Ba Lf Aa).f0)):=wG 0 _ rfl;have aaq:Kq.cell? ⟨kg,(Aa:Int).toNat * 7 + 1,none⟩=some (.int .i64 ((Ba Lf Aa).f1)):=wG 1 _ rfl;have Zap:Kq.cell? ⟨kg,(Aa:Int).toNat * 7 + 2,none⟩=some (.int .i64 ((Ba Lf Aa).f2)):=wG 2 _ rfl;have Yap:Kq.cell? ⟨kg,(Aa:Int).toNat * 7 + 3,none⟩=some (.int .i64 ((Ba Lf Aa).f3)):=wG 3 _ rfl;have Xap:Kq.cell? ⟨kg,(Aa:Int).toNat * 7 + 4,none⟩=some (.int .i64 ((Ba Lf Aa).f4)):=wG 4 _ rfl;have Wap:Kq.cell? ⟨kg,(Aa:Int).toNat * 7 + 5,none⟩=some (.int .i64 ((Ba Lf Aa).f5)):=wG 5 _ rfl;have Vap:Kq.cell? ⟨kg,(Aa:Int).toNat * 7 + 6,none⟩=some (.string ((Ba Lf Aa).f6)):=wG 6 _ rfl;have eP:Kq.frozen? ⟨kg,(Aa:Int).toNat * 7,none⟩=false:=nG 0;have oas:Kq.frozen? ⟨kg,(Aa:Int).toNat * 7 + 1,none⟩=false:=nG 1;have nas:Kq.frozen? ⟨kg,(Aa:Int).toNat * 7 + 2,none⟩=false:=nG 2;have mas:Kq.frozen? ⟨kg,(Aa:Int).toNat * 7 + 3,none⟩=false:=nG 3;have las:Kq.frozen? ⟨kg,(Aa:Int).toNat * 7 + 4,none⟩=false:=nG 4;have kas:Kq.frozen? ⟨kg,(Aa:Int).toNat * 7 + 5,none⟩=false:=nG 5;have jas:Kq.frozen? ⟨kg,(Aa:Int).toNat * 7 + 6,none⟩=false:=nG 6;clear Han wG nG hM9;replace p9:=eq_true p9;replace q9:=eq_true q9;have nac:=ga.mk (show Kd.R Pf 122 Kq w0.heap.size (fun k_=>(Bj k_ ∨ w.heap.size ≤ k_)) (.slice (some ⟨kg,0,none⟩) Td.length Kt) Lf from (by (with_reducible repeat (first|apply Kd.Xa|apply Kd.Wa|apply Kd.yb));exact Pe.out));obtain ⟨Uav,JW,raa,vP,zW⟩:=Kd.aj nac.out Cj (Aa:Int) (of_decide_eq_true (by first|(with_reducible assumption)|assumption)) (by have h_:(Aa:Int) < ((Td.length:Int):Int):=of_decide_eq_true (by first|(with_reducible assumption)|assumption);first|exact h_|(have e_:=(Kd.Tb Pe.out).1;omega)|simpa using h_);obtain rfl:=bg raa;have W3:=Kd.Vw nac.out (Aa:Int) (of_decide_eq_true (by first|(with_reducible assumption)|assumption)) (by have h_:(Aa:Int) < ((Td.length:Int):Int):=of_decide_eq_true (by first|(with_reducible assumption)|assumption);first|exact h_|(have e_:=(Kd.Tb Pe.out).1;omega)|simpa using h_) (seg:=[.int .i64 (wrap64 ((wrap64 ((wrap64 ((wrap64 (Zd + 1)) + 1)) + 1)) + 1))]) (j:=4) JW vP (show 5 ≤ 7 from by decide) (x':=(⟨(Ba Lf Aa).f0,(Ba Lf Aa).f1,(Ba Lf Aa).f2,(Ba Lf Aa).f3,wrap64 ((wrap64 ((wrap64 ((wrap64 (Zd + 1)) + 1)) + 1)) + 1),(Ba Lf Aa).f5,(Ba Lf Aa).f6⟩:Vc)) (Ek _ _ _ (⟨(Ba Lf Aa).f0,(Ba Lf Aa).f1,(Ba Lf Aa).f2,(Ba Lf Aa).f3,wrap64 ((wrap64 ((wrap64 ((wrap64 (Zd + 1)) + 1)) + 1)) + 1),(Ba Lf Aa).f5,(Ba Lf Aa).f6⟩:Vc) ) (fun _ hk=>hk);have QY:=vP 4 _ rfl;(try simp only [show (Pf).sz=7 from rfl,Nat.mul_one,Nat.add_zero] at QY);have rZ:=zW 4;(try simp only [show (Pf).sz=7 from rfl,Nat.mul_one,Nat.add_zero] at rZ);clear JW vP zW raa)|((with_reducible refine Xe (t:=3) (p:=44) rfl ?_);refine Ae (t:=3) (p:=44) (v:=?xal) (w1:=(Kq.setCell ⟨kg,(Aa:Int).toNat * 7 + 4,none⟩ (.int .i64 (wrap64 ((wrap64 ((wrap64 ((wrap64 (Zd + 1)) + 1)) + 1)) + 1))))) ?hg ?ho ?hn ?hr ?_;(case ho=>rfl);(case hg=>rfl);(case hn=>rfl);(case hr=>first|(go_simp;done)|(go_simp;rfl));intro Qt hw;have hg:Kq.grownBy Qt (some kg):=(by rw [hw];exact W3.2);have Tk:Kd.R Pf 122 Qt w0.heap.size (fun k_=>(Bj k_ ∨ w.heap.size ≤ k_)) (.slice (some ⟨kg,0,none⟩) Td.length Kt) Ce:=(by rw [hw,bp.out];exact W3.1);clear W3;have Fb:=ga.mk (Tk);have Lb:=ga.mk ((by rw [hw];exact ua (HB.out) WV.out:Below w0.heap.size w0 Qt));have Vb:=ga.mk (Kept.Dg (S:=(fun k_=>Bj k_)) hg (by repeat (first|(with_reducible first|exact HK.out|apply Kept.alloc|apply Kept.drewN|apply Kept.drew)|exact HK.out)) (fun k_ e_=>(Pe.out.1 k_ e_)));clear Pe HB HK;have Pe:=Fb;have HB:=Lb;have HK:=Vb;clear Fb Lb Vb hg hw Tk;have AB:0 ≤ (Aa:Int):=of_decide_eq_true (by first|(with_reducible assumption)|assumption);have zB:(Aa:Int) < ((Td.length:Int):Int):=of_decide_eq_true (by first|(with_reducible assumption)|assumption);obtain ⟨Oaa,vG,CG,mj,kj⟩:=Kd.aj Pe.out Cj (Aa:Int) AB zB;obtain rfl:=bg CG;have EO:Qt.cell? ⟨kg,(Aa:Int).toNat * 7,none⟩=some (.int .i64 ((Ba Ce Aa).f0)):=mj 0 _ rfl;have CO:Qt.cell? ⟨kg,(Aa:Int).toNat * 7 + 1,none⟩=some (.int .i64 ((Ba Ce Aa).f1)):=mj 1 _ rfl;have BO:Qt.cell? ⟨kg,(Aa:Int).toNat * 7 + 2,none⟩=some (.int .i64 ((Ba Ce Aa).f2)):=mj 2 _ rfl;have AO:Qt.cell? ⟨kg,(Aa:Int).toNat * 7 + 3,none⟩=some (.int .i64 ((Ba Ce Aa).f3)):=mj 3 _ rfl;have zO:Qt.cell? ⟨kg,(Aa:Int).toNat * 7 + 4,none⟩=some (.int .i64 ((Ba Ce Aa).f4)):=mj 4 _ rfl;have XY:Qt.cell? ⟨kg,(Aa:Int).toNat * 7 + 5,none⟩=some (.int .i64 ((Ba Ce Aa).f5)):=mj 5 _ rfl;have WY:Qt.cell? ⟨kg,(Aa:Int).toNat * 7 + 6,none⟩=some (.string ((Ba Ce Aa).f6)):=mj 6 _ rfl;have nP:Qt.frozen? ⟨kg,(Aa:Int).toNat * 7,none⟩=false:=kj 0;have mP:Qt.frozen? ⟨kg,(Aa:Int).toNat * 7 + 1,none⟩=false:=kj 1;have lP:Qt.frozen? ⟨kg,(Aa:Int).toNat * 7 + 2,none⟩=false:=kj 2;have kP:Qt.frozen? ⟨kg,(Aa:Int).toNat * 7 + 3,none⟩=false:=kj 3;have jP:Qt.frozen? ⟨kg,(Aa:Int).toNat * 7 + 4,none⟩=false:=kj 4;have xZ:Qt.frozen? ⟨kg,(Aa:Int).toNat * 7 + 5,none⟩=false:=kj 5;have wZ:Qt.frozen? ⟨kg,(Aa:Int).toNat * 7 + 6,none⟩=false:=kj 6;clear vG mj kj CG;replace AB:=eq_true AB;replace zB:=eq_true zB;have mac:=ga.mk (show Kd.R Pf 122 Qt w0.heap.size (fun k_=>(Bj k_ ∨ w.heap.size ≤ k_)) (.slice (some ⟨kg,0,none⟩) Td.length Kt) Ce from (by (with_reducible repeat (first|apply Kd.Xa|apply Kd.Wa|apply Kd.yb));exact Pe.out));obtain ⟨Tav,IW,qaa,uP,xW⟩:=Kd.aj mac.out Cj (Aa:Int) (of_decide_eq_true (by first|(with_reducible assumption)|assumption)) (by have h_:(Aa:Int) < ((Td.length:Int):Int):=of_decide_eq_true (by first|(with_reducible assumption)|assumption);first|exact h_|(have e_:=(Kd.Tb Pe.out).1;omega)|simpa using h_);obtain rfl:=bg qaa;have V3:=Kd.Vw mac.out (Aa:Int) (of_decide_eq_true (by first|(with_reducible assumption)|assumption)) (by have h_:(Aa:Int) < ((Td.length:Int):Int):=of_decide_eq_true (by first|(with_reducible assumption)|assumption);first|exact h_|(have e_:=(Kd.Tb Pe.out).1;omega)|simpa using h_) (seg:=[.int .i64 (wrap64 ((wrap64 ((wrap64 ((wrap64 ((wrap64 (Zd + 1)) + 1)) + 1)) + 1)) + 1))]) (j:=5) IW uP (show 6 ≤ 7 from by decide) (x':=(⟨(Ba Ce Aa).f0,(Ba Ce Aa).f1,(Ba Ce Aa).f2,(Ba Ce Aa).f3,(Ba Ce Aa).f4,wrap64 ((wrap64 ((wrap64 ((wrap64 ((wrap64 (Zd + 1)) + 1)) + 1)) + 1)) + 1),(Ba Ce Aa).f6⟩:Vc)) (Ek _ _ _ (⟨(Ba Ce Aa).f0,(Ba Ce Aa).f1,(Ba Ce Aa).f2,(Ba Ce Aa).f3,(Ba Ce Aa).f4,wrap64 ((wrap64 ((wrap64 ((wrap64 ((wrap64 (Zd + 1)) + 1)) + 1)) + 1)) + 1),(Ba Ce Aa).f6⟩:Vc) ) (fun _ hk=>hk);have PY:=uP 5 _ rfl;(try simp only [show (Pf).sz=7 from rfl,Nat.mul_one,Nat.add_zero] at PY);have qZ:=xW 5;(try simp only [show (Pf).sz=7 from rfl,Nat.mul_one,Nat.add_zero] at qZ);clear IW uP xW qaa)|((with_reducible refine Xe (t:=3) (p:=51) rfl ?_);refine Ae (t:=3) (p:=51) (v:=?wal) (w1:=(Qt.setCell ⟨kg,(Aa:Int).toNat * 7 + 5,none⟩ (.int .i64 (wrap64 ((wrap64 ((wrap64 ((wrap64 ((wrap64 (Zd + 1)) + 1)) + 1)) + 1)) + 1))))) ?hg ?ho ?hn ?hr ?_;(case ho=>rfl);(case hg=>rfl);(case hn=>rfl);(case hr=>first|(go_simp;done)|(go_simp;rfl));intro jY hw;have hg:Qt.grownBy jY (some kg):=(by rw [hw];exact V3.2);have Tk:Kd.R Pf 122 jY w0.heap.size (fun k_=>(Bj k_ ∨ w.heap.size ≤ k_)) (.slice (some ⟨kg,0,none⟩) Td.length Kt) He:=(by rw [hw,Yab.out];exact V3.1);clear V3;have Fb:=ga.mk (Tk);have Lb:=ga.mk ((by rw [hw];exact ua (HB.out) WV.out:Below w0.heap.size w0 jY));have Vb:=ga.mk (Kept.Dg (S:=(fun k_=>Bj k_)) hg (by repeat (first|(with_reducible first|exact HK.out|apply Kept.alloc|apply Kept.drewN|apply Kept.drew)|exact HK.out)) (fun k_ e_=>(Pe.out.1 k_ e_)));clear Pe HB HK;have Pe:=Fb;have HB:=Lb;have HK:=Vb;clear Fb Lb Vb hg hw Tk)|((with_reducible refine zb (f:=127) rfl ?_);refine Dc (some 57) rfl rfl Try.func127 (by kernel_rfl) rfl #[.int .i64 (wrap64 ((wrap64 ((wrap64 ((wrap64 ((wrap64 ((wrap64 (Zd + 1)) + 1)) + 1)) + 1)) + 1)) + 1))] rfl (by (try simp only [List.map_toArray,List.map_cons,List.map_nil]);first|done|rfl|(simp only [List.length_drop,List.length_take];rfl)) ?_;(with_reducible refine (Xc.calls k1 (wrap64 ((wrap64 ((wrap64 ((wrap64 ((wrap64 ((wrap64 (Zd + 1)) + 1)) + 1)) + 1)) + 1)) + 1)) t107 _ eY.out).mono ?_);rintro e mm ⟨rfl,hb⟩;refine ⟨_,rfl,?_⟩;have Fb:=ga.mk (Kd.Xf (by (with_reducible repeat (first|apply Kd.Xa|apply Kd.Wa|apply Kd.yb));exact Pe.out) hb);have Lb:=ga.mk (Kept.below (S:=(fun k_=>Bj k_)) (by repeat (first|(with_reducible first|exact HK.out|apply Kept.alloc|apply Kept.drewN|apply Kept.drew)|exact HK.out)) hb);have Vb:=ga.mk (Qa (by repeat (first|(with_reducible first|exact HB.out|apply oa|apply ia|apply qa)|exact HB.out)) hb);clear Pe HK HB;have Pe:=Fb;have HK:=Lb;have HB:=Vb;clear Fb Lb Vb;(try clear hb);(try clear Jj);(try clear hk);(try clear hi);have p12:0 ≤ (Aa:Int):=of_decide_eq_true (by first|(with_reducible assumption)|assumption);have q12:(Aa:Int) < ((Td.length:Int):Int):=of_decide_eq_true (by first|(with_reducible assumption)|assumption);obtain ⟨Maa,LB,BG,Vi,jj⟩:=Kd.aj Pe.out Cj (Aa:Int) p12 q12;obtain rfl:=bg BG;have FC:mm.cell? ⟨kg,(Aa:Int).toNat * 7,none⟩=some (.int .i64 ((Ba He Aa).f0)):=Vi 0 _ rfl;have EC:mm.cell? ⟨kg,(Aa:Int).toNat * 7 + 1,none⟩=some (.int .i64 ((Ba He Aa).f1)):=Vi 1 _ rfl;have DC:mm.cell? ⟨kg,(Aa:Int).toNat * 7 + 2,none⟩=some (.int .i64 ((Ba He Aa).f2)):=Vi 2 _ rfl;have CC:mm.cell? ⟨kg,(Aa:Int).toNat * 7 + 3,none⟩=some (.int .i64 ((Ba He Aa).f3)):=Vi 3 _ rfl;have BC:mm.cell? ⟨kg,(Aa:Int).toNat * 7 + 4,none⟩=some (.int .i64 ((Ba He Aa).f4)):=Vi 4 _ rfl;have yO:mm.cell? ⟨kg,(Aa:Int).toNat * 7 + 5,none⟩=some (.int .i64 ((Ba He Aa).f5)):=Vi 5 _ rfl;have xO:mm.cell? ⟨kg,(Aa:Int).toNat * 7 + 6,none⟩=some (.string ((Ba He Aa).f6)):=Vi 6 _ rfl;have JD:mm.frozen? ⟨kg,(Aa:Int).toNat * 7,none⟩=false:=jj 0;have ID:mm.frozen? ⟨kg,(Aa:Int).toNat * 7 + 1,none⟩=false:=jj 1;have GD:mm.frozen? ⟨kg,(Aa:Int).toNat * 7 + 2,none⟩=false:=jj 2;have FD:mm.frozen? ⟨kg,(Aa:Int).toNat * 7 + 3,none⟩=false:=jj 3;have ED:mm.frozen? ⟨kg,(Aa:Int).toNat * 7 + 4,none⟩=false:=jj 4;have iP:mm.frozen? ⟨kg,(Aa:Int).toNat * 7 + 5,none⟩=false:=jj 5;have gP:mm.frozen? ⟨kg,(Aa:Int).toNat * 7 + 6,none⟩=false:=jj 6;clear LB Vi jj BG;replace p12:=eq_true p12;replace q12:=eq_true q12;have lac:=ga.mk (show Kd.R Pf 122 mm w0.heap.size (fun k_=>(Bj k_ ∨ w.heap.size ≤ k_)) (.slice (some ⟨kg,0,none⟩) Td.length Kt) He from (by (with_reducible repeat (first|apply Kd.Xa|apply Kd.Wa|apply Kd.yb));exact Pe.out));obtain ⟨Sav,GW,paa,tP,wW⟩:=Kd.aj lac.out Cj (Aa:Int) (of_decide_eq_true (by first|(with_reducible assumption)|assumption)) (by have h_:(Aa:Int) < ((Td.length:Int):Int):=of_decide_eq_true (by first|(with_reducible assumption)|assumption);first|exact h_|(have e_:=(Kd.Tb Pe.out).1;omega)|simpa using h_);obtain rfl:=bg paa;have U3:=Kd.Vw lac.out (Aa:Int) (of_decide_eq_true (by first|(with_reducible assumption)|assumption)) (by have h_:(Aa:Int) < ((Td.length:Int):Int):=of_decide_eq_true (by first|(with_reducible assumption)|assumption);first|exact h_|(have e_:=(Kd.Tb Pe.out).1;omega)|simpa using h_) (seg:=[.string t107]) (j:=6) GW tP (show 7 ≤ 7 from by decide) (x':=(⟨(Ba He Aa).f0,(Ba He Aa).f1,(Ba He Aa).f2,(Ba He Aa).f3,(Ba He Aa).f4,(Ba He Aa).f5,t107⟩:Vc)) (Ek _ _ _ (⟨(Ba He Aa).f0,(Ba He Aa).f1,(Ba He Aa).f2,(Ba He Aa).f3,(Ba He Aa).f4,(Ba He Aa).f5,t107⟩:Vc) ) (fun _ hk=>hk);have OY:=tP 6 _ rfl;(try simp only [show (Pf).sz=7 from rfl,Nat.mul_one,Nat.add_zero] at OY);have pZ:=wW 6;(try simp only [show (Pf).sz=7 from rfl,Nat.mul_one,Nat.add_zero] at pZ);clear GW tP wW paa)|((with_reducible refine Xe (t:=9) (p:=59) rfl ?_);refine Ae (t:=9) (p:=59) (v:=?ual) (w1:=(mm.setCell ⟨kg,(Aa:Int).toNat * 7 + 6,none⟩ (.string t107))) ?hg ?ho ?hn ?hr ?_;(case ho=>rfl);(case hg=>rfl);(case hn=>rfl);(case hr=>first|(go_simp;done)|(go_simp;rfl));intro DH hw;have hg:mm.grownBy DH (some kg):=(by rw [hw];exact U3.2);have Tk:Kd.R Pf 122 DH w0.heap.size (fun k_=>(Bj k_ ∨ w.heap.size ≤ k_)) (.slice (some ⟨kg,0,none⟩) Td.length Kt) Mz:=(by rw [hw,Zt.out];exact U3.1);clear U3;have Fb:=ga.mk (Tk);have Lb:=ga.mk ((by rw [hw];exact ua (HB.out) WV.out:Below w0.heap.size w0 DH));have Vb:=ga.mk (Kept.Dg (S:=(fun k_=>Bj k_)) hg (by repeat (first|(with_reducible first|exact HK.out|apply Kept.alloc|apply Kept.drewN|apply Kept.drew)|exact HK.out)) (fun k_ e_=>(Pe.out.1 k_ e_)));clear Pe HB HK;have Pe:=Fb;have HB:=Lb;have HK:=Vb;clear Fb Lb Vb hg hw Tk))
     go_roundg k1
     case measure=>have:=Gf.out;omega
     case rel=>exact ⟨(Mz),(wrap64 ((wrap64 ((wrap64 ((wrap64 ((wrap64 ((wrap64 ((wrap64 (Zd + 1)) + 1)) + 1)) + 1)) + 1)) + 1)) + 1)),(wrap64 (Aa + 1)),(by first|rfl|(simp;done)|(simp [*];done)),(by first|rfl|(simp;done)|(simp [*];done)),H',⟨by have:=Gf.out;omega⟩,⟨by (with_reducible repeat (first|apply Kd.Xa|apply Kd.Wa|apply Kd.yb));exact Pe.out⟩,⟨by repeat (first|(with_reducible first|exact HK.out|apply Kept.alloc|apply Kept.drewN|apply Kept.drew)|exact HK.out)⟩,⟨by repeat (first|(with_reducible first|exact HB.out|apply oa|apply ia|apply qa)|exact HB.out)⟩⟩
    ·rw [if_neg c4] at H;exact absurd H (by simp)
   ·rw [if_neg c3] at H;have Cg:decide (Aa < (Td.length:Int))=false:=decide_eq_false c3;clear c3;simp only [Option.some.injEq,Prod.mk.injEq] at H;obtain ⟨rfl,rfl⟩:=H;obtain ⟨Oaw,Iav,rao⟩:=Kd.Jd Pe.out;subst rao;go_wp2;go_ret;exact ⟨by first|rfl|(simp [Na,Ma] <;> rfl)|(simp [*,Na,Ma] <;> rfl),by (with_reducible repeat (first|apply Kd.Xa|apply Kd.Wa|apply Kd.yb));exact Pe.out,by repeat (first|(with_reducible first|exact HB.out|apply oa|apply ia|apply qa)|exact HB.out),by repeat (first|(with_reducible first|exact HK.out|apply Kept.alloc|apply Kept.drewN|apply Kept.drew)|exact HK.out)⟩
def Vd.l0:Nat→List Int→Int→Int→Option (Int × List Int)
 | 0,_,_,_=>none
 | k + 1,x0,x1,x5=>if x5 < (x0.length:Int) then (if 0 ≤ x5 then (Vd.l0 k (x0.set (x5:Int).toNat x1) (wrap64 (x1 + 1)) (wrap64 (x5 + 1))) else (none)) else (some (x1,x0))
def Vd.f (k:Nat) (l0:List Int) (a1:Int):Option (Int × List Int):=Vd.l0 k l0 a1 0
theorem Vd.calls (k:Nat) (Bj:Nat→Prop) (Nf:Value) (l0:List Int) (a1:Int) (r1:Int) (r2:List Int) (w0 w:World) (hB:Below w0.heap.size w0 w) (Zi:Kd.R (Kd.int .i64) 3 w w0.heap.size Bj Nf l0) (h:Vd.f k l0 a1=some (r1,r2)) :
  Calls Try.prog 20 #[Nf,.int .i64 a1] w fun e w'=>e = .returned (.int .i64 r1)∧Kd.R (Kd.int .i64) 3 w' w0.heap.size (fun k_=>(Bj k_ ∨ w.heap.size ≤ k_)) Nf r2∧Below w0.heap.size w0 w'∧Kept w w' (fun k_=>Bj k_):=by
 have o5:=ga.mk (show Kd.R (Kd.int .i64) 3 w w0.heap.size (fun k_=>(Bj k_ ∨ w.heap.size ≤ k_)) Nf l0 from Kd.Jc Zi (fun k_ hk=>(.inl hk)));have HK:=ga.mk (Kept.refl w (fun k_=>Bj k_));have HW0:=ga.mk hB.size;have HB:=ga.mk hB;clear hB;have H:(Vd.l0 k l0 a1 0)=some (r1,r2):=h;clear h;have H':=ga.mk H;clear H;go_enter Try.func20,Try.ntmps20;go_wp2
 go_loopg [1,5] k (fun kq v1 v5 w'=>∃ (Td:List Int) (Zd:Int) (Aa:Int),v1 = .int .i64 Zd∧v5 = .int .i64 Aa∧ga (Vd.l0 kq Td Zd Aa=some (r1,r2))∧ga (kq ≤ k)∧ga (Kd.R (Kd.int .i64) 3 w' w0.heap.size (fun k_=>(Bj k_ ∨ w.heap.size ≤ k_)) Nf Td)∧ga (Kept w w' (fun k_=>Bj k_))∧ga (Below w0.heap.size w0 w'))
 case atStart=>exact ⟨(l0),(a1),(0),(by first|rfl|(simp;done)|(simp [*];done)),(by first|rfl|(simp;done)|(simp [*];done)),H',⟨Nat.le_refl _⟩,⟨by (with_reducible repeat (first|apply Kd.Xa|apply Kd.Wa|apply Kd.yb));exact o5.out⟩,⟨by repeat (first|(with_reducible first|exact HK.out|apply Kept.alloc|apply Kept.drewN|apply Kept.drew)|exact HK.out)⟩,⟨by repeat (first|(with_reducible first|exact HB.out|apply oa|apply ia|apply qa)|exact HB.out)⟩⟩
 case round =>
  clear H'
  try clear c2
  try clear p2
  (try clear HA);(try clear Gf);(try clear Pe);(try clear HK);(try clear HB);obtain ⟨Td,Zd,Aa,rfl,rfl,HA,Gf,Pe,HK,HB⟩:=hrel;cases gk with
  | zero=>exact absurd HA.out (by simp [Vd.l0])
  | succ k1 =>
   have H:=HA.out;clear HA;simp only [Vd.l0] at H
   by_cases c3:Aa < (Td.length:Int)
   ·rw [if_pos c3] at H;have Cg:decide (Aa < (Td.length:Int))=true:=decide_eq_true c3;clear c3
    by_cases c4:0 ≤ Aa
    ·rw [if_pos c4] at H;have Aj:decide (0 ≤ Aa)=true:=decide_eq_true c4;clear c4;obtain ⟨Mf,Tf⟩:∃ y_:List Int,y_=(Td.set (Aa:Int).toNat Zd):=⟨_,rfl⟩;replace H:(Vd.l0 k1 Mf (wrap64 (Zd + 1)) (wrap64 (Aa + 1)))=some (r1,r2):=by first|(rw [Tf];with_reducible exact H)|(have Md:=(Option.bind_some _ _).symm.trans H;rw [Tf];with_reducible exact Md)|(have Md:=(Option.bind_some _ _).symm.trans H;with_reducible exact Md)|with_reducible exact H|(rw [Tf];exact H)|exact H
     have Sj:=ga.mk Tf;clear Tf;have H':=ga.mk H;clear H;obtain ⟨Ao6,Nw,eo6⟩:=Kd.Jd Pe.out;subst eo6;have p5:0 ≤ (Aa:Int):=of_decide_eq_true (by first|(with_reducible assumption)|assumption);have q5:(Aa:Int) < ((Td.length:Int):Int):=of_decide_eq_true (by first|(with_reducible assumption)|assumption);obtain ⟨kg,co5,PZ,gb5,gl5,cl5,VX⟩:=Kd.jk Pe.out (by omega);(first|cases PZ|(injection PZ with Uj sy uy;(first|subst Uj|(injection Uj with Uj;subst Uj));subst uy;clear sy));have WV:=ga.mk gb5;have GG5:=ga.mk VX;clear gb5 gl5 VX;have Oac:=ga.mk (show (Bj kg ∨ w.heap.size ≤ kg) from (Pe.out.1 _ rfl));obtain ⟨X5,C9⟩:=Kd.gh 0 Pe.out (Aa:Int) p5 q5;replace p5:=eq_true p5;replace q5:=eq_true q5;have HP7:=Kd.Cl Pe.out (Aa:Int) Zd;go_wp2_with (first|((with_reducible refine Xe (t:=3) (p:=15) rfl ?_);refine Ae (t:=3) (p:=15) (v:=?Hap) (w1:=(wr.setCell ⟨kg,(Aa:Int).toNat,none⟩ (.int .i64 Zd))) ?hg ?ho ?hn ?hr ?_;(case ho=>rfl);(case hg=>rfl);(case hn=>rfl);(case hr=>first|(go_simp;done)|(go_simp;rfl));intro w8 hw;have hg:wr.grownBy w8 (some kg):=(by rw [hw];exact HP7.2);have Tk:Kd.R (Kd.int .i64) 3 w8 w0.heap.size (fun k_=>(Bj k_ ∨ w.heap.size ≤ k_)) (.slice (some ⟨kg,0,none⟩) Td.length Nw) Mf:=(by rw [hw,Sj.out];exact HP7.1);clear HP7;have Fb:=ga.mk (Tk);have Lb:=ga.mk ((by rw [hw];exact ua (HB.out) WV.out:Below w0.heap.size w0 w8));have Vb:=ga.mk (Kept.Dg (S:=(fun k_=>Bj k_)) hg (by repeat (first|(with_reducible first|exact HK.out|apply Kept.alloc|apply Kept.drewN|apply Kept.drew)|exact HK.out)) (fun k_ e_=>(Pe.out.1 k_ e_)));clear Pe HB HK;have Pe:=Fb;have HB:=Lb;have HK:=Vb;clear Fb Lb Vb hg hw Tk))
     go_roundg k1
     case measure=>have:=Gf.out;omega
     case rel=>exact ⟨(Mf),(wrap64 (Zd + 1)),(wrap64 (Aa + 1)),(by first|rfl|(simp;done)|(simp [*];done)),(by first|rfl|(simp;done)|(simp [*];done)),H',⟨by have:=Gf.out;omega⟩,⟨by (with_reducible repeat (first|apply Kd.Xa|apply Kd.Wa|apply Kd.yb));exact Pe.out⟩,⟨by repeat (first|(with_reducible first|exact HK.out|apply Kept.alloc|apply Kept.drewN|apply Kept.drew)|exact HK.out)⟩,⟨by repeat (first|(with_reducible first|exact HB.out|apply oa|apply ia|apply qa)|exact HB.out)⟩⟩
    ·rw [if_neg c4] at H;exact absurd H (by simp)
   ·rw [if_neg c3] at H;have Cg:decide (Aa < (Td.length:Int))=false:=decide_eq_false c3;clear c3;simp only [Option.some.injEq,Prod.mk.injEq] at H;obtain ⟨rfl,rfl⟩:=H;obtain ⟨Ao9,co9,eo9⟩:=Kd.Jd Pe.out;subst eo9;go_wp2;go_ret;exact ⟨by first|rfl|(simp [Na,Ma] <;> rfl)|(simp [*,Na,Ma] <;> rfl),by (with_reducible repeat (first|apply Kd.Xa|apply Kd.Wa|apply Kd.yb));exact Pe.out,by repeat (first|(with_reducible first|exact HB.out|apply oa|apply ia|apply qa)|exact HB.out),by repeat (first|(with_reducible first|exact HK.out|apply Kept.alloc|apply Kept.drewN|apply Kept.drew)|exact HK.out)⟩
def Cf.f (k:Nat):List zf→Int→Option (Int × List zf)
 | [],a=>some (a,[])
 | x :: l,a=>(Nc.f k x.f0 a).bind fun t=>(Cf.f k l (wrap64 (wrap64 (wrap64 (wrap64 (t.1 + 1) + 1) + 1) + 1))).bind fun u=>some (u.1,⟨t.2,t.1,wrap64 (t.1 + 1),wrap64 (wrap64 (t.1 + 1) + 1),wrap64 (wrap64 (wrap64 (t.1 + 1) + 1) + 1)⟩ :: u.2)
theorem JJ {α:Type} {done l:List α} {j:Nat} (x y:α) (h:done.length=j):(done ++ x :: l).set j y=(done ++ [y]) ++ l:=by
 subst h;rw [List.set_append_right _ _ (Nat.le_refl _),Nat.sub_self,List.set_cons_zero,List.append_assoc]
 rfl
theorem Cf.calls (k:Nat) (Bj:Nat→Prop) (Nf:Value) (l0:List zf) (a1:Int) (r1:Int) (r2:List zf) (w0 w:World) (hB:Below w0.heap.size w0 w) (Zi:Kd.S Bp 83 w w0.heap.size Bj Nf l0) (h:Cf.f k l0 a1=some (r1,r2)) :
  Calls Try.prog 84 #[Nf,.int .i64 a1] w fun e w'=>e = .returned (.int .i64 r1)∧Kd.S Bp 83 w' w0.heap.size (fun k_=>(Bj k_ ∨ w.heap.size ≤ k_)) Nf r2∧Below w0.heap.size w0 w'∧Kept w w' (fun k_=>Bj k_):=by
 obtain ⟨A,c,rfl,WA,hC⟩:=Kd.aM Zi;have hm:=hC.2.1;have HS:=ga.mk (Kd.Bg Zi (Cn:=fun k_=>Bj k_ ∨ w.heap.size ≤ k_) (fun k_ hk=>.inl hk));have HB:=ga.mk hB;have HK:=ga.mk (Kept.refl w (fun k_=>Bj k_));have HH:=ga.mk h;clear Zi hC hB h;go_enter Try.func84,Try.ntmps84;go_wp2
 go_loopg [1,5] l0.length (fun gg v1 v5 wr=>∃ (j:Nat) (a:Int) (done rest:List zf),j ≤ l0.length∧l0.length - j ≤ gg∧v1 = .int .i64 a∧v5 = .int .i64 j∧ga (done.length=j∧Cf.f k (l0.drop j) a=some (r1,rest)∧r2=done ++ rest)∧ga (Kd.S Bp 83 wr w0.heap.size (fun k_=>Bj k_ ∨ w.heap.size ≤ k_) (.slice A l0.length c) (done ++ l0.drop j))∧ga (Below w0.heap.size w0 wr)∧ga (Kept w wr (fun k_=>Bj k_)))
 case atStart=>exact ⟨0,a1,[],r2,Nat.zero_le _,by omega,rfl,rfl,⟨rfl,by simpa using HH.out,rfl⟩,⟨by simpa using HS.out⟩,HB,HK⟩
 case round =>
  clear HS HB HK HH;(try clear HD);(try clear HS);(try clear HB);(try clear HK);obtain ⟨j,a,done,rest,hj,hg,rfl,rfl,HD,HS,HB,HK⟩:=hrel
  by_cases hlt:j < l0.length
  ·have KC:decide ((j:Int) < (l0.length:Int))=true:=decide_eq_true (by omega);obtain ⟨d1,d2,d3⟩:=HD.out;have tw:l0.drop j=l0[j] :: l0.drop (j + 1):=List.drop_eq_getElem_cons hlt;rw [tw] at d2;unfold Cf.f at d2;obtain ⟨⟨a2,Oq⟩,t1,d2⟩:=Option.bind_eq_some_iff.mp d2;obtain ⟨⟨r1',rest'⟩,u1,d2⟩:=Option.bind_eq_some_iff.mp d2
   obtain ⟨rfl,rfl⟩:r1' = r1∧(⟨Oq,a2,wrap64 (a2 + 1),wrap64 (wrap64 (a2 + 1) + 1),wrap64 (wrap64 (wrap64 (a2 + 1) + 1) + 1)⟩:zf) :: rest' = rest:=by
    have:=Option.some.inj d2;exact ⟨congrArg Prod.fst this,congrArg Prod.snd this⟩
   have hlen:(done ++ l0.drop j).length=l0.length:=by rw [List.length_append,List.length_drop,d1];omega
   obtain ⟨g,cap,e1,hbg,kan,cells,Cp⟩:=Kd.gF HS.out (by rw [hlen];omega);obtain rfl:A=some ⟨g,0,none⟩:=by injection e1
   clear e1;have iS:=(Kd.wN HS.out).1 g rfl;obtain ⟨Gm,cs,hcs,hM,ry,IZ,JC,hH⟩:=Kd.Jx HS.out uF (j:Int) (by omega) (by omega)
   have hx:(done ++ l0.drop j).getD (Int.toNat (j:Int)) uF=l0[j]:=by
    rw [tw,Int.toNat_natCast,List.getD_eq_getElem?_getD,List.getElem?_append_right (by omega),d1];simp [List.getElem?_eq_getElem hlt]
   rw [hx] at hM;obtain ⟨v0,rfl,hR⟩:=zx hM;obtain ⟨A5,c5,rfl⟩:=Kd.Jd hR;have y0:=ry 0 _ rfl;have L4:=ga.mk (ry 1 _ rfl);have D5:=ga.mk (ry 2 _ rfl);have XX:=ga.mk (ry 3 _ rfl);have HC4:=ga.mk (ry 4 _ rfl);have HH:=ga.mk hH;have HR:=ga.mk hR;have HT:=ga.mk t1;have HU:=ga.mk u1;have D4:=ga.mk JC;have HG:=ga.mk iS;have HX:=ga.mk Cp;have HD:=ga.mk (And.intro d1 d3);have HDR:=ga.mk tw;simp only [Int.toNat_natCast,show Bp.sz=5 from rfl,Nat.add_zero] at y0 L4 D5 XX HC4;clear hH hR ry IZ hM hx JC iS Cp t1 u1 d1 d2 d3 tw hcs;go_wp2_with (first|(go_at_call 111;(with_reducible refine (Nc.calls k Gm _ l0[j].f0 a a2 Oq w0 wr HB.out HR.out HT.out).mono ?_);rintro e w1 ⟨rfl,hr,hb,hk⟩;have tJ:=ga.mk hr;have PA:=ga.mk hb;have Gf:=ga.mk hk;have mW:¬ Gm g:=fun h=>(D4.out g h).2 rfl;have hblk:=Nh HX.out hk mW;have z1:=Ct L4.out hk mW;have z2:=Ct D5.out hk mW;have z3:=Ct XX.out hk mW;have z4:=Ct HC4.out hk mW;have z5:=aa hblk (j * 5 + 1);have z6:=aa hblk (j * 5 + 2);have z7:=aa hblk (j * 5 + 3);have z8:=aa hblk (j * 5 + 4);clear hr hb hk mW hblk));have HH1:=ga.mk (Kd.JQ (Kd.nF HH.out) Gf.out (fun k_ _ hn hs=>hn (.inl hs)));obtain ⟨HS1,hgr⟩:=Kd.wX HH1.out (by omega) (by omega) (seg:=[.int .i64 a2,.int .i64 (wrap64 (a2 + 1)),.int .i64 (wrap64 (wrap64 (a2 + 1) + 1)),.int .i64 (wrap64 (wrap64 (wrap64 (a2 + 1) + 1) + 1))]) (j:=1) (show 1 + 4 ≤ 5 from by decide) (by intro q hq;simp at hq;rcases hq with rfl|rfl|rfl|rfl <;> rfl)
   go_roundg (l0.length - (j + 1))
   case measure=>omega
   case rel =>
    have hle:w.heap.size ≤ wr.heap.size:=HK.out.1;have mW:∀ k_,(Gm k_ ∨ wr.heap.size ≤ k_)→k_ ≠ g:=fun k_ hk=>hk.elim (fun h=>(D4.out k_ h).2) (fun h=>by omega)
    have hin:=Kd.xV tJ.out hgr (fun k_ hk e=>mW k_ hk (by injection e));have hfin:=Kd.qJ HS1 (x':=⟨Oq,a2,wrap64 (a2 + 1),wrap64 (wrap64 (a2 + 1) + 1),wrap64 (wrap64 (wrap64 (a2 + 1) + 1) + 1)⟩) (wC _ _ _ _ hin) (fun k_ hk=>hk.elim .inl (fun h=>.inr ⟨.inr (by omega),h⟩))
    have nA:(done ++ l0.drop j).set (Int.toNat (j:Int)) (⟨Oq,a2,wrap64 (a2 + 1),wrap64 (wrap64 (a2 + 1) + 1),wrap64 (wrap64 (wrap64 (a2 + 1) + 1) + 1)⟩:zf)=(done ++ [⟨Oq,a2,wrap64 (a2 + 1),wrap64 (wrap64 (a2 + 1) + 1),wrap64 (wrap64 (wrap64 (a2 + 1) + 1) + 1)⟩]) ++ l0.drop (j + 1):=by
     rw [HDR.out,Int.toNat_natCast];exact JJ _ _ HD.out.1
    rw [nA] at hfin;have hb4:=PA.out.grown hgr PA.out.size (fun k_ e=>by injection e with e;omega);have hk4:=Kept.Dg hgr (HK.out.Sz Gf.out (fun k_ hk=>(D4.out k_ hk).1)) (fun k_ e=>by injection e with e;subst e;exact HG.out);exact ⟨j + 1,_,_,rest',by omega,by omega,rfl,by go_num,⟨by simp [HD.out.1],HU.out,by rw [HD.out.2];simp⟩,⟨hfin⟩,⟨hb4⟩,⟨hk4⟩⟩
  ·have KC:decide ((j:Int) < (l0.length:Int))=false:=decide_eq_false (by omega);obtain rfl:j=l0.length:=by omega
   obtain ⟨d1,d2,d3⟩:=HD.out;rw [List.drop_length] at d2;unfold Cf.f at d2
   obtain ⟨rfl,rfl⟩:a=r1∧[]=rest:=by
    have:=Option.some.inj d2;exact ⟨congrArg Prod.fst this,congrArg Prod.snd this⟩
   have HD:=ga.mk d3;clear d1 d2 d3;go_wp2;go_ret;refine ⟨rfl,?_,HB.out,HK.out⟩;have:=HS.out;rw [List.drop_length] at this;rw [HD.out];exact this
def Mg.f (k:Nat) (Oa:List Int) (La:Int) (Pa:Int) (Ja:Int) (Fa:List zf) (a1:Int):Option (Int × List Int × List zf):=(Vd.f k Oa a1).bind fun t=>(Cf.f k Fa t.1).bind fun u=>some (u.1,t.2,u.2)
theorem Mg.calls (k:Nat) (rH:Nat→Prop) (Nf:Value) (Oa:List Int) (La:Int) (Pa:Int) (Ja:Int) (qH:Nat→Prop) (SH:Value) (Fa:List zf) (a1:Int) (r1:Int) (r2:List Int) (r3:List zf) (w0 w:World) (hB:Below w0.heap.size w0 w) (XO:Kd.R (Kd.int .i64) 3 w w0.heap.size rH Nf Oa) (WO:Kd.S Bp 83 w w0.heap.size qH SH Fa) (h:Mg.f k Oa La Pa Ja Fa a1=some (r1,r2,r3)) :
  Calls Try.prog 32 #[.agg #[Nf,.int .i64 La,.int .i64 Pa,.int .i64 Ja,SH],.int .i64 a1] w fun e w'=>e = .returned (.int .i64 r1)∧Kd.R (Kd.int .i64) 3 w' w0.heap.size (fun k_=>((rH k_ ∨ qH k_) ∨ w.heap.size ≤ k_)) Nf r2∧Kd.S Bp 83 w' w0.heap.size (fun k_=>((rH k_ ∨ qH k_) ∨ w.heap.size ≤ k_)) SH r3∧Below w0.heap.size w0 w'∧Kept w w' (fun k_=>rH k_ ∨ qH k_):=by
 obtain ⟨A0,c0,rfl⟩:=Kd.Jd XO;obtain ⟨A4,c4,rfl⟩:=Kd.Wk WO;unfold Mg.f at h;obtain ⟨⟨b1,b2⟩,t1,h⟩:=Option.bind_eq_some_iff.mp h;obtain ⟨⟨b3,b4⟩,t2,h⟩:=Option.bind_eq_some_iff.mp h
 obtain ⟨rfl,rfl,rfl⟩:b3=r1∧b2=r2∧b4=r3:=by
  have:=Option.some.inj h;exact ⟨congrArg Prod.fst this,congrArg (fun x=>x.2.1) this,congrArg (fun x=>x.2.2) this⟩
 obtain ⟨W1,mg⟩:∃ W1,W1=w.alloc (.cells #[.slice A0 Oa.length c0,.int .i64 La,.int .i64 Pa,.int .i64 Ja,.slice A4 Fa.length c4] 45 (0,0)):=⟨_,rfl⟩;have HW:=ga.mk mg;have hbW:Below w.heap.size w W1:=by rw [mg];exact oa (Below.refl _ _) _
 have hX1:W1.heap[w.heap.size]? = some (.cells #[.slice A0 Oa.length c0,.int .i64 La,.int .i64 Pa,.int .i64 Ja,.slice A4 Fa.length c4] 45 (0,0)):=by rw [mg];exact Xo _ _
 have H0:=ga.mk (Kd.Oh (Kd.Xf XO hbW));have H4:=ga.mk (Kd.Et (Kd.Le WO hbW));have HB:=ga.mk (hB.trans (hbW.mono hB.size));have HK:=ga.mk (Kept.Dn hbW (fun k_=>rH k_ ∨ qH k_));have HT1:=ga.mk t1;have HT2:=ga.mk t2;have HX:=ga.mk hX1;have hx0:=(ja hX1 0).trans rfl;clear mg hbW XO WO hB t1 t2 h hX1;go_enter Try.func32,Try.ntmps32
 go_upto_region 1 with (fail)
 rw [← HW.out];clear HW;go_wp2_with (first|(go_at_call 20;(with_reducible refine (Vd.calls k _ _ Oa a1 b1 b2 w0 W1 HB.out H0.out HT1.out).mono ?_);rintro e w2 ⟨rfl,hr,hb,hk⟩;have HR2:=ga.mk hr;have br:=ga.mk hb;have Fm:=ga.mk hk;have HX2:=ga.mk (Nh HX.out hk (by rintro ⟨_,_,_,q,hq,cells,hc⟩;rw [HX.out] at hc;injection hc with hc;injection hc with _ hc;rw [← hc] at hq;simp [Kd.int,Kd.scalar] at hq));have hy4:=(ja HX2.out 4).trans rfl;have HS2:=ga.mk (Kd.Ix H4.out Fm.out (by rintro k_ ⟨_,_,_,q,hq,cells,hc⟩ ⟨_,_,_,q2,kR,V0,KH⟩;rw [hc] at KH;injection KH with KH;injection KH with _ KH;rw [← KH] at kR;simp [Kd.int,Kd.scalar] at kR;rw [kR] at hq;revert hq;decide));clear hr hb hk)|(go_at_call 84;(with_reducible refine (Cf.calls k _ _ Fa b1 b3 b4 w0 w2 br.out HS2.out HT2.out).mono ?_);rintro e w3 ⟨rfl,hr,hb,hk⟩;have HR3:=ga.mk hr;have xN:=ga.mk hb;have B5:=ga.mk hk;clear hr hb hk));go_ret;refine ⟨rfl,?_,?_,xN.out,?_⟩
 ·refine Kd.Jc (Kd.LA HR2.out B5.out ?_) (fun k_ hk=>hk.elim (fun h=>.inl (.inl h.1)) (fun h=>.inr (Nat.le_trans HK.out.1 h)));rintro k_ hk ⟨_,_,hlt,q2,kR,V0,KH⟩
  rcases hk with ⟨_,_,_,q,hq,cells,hc⟩|hk
  ·rw [hc] at KH;injection KH with KH
   injection KH with _ KH
   rw [← KH] at kR;simp [Kd.int,Kd.scalar] at hq;rw [hq] at kR;revert kR
   decide
  ·omega
 ·exact Kd.Bg HR3.out (fun k_ hk=>hk.elim (fun h=>.inl (.inr h.1)) (fun h=>.inr (Nat.le_trans HK.out.1 (Nat.le_trans Fm.out.1 h))))
 ·exact (HK.out.Sz Fm.out (fun k_ hk=>.inl (.inl hk.1))).Sz B5.out (fun k_ hk=>.inl (.inr hk.1))
def ue.l0:Nat→List Int→Int→Int→Option (Int)
 | 0,_,_,_=>none
 | k + 1,x0,x1,x5=>if x5 < (x0.length:Int) then (if 0 ≤ x5 then (if (rd x0 x5)=x1 then (ue.l0 k x0 (wrap64 (x1 + 1)) (wrap64 (x5 + 1))) else (some (-1))) else (none)) else (some x1)
def ue.f (k:Nat) (l0:List Int) (a1:Int):Option (Int):=ue.l0 k l0 a1 0
theorem ue.calls (k:Nat) (A0:Option Addr) (c0:Nat) (l0:List Int) (a1:Int) (r:Int) (w:World) (Si:Kd.C (Kd.int .i64) w A0 l0.length l0) (hc0:l0.length ≤ c0) (h:ue.f k l0 a1=some r) :
  Calls Try.prog 21 #[.slice A0 l0.length c0,.int .i64 a1] w fun e w'=>e = .returned (.int .i64 r)∧fc w w':=by
 have fl:=ga.mk Si;have vB:=ga.mk hc0;clear Si hc0;have H:(ue.l0 k l0 a1 0)=some r:=h;clear h;have H':=ga.mk H;clear H;go_enter Try.func21,Try.ntmps21;go_wp2
 go_loopg [1,5] k (fun kq v1 v5 w'=>∃ (Zd:Int) (Aa:Int),v1 = .int .i64 Zd∧v5 = .int .i64 Aa∧ga (ue.l0 kq l0 Zd Aa=some r)∧ga (kq ≤ k)∧fc w w')
 case atStart=>exact ⟨(a1),(0),(by first|rfl|(simp;done)|(simp [*];done)),(by first|rfl|(simp;done)|(simp [*];done)),H',⟨Nat.le_refl _⟩,by repeat (first|exact fc.refl _|apply fc.step)⟩
 case round =>
  clear H'
  try clear c2
  try clear p2
  (try clear HA);(try clear Gf);obtain ⟨Zd,Aa,rfl,rfl,HA,Gf,⟨m1,rfl⟩⟩:=hrel;cases gk with
  | zero=>exact absurd HA.out (by simp [ue.l0])
  | succ k1 =>
   have H:=HA.out;clear HA;simp only [ue.l0] at H
   by_cases c3:Aa < (l0.length:Int)
   ·rw [if_pos c3] at H;have Cg:decide (Aa < (l0.length:Int))=true:=decide_eq_true c3;clear c3
    by_cases c4:0 ≤ Aa
    ·rw [if_pos c4] at H;have Aj:decide (0 ≤ Aa)=true:=decide_eq_true c4;clear c4
     by_cases c5:(rd l0 Aa)=Zd
     ·rw [if_pos c5] at H;have Al:((rd l0 Aa) == Zd)=true:=beq_iff_eq.mpr c5;have Ex:((rd l0 Aa) != Zd)=false:=bne_eq_false_iff_eq.mpr c5;clear c5;have H':=ga.mk H;clear H;have Ee:0 ≤ (Aa:Int):=of_decide_eq_true (by first|(with_reducible assumption)|assumption);have De:Aa < (l0.length:Int):=of_decide_eq_true (by first|(with_reducible assumption)|assumption);obtain ⟨je,Ih,xd⟩:=Kd.Ef fl.out Aa Ee De;cases Ih;replace Ee:=eq_true Ee;replace De:=eq_true De;go_wp2
      go_roundg k1
      case measure=>have:=Gf.out;omega
      case rel=>exact ⟨(wrap64 (Zd + 1)),(wrap64 (Aa + 1)),(by first|rfl|(simp;done)|(simp [*];done)),(by first|rfl|(simp;done)|(simp [*];done)),H',⟨by have:=Gf.out;omega⟩,by repeat (first|exact fc.refl _|apply fc.step)⟩
     ·rw [if_neg c5] at H;have Al:((rd l0 Aa) == Zd)=false:=beq_eq_false_iff_ne.mpr c5;have Ex:((rd l0 Aa) != Zd)=true:=bne_iff_ne.mpr c5;obtain rfl:=Option.some.inj H;have Ee:0 ≤ (Aa:Int):=of_decide_eq_true (by first|(with_reducible assumption)|assumption);have De:Aa < (l0.length:Int):=of_decide_eq_true (by first|(with_reducible assumption)|assumption);obtain ⟨je,Ih,xd⟩:=Kd.Ef fl.out Aa Ee De;cases Ih;replace Ee:=eq_true Ee;replace De:=eq_true De;go_wp2;go_ret;exact ⟨by first|rfl|(simp;done)|(simp [*];done),by repeat (first|exact fc.refl _|apply fc.step)⟩
    ·rw [if_neg c4] at H;exact absurd H (by simp)
   ·rw [if_neg c3] at H;have Cg:decide (Aa < (l0.length:Int))=false:=decide_eq_false c3;clear c3;obtain rfl:=Option.some.inj H;go_wp2;go_ret;exact ⟨by first|rfl|(simp;done)|(simp [*];done),by repeat (first|exact fc.refl _|apply fc.step)⟩
theorem Vx (l:List Int) (m:Int) (hm:0 ≤ m) (hl:m + l.length ≤ 4611686018427387904):Ev (fun k=>Vd.f k l m) (m + l.length,iota m l.length):=by
 have key:=Qg (r:=(m + (l.length:Int),iota m l.length)) (n:=l.length) (fun i=>Ev (fun k=>Vd.l0 k ((iota m l.length).take i ++ l.drop i) (m + i) (i:Int)) (m + (l.length:Int),iota m l.length)) ?_ ?_ 0 (by omega)
 ·refine Ev.congr (fun k=>?_) key;unfold Vd.f;simp
 ·refine Ev.step (fun k=>by rw [Vd.l0]) ?_;refine Ev.neg (by simp [wj]) ?_;rw [List.drop_length,List.append_nil,List.take_of_length_le (by rw [wj];omega)];exact Ev.now _
 ·intro i hi h;refine Ev.step (fun k=>by rw [Vd.l0]) ?_;refine Ev.pos (by simp [wj];omega) (Ev.pos (by omega) ?_);have h1:m + (i:Int)=(iota m l.length).getD i 0:=(FB hi).symm;rw [Ie hi (by omega),pg (by omega) (by omega),Int.toNat_natCast];rw [show ((iota m l.length).take i ++ l.drop i).set i (m + (i:Int))=(iota m l.length).take (i + 1) ++ l.drop (i + 1) from by rw [h1];exact JF (by rw [wj]) (by rw [wj];exact hi)];rw [show m + (i:Int) + 1=m + ((i + 1:Nat):Int) from by omega];exact h
theorem NG (m:Int) (n:Nat) (hm:0 ≤ m) (hl:m + n ≤ 4611686018427387904):Ev (fun k=>ue.f k (iota m n) m) (m + n):=by
 have key:=Qg (r:=m + (n:Int)) (n:=n) (fun i=>Ev (fun k=>ue.l0 k (iota m n) (m + i) (i:Int)) (m + (n:Int))) ?_ ?_ 0 (by omega)
 ·refine Ev.congr (fun k=>?_) key;unfold ue.f;simp
 ·refine Ev.step (fun k=>by rw [ue.l0]) ?_;exact Ev.neg (by rw [wj];omega) (Ev.now _)
 ·intro i hi h;refine Ev.step (fun k=>by rw [ue.l0]) ?_;refine Ev.pos (by rw [wj];omega) (Ev.pos (by omega) (Ev.pos (by rw [mC,FB hi]) ?_));rw [Ie hi (by omega),pg (by omega) (by omega)];rw [show m + (i:Int) + 1=m + ((i + 1:Nat):Int) from by omega];exact h
end Go.Proofs.Ytoomcmaifgkkfaa.P
end
