import Derived.Test.YtkigbdceceeenaaQPressure1
import Derived.Test.YtkigbdceceeenaaQPressure10
import Derived.Test.YtkigbdceceeenaaQPressure5
import Derived.Test.YtkigbdceceeenaaQPressure4
import Derived.Test.YtkigbdceceeenaaQPressure9
import Derived.Shelf.Abstract
import Derived.Outline
import Derived.RegionTactic
import Derived.StillTailTactics
import Derived.Test.YtkigbdceceeenaaQPressure6
import Derived.Test.YtkigbdceceeenaaQPressure7
import Derived.Test.YtkigbdceceeenaaQPressure8
set_option maxHeartbeats 8000000
set_option maxRecDepth 100000
section
namespace Go.Proofs.Ytkigbdceceeenaa.P
open Go.RowKit Go.Proofs.Oa.Wb Go.Proofs.Oa.Vd Go.Proofs.Oa.Xe
set_option linter.unusedVariables false
set_option linter.unusedSimpArgs false
theorem Ch {i:Nat} (h:i ≤ 1048576):wrap64 ((i:Int) - 1)=(i:Int) - 1:=by unfold wrap64;omega
theorem succ_pred (i:Nat):((i + 1:Nat):Int) - 1=(i:Int):=by omega
theorem gz (X:List (List Bool)) (i:Nat):Md X (i:Int)=Yd X i:=by unfold Md Yd;rw [Int.toNat_natCast]
def Ok (s:List Bool) (m:Nat):List Int:=((List.range m).filter (fun i=>seen s i)).map (fun (i:Nat)=>(i:Int))
theorem cE {s:List Bool} {m:Nat} (h:seen s m=true):Ok s (m + 1)=Ok s m ++ [(m:Int)]:=by
 unfold Ok;rw [List.range_succ,List.filter_append,List.map_append];simp [h]
theorem eE {s:List Bool} {m:Nat} (h:¬ seen s m=true):Ok s (m + 1)=Ok s m:=by
 unfold Ok;rw [List.range_succ,List.filter_append,List.map_append];simp [h]
theorem fE (s:List Bool) (m:Nat):(Ok s m).length ≤ m:=by
 unfold Ok;rw [List.length_map];exact Nat.le_trans (List.length_filter_le _ _) (Nat.le_of_eq List.length_range)
theorem ND (s:List Bool) (hm:s.length ≤ 1048576):∀ (d i:Nat),i + d=s.length→Ev (fun k=>Gd.l0 k (Ok s i) s (s.length:Int) (i:Int)) (Ok s s.length):=by
 intro d
 induction d with
 | zero =>
  intro i hi;obtain rfl:i=s.length:=by omega
  refine Ev.step (fun k=>by rw [Gd.l0]) ?_;exact Ev.neg (by omega) (Ev.now _)
 | succ d ih =>
  intro i hi;have hl:=fE s i;have h:=ih (i + 1) (by omega);refine Ev.step (fun k=>by rw [Gd.l0]) ?_;refine Ev.pos (by omega) (Ev.pos (by omega) (Ev.pos (by omega) ?_));rw [qw,Ee (show i < s.length by omega) (by omega)]
  by_cases hs:seen s i=true
  ·rw [cE hs] at h;exact Ev.pos hs (Ev.pos (by omega) h)
  ·rw [eE hs] at h;exact Ev.neg hs h
theorem PC (s:List Bool) (hm:s.length ≤ 1048576):Ev (fun k=>Gd.f k s) (Ok s s.length):=ND s hm s.length 0 (by omega)
theorem UH (b:Ce) (s:List Bool) (hb:ou s.length b) (x:List Bool) (hx:x.length=s.length):∀ (q:Nat),q ≤ b.f0.length→Ev (fun k=>Ze.l0 k (zo b.f0 q x) ((q:Int) - 1) b.f0 b.f1 b.f2 b.f3 b.f4) (zo b.f0 0 x):=by
 intro q
 induction q with
 | zero =>
  intro _;refine Ev.step (fun k=>by rw [Ze.l0]) ?_;exact Ev.neg (by omega) (Ev.now _)
 | succ q ih =>
  intro hq;have h1:=hb.1;have he:=cI (zo b.f0 (q + 1) x) (Ta b.f0 (q:Int)) (by rw [ot,hx];exact BC hb (by omega));rw [← Qo (by omega)] at he;refine Ev.step (fun k=>by rw [Ze.l0]) ?_;rw [succ_pred];refine Ev.pos (by omega) (Ev.pos (by omega) (Ev.pos (by omega) (Ev.bind he ?_)));rw [Ch (by omega)];exact ih (by omega)
theorem iR (b:Ce) (s:List Bool) (hb:ou s.length b) (hs:s.length ≤ 1048576):Ev (fun k=>Ze.f k b.f0 b.f1 b.f2 b.f3 b.f4 s) (jz b s):=by
 have hl:=UH b s hb (qg b s) (Pm b s) b.f0.length (Nat.le_refl _);rw [qt,fD] at hl;have h1:=hb.1
 have he:jf.f b.f0 b.f1 b.f2 b.f3 b.f4 s=some (qg b s):=by
  unfold jf.f qg;rw [Option.bind_some,if_pos (by simp;omega),Option.bind_some,List.nil_append]
  by_cases hf:b.f1=0
  ·rw [if_pos hf,if_pos hf]
  ·have:=hb.2.1 hf;rw [if_neg hf,if_neg hf,if_pos (by omega),if_pos (by omega)]
 unfold Ze.f;refine Ev.bind (Ev.here he) ?_;rw [Ch h1];exact hl
theorem EG (b:Ce) (s:List Bool) (hb:ou s.length b) (x:List Bool) (hx:x.length=s.length):∀ (q:Nat),q ≤ b.f0.length→Ev (fun k=>He.l0 k (zo b.f0 q x) b.f0 ((q:Int) - 1)) (zo b.f0 0 x):=by
 intro q
 induction q with
 | zero =>
  intro _;refine Ev.step (fun k=>by rw [He.l0]) ?_;exact Ev.neg (by omega) (Ev.now _)
 | succ q ih =>
  intro hq;have h1:=hb.1;have he:=FG (zo b.f0 (q + 1) x) (Ta b.f0 (q:Int)) (by rw [ot,hx];exact BC hb (by omega));rw [← Qo (by omega)] at he;refine Ev.step (fun k=>by rw [He.l0]) ?_;rw [succ_pred];refine Ev.pos (by omega) (Ev.pos (by omega) (Ev.pos (by omega) (Ev.bind he ?_)));rw [Ch (by omega)];exact ih (by omega)
theorem CC {bs:List Ce} {n i:Nat} (hO:jn bs n) (hi:i < bs.length) (X:List (List Bool)) (hX:X.length=bs.length) (hr:(Yd X i).length=n) (l0:List Int) (p v s:Int):fh.f l0 p v s bs X (i:Int)=some (qg (Aa bs (i:Int)) (Yd X i)):=by
 have hb:=cr hO hi;have hn:=hO.2.1;unfold fh.f qg;rw [gz,Option.bind_some,if_pos (by omega),if_pos (by omega),if_pos (by simp;omega),Option.bind_some,List.nil_append,if_pos (by omega)]
 by_cases hf:(Aa bs (i:Int)).f1=0
 ·rw [if_pos hf,if_pos hf]
 ·have:=hb.2.1 hf;rw [if_neg hf,if_neg hf,if_pos (by omega),if_pos (by omega)]
theorem cP {bs:List Ce} {n i:Nat} (hO:jn bs n) (hi:i < bs.length) (X:List (List Bool)) (hX:X.length=bs.length) (hr:(Yd X i).length=n) (l0:List Int) (p v s:Int):Ev (fun k=>He.f k l0 p v s bs X (i:Int)) (jz (Aa bs (i:Int)) (Yd X i)):=by
 have hb:=cr hO hi;have hl:=EG (Aa bs (i:Int)) (Yd X i) (by rw [hr];exact hb) (qg (Aa bs (i:Int)) (Yd X i)) (Pm _ _) _ (Nat.le_refl _);rw [qt,fD] at hl;unfold He.f;refine Ev.bind (Ev.here (CC hO hi X hX hr l0 p v s)) ?_;refine Ev.pos (by omega) (Ev.pos (by omega) ?_);rw [Ch hb.1];exact hl
structure LR (bs:List Ce) (n:Nat) (X:List (List Bool)):Prop where
 len:X.length=bs.length
 row:∀ i,i < bs.length→(Yd X i).length=n
 so:∀ i u,i < bs.length→seen (Yd X i) u=true→LB bs u i
def D_ (bs:List Ce) (X:List (List Bool)) (i:Nat):Prop:=∀ t ∈ zq bs i,∀ u,seen (jz (Aa bs t) (Yd X t.toNat)) u=true→seen (Yd X i) u=true
structure KV (bs:List Ce) (n:Nat) (X0 X:List (List Bool)) (a:Bool):Prop where
 inv:LR bs n X
 le:Lo X0 ≤ Lo X
 lt:a=true→Lo X0 < Lo X
 eq:a=false→X=X0
section
variable {bs:List Ce} {n:Nat} {X0 X:List (List Bool)} {a:Bool}
theorem LR.J3 (h:LR bs n X) (hO:jn bs n) {i:Nat} {t:Int} (hi:i < bs.length) (ht:t ∈ zq bs i) {u:Nat} (hu:seen (jz (Aa bs t) (Yd X t.toNat)) u=true):LB bs u i:=by
 obtain ⟨t0,t1⟩:=hO.1.2.2 i hi t ht;have htn:t.toNat < bs.length:=by omega
 have hb:=cr hO htn;rw [Int.toNat_of_nonneg t0] at hb;rw [bu (by rw [h.row _ htn];exact hb)] at hu;cases hc:seen (Yd X t.toNat) u with
 | false=>rw [hc] at hu;exact LB.gen ht hu
 | true=>rw [hc] at hu;exact LB.step ht hu (h.so _ u htn hc)
theorem KV.put (h:KV bs n X0 X a) {i s:Nat} (hi:i < bs.length) (hs:s < n) (hb:LB bs s i) (hns:¬ seen (Yd X i) s=true):KV bs n X0 (X.set i ((Yd X i).set s true)) true:=by
 have hil:i < X.length:=by rw [h.inv.len];exact hi
 have BQ:s < (Yd X i).length:=by rw [h.inv.row i hi];exact hs
 have h1:=WC X i ((Yd X i).set s true) hil
 have h2:=(cK (Yd X i) ((Yd X i).set s true) (by rw [List.length_set]) (fun u hu=>by
  rw [Di BQ]
  by_cases e:s=u
  ·rw [if_pos e]
  ·rw [if_neg e];exact hu)).2 (fun e=>hns (by rw [e,Di BQ,if_pos rfl]))
 have h3:=h.le;refine ⟨⟨by rw [List.length_set];exact h.inv.len,fun k hk=>?_,fun k u hk hu=>?_⟩,by omega,fun _=>by omega,fun e=>by cases e⟩
 ·rw [fq hil]
  by_cases e:i=k
  ·rw [if_pos e,List.length_set];exact h.inv.row i hi
  ·rw [if_neg e];exact h.inv.row k hk
 ·rw [fq hil] at hu
  by_cases e:i=k
  ·subst e;rw [if_pos rfl,Di BQ] at hu
   by_cases e2:s=u
   ·subst e2;exact hb
   ·rw [if_neg e2] at hu;exact h.inv.so i u hk hu
  ·rw [if_neg e] at hu;exact h.inv.so k u hk hu
theorem LR.done (h:LR bs n X) (hO:jn bs n) (hst:∀ i,i < bs.length→D_ bs X i):X=ze bs n:=by
 have hE:=hO.1
 have key:∀ u i,LB bs u i→i < bs.length→seen (Yd X i) u=true:=by
  intro u i hl
  have turn:∀ (i:Nat) (t:Int),i < bs.length→t ∈ zq bs i→BS u (Aa bs t) (seen (Yd X t.toNat) u)=true→seen (Yd X i) u=true:=by
   intro i t hi ht h1;obtain ⟨t0,t1⟩:=hE.2.2 i hi t ht;have htn:t.toNat < bs.length:=by omega
   have hb:=cr hO htn;rw [Int.toNat_of_nonneg t0] at hb;refine hst i hi t ht u ?_;rw [bu (by rw [h.row _ htn];exact hb)];exact h1
  induction hl with
  | @gen i t ht h1 =>
   intro hi;exact turn i t hi ht (cu (fun hf=>by cases hf) h1)
  | @step i t ht h1 _ ih =>
   intro hi;obtain ⟨t0,t1⟩:=hE.2.2 i hi t ht;exact turn i t hi ht (cu (fun _=>ih (by omega)) h1)
 apply List.ext_getElem
 ·rw [h.len,Zg]
 ·intro i h1 h2;have hi:i < bs.length:=by rw [← h.len];exact h1
  have e1:X[i]=Yd X i:=by simp [Yd,List.getD_eq_getElem?_getD,h1]
  have e2:(ze bs n)[i]=fk bs n i:=by simp [ze]
  rw [e1,e2];refine oH (by rw [h.row i hi,Kg]) (fun u=>?_)
  constructor
  ·intro hu;have hun:u < n:=by have:=zu hu;rw [h.row i hi] at this;exact this
   exact (Dn hun).2 (h.so i u hi hu)
  ·intro hu;have hun:u < n:=by have:=zu hu;rw [Kg] at this;exact this
   exact key u i ((Dn hun).1 hu) hi
theorem LR.start (bs:List Ce) (n:Nat):LR bs n (List.replicate bs.length (List.replicate n false)) :=
 ⟨(zD.start bs n).xl,(zD.start bs n).xr,(zD.start bs n).xs⟩
theorem LR.cnt (h:LR bs n X):Lo X ≤ n * bs.length:=by
 have:=JG (m:=n) X (fun i hi=>by rw [h.row i (by rw [← h.len];exact hi)];exact Nat.le_refl _)
 rwa [h.len] at this
end
section
variable {bs:List Ce} {n:Nat} (l0:List Int) (p v:Int) {R:List (List Bool)} {X0:List (List Bool)}
theorem TJ {Q:Prop} {i j:Nat} {ts:List Int} {t:List Bool} (hO:jn bs n) (hi:i < bs.length) (htl:t.length=n) (hso:∀ u,seen t u=true→LB bs u i)
  (hK:∀ X a,KV bs n X0 X a→(a=false→Q)→(a=false→∀ u,u < n→seen t u=true→seen (Yd X0 i) u=true)→Ev (fun k=>gb.l3 k X a (i:Int) ts (wrap64 ((j:Int) + 1)) l0 p v (n:Int) bs) R) :
  ∀ (d s:Nat) (X:List (List Bool)) (a:Bool),s + d=n→KV bs n X0 X a→(a=false→Q)→(a=false→∀ u,u < s→seen t u=true→seen (Yd X0 i) u=true)→Ev (fun k=>gb.l4 k X a (i:Int) ts (j:Int) t (s:Int) l0 p v (n:Int) bs) R:=by
 intro d
 induction d with
 | zero =>
  intro s X a hs hP hQ hD;obtain rfl:s=n:=by omega
  refine Ev.step (fun k=>by rw [gb.l4]) ?_;exact Ev.neg (by omega) (hK X a hP hQ hD)
 | succ d ih =>
  intro s X a hs hP hQ hD;have hsn:s < n:=by omega
  have hn:=hO.2.1;have hxl:=hP.inv.len;have hxr:=hP.inv.row i hi;refine Ev.step (fun k=>by rw [gb.l4]) ?_;refine Ev.pos (by omega) (Ev.pos (by omega) (Ev.pos (by omega) ?_));rw [qw,Ee hsn (by omega),gz,qw,Int.toNat_natCast,Int.toNat_natCast]
  by_cases hts:seen t s=true
  ·refine Ev.pos hts (Ev.pos (by omega) (Ev.pos (by omega) (Ev.pos (by omega) ?_)))
   by_cases hx:seen (Yd X i) s=true
   ·refine Ev.pos hx (ih (s + 1) X a (by omega) hP hQ (fun ha u hu hu2=>?_))
    by_cases e:u=s
    ·subst e;rw [← hP.eq ha];exact hx
    ·exact hD ha u (by omega) hu2
   ·exact Ev.neg hx (ih (s + 1) _ true (by omega) (hP.put hi hsn (hso s hts) hx) (fun ha=>by cases ha) (fun ha=>by cases ha))
  ·refine Ev.neg hts (ih (s + 1) X a (by omega) hP hQ (fun ha u hu hu2=>?_))
   by_cases e:u=s
   ·subst e;exact absurd hu2 hts
   ·exact hD ha u (by omega) hu2
theorem UJ {Q:Prop} {i:Nat} (hO:jn bs n) (hi:i < bs.length)
  (hK:∀ X a,KV bs n X0 X a→(a=false→Q)→(a=false→D_ bs X0 i)→Ev (fun k=>gb.l2 k X a (wrap64 ((i:Int) - 1)) l0 p v (n:Int) bs) R) :
  ∀ (d j:Nat) (X:List (List Bool)) (a:Bool),j + d=(zq bs i).length→KV bs n X0 X a→(a=false→Q)→(a=false→∀ t ∈ (zq bs i).take j,∀ u,seen (jz (Aa bs t) (Yd X0 t.toNat)) u=true→seen (Yd X0 i) u=true)→Ev (fun k=>gb.l3 k X a (i:Int) (zq bs i) (j:Int) l0 p v (n:Int) bs) R:=by
 have h2:(zq bs i).length ≤ 2:=LH _;intro d
 induction d with
 | zero =>
  intro j X a hj hP hQ hD;obtain rfl:j=(zq bs i).length:=by omega
  refine Ev.step (fun k=>by rw [gb.l3]) ?_;refine Ev.neg (by omega) (hK X a hP hQ (fun ha t ht=>hD ha t (by rw [List.take_length];exact ht)))
 | succ d ih =>
  intro j X a hj hP hQ hD;have hjl:j < (zq bs i).length:=by omega
  have hn:=hO.2.1;have htm:=List.getElem_mem hjl;obtain ⟨t0,t1⟩:=hO.1.2.2 i hi _ htm;have hxl:=hP.inv.len;obtain ⟨tn,htn⟩:∃ tn:Nat,(zq bs i)[j]=(tn:Int):=⟨_,(Int.toNat_of_nonneg t0).symm⟩;have htb:tn < bs.length:=by omega
  have hb:=cr hO htb;have hr:=hP.inv.row tn htb;refine Ev.step (fun k=>by rw [gb.l3]) ?_;rw [Uq hjl,htn,gz];refine Ev.pos (by omega) (Ev.pos (by omega) (Ev.pos (by omega) (Ev.pos (by omega) (Ev.pos (by omega) (Ev.bind (iR _ (Yd X tn) (by rw [hr];exact hb) (by omega)) ?_)))));refine TJ l0 p v (X0:=X0) (Q:=a=false) hO hi (by rw [zm];exact hr) (fun u hu=>hP.inv.J3 hO hi htm (by rw [htn,Int.toNat_natCast];exact hu)) (fun X' a' AV hQ' Y8=>?_) n 0 X a (by omega) hP id (fun ha u hu=>by omega);rw [Ee hjl (by omega)];refine ih (j + 1) X' a' (by omega) AV (fun ha=>hQ (hQ' ha)) (fun ha t ht u hu=>?_);have hX:=hP.eq (hQ' ha);rw [List.take_succ_eq_append_getElem hjl,List.mem_append,List.mem_singleton] at ht
  rcases ht with ht|ht
  ·exact hD (hQ' ha) t ht u hu
  ·rw [ht,htn,Int.toNat_natCast,← hX] at hu;have hun:u < n:=by have:=zu hu;rw [zm,hr] at this;exact this
   exact Y8 ha u hun hu
theorem VJ (hO:jn bs n)
  (hK:∀ X a,KV bs n X0 X a→(a=false→∀ i,i < bs.length→D_ bs X0 i)→Ev (fun k=>gb.l1 k X a l0 p v (n:Int) bs) R) :
  ∀ (q:Nat) (X:List (List Bool)) (a:Bool),q ≤ bs.length→KV bs n X0 X a→(a=false→∀ i,q ≤ i→i < bs.length→D_ bs X0 i)→Ev (fun k=>gb.l2 k X a ((q:Int) - 1) l0 p v (n:Int) bs) R:=by
 intro q
 induction q with
 | zero =>
  intro X a hq hP hD;refine Ev.step (fun k=>by rw [gb.l2]) ?_;exact Ev.neg (by omega) (hK X a hP (fun ha i hi=>hD ha i (Nat.zero_le _) hi))
 | succ q ih =>
  intro X a hq hP hD;have hb:=hO.1.2.1;refine Ev.step (fun k=>by rw [gb.l2]) ?_;rw [succ_pred];refine Ev.pos (by omega) (Ev.pos (by omega) (Ev.pos (by omega) (Ev.bind (Ev.here (xO (Aa bs (q:Int)))) ?_)));refine UJ l0 p v (X0:=X0) (Q:=a=false) hO (show q < bs.length by omega) (fun X' a' AV hQ' Y8=>?_) _ 0 X a (Nat.zero_add _) hP id (fun _ t ht=>by simp at ht);rw [Ch (by omega)];refine ih X' a' (by omega) AV (fun ha i hi1 hi2=>?_)
  by_cases e:i=q
  ·subst e;exact Y8 ha
  ·exact hD (hQ' ha) i (by omega) hi2
theorem WJ (hO:jn bs n):∀ (m:Nat) (X:List (List Bool)) (a:Bool),n * bs.length - Lo X + (if a=true then 1 else 0) ≤ m→LR bs n X→(a=false→∀ i,i < bs.length→D_ bs X i)→Ev (fun k=>gb.l1 k X a l0 p v (n:Int) bs) (ze bs n):=by
 intro m
 induction m with
 | zero =>
  intro X a hm hI hD;cases a with
  | true=>rw [if_pos rfl] at hm;omega
  | false =>
   rw [← hI.done hO (hD rfl)];refine Ev.step (fun k=>by rw [gb.l1]) ?_;exact Ev.neg (by simp) (Ev.now _)
 | succ m ih =>
  intro X a hm hI hD;cases a with
  | false =>
   rw [← hI.done hO (hD rfl)];refine Ev.step (fun k=>by rw [gb.l1]) ?_;exact Ev.neg (by simp) (Ev.now _)
  | true =>
   rw [if_pos rfl] at hm;refine Ev.step (fun k=>by rw [gb.l1]) ?_;refine Ev.pos rfl ?_;rw [Ch hO.1.2.1];refine VJ l0 p v (X0:=X) hO (fun X' a' AV Y8=>?_) _ X false (Nat.le_refl _) ⟨hI,Nat.le_refl _,(fun e=>by cases e),(fun _=>rfl)⟩ (fun _ i h1 h2=>by omega);have hc:=AV.inv.cnt;refine ih X' a' ?_ AV.inv (fun ha=>?_)
   ·cases a' with
    | true=>have:=AV.lt rfl;rw [if_pos rfl];omega
    | false=>have:=AV.le;rw [if_neg (by simp)];omega
   ·rw [AV.eq ha];exact Y8 ha
theorem XJ (hO:jn bs n):∀ (d j:Nat),j + d=bs.length→Ev (fun k=>gb.l0 k (List.replicate j (List.replicate n false)) (j:Int) l0 p v (n:Int) bs) (ze bs n):=by
 have hb:=hO.1.2.1;have hn:=hO.2.1;intro d
 induction d with
 | zero =>
  intro j hj;obtain rfl:j=bs.length:=by omega
  refine Ev.step (fun k=>by rw [gb.l0]) ?_;exact Ev.neg (by omega) (WJ l0 p v hO _ _ true (Nat.le_refl _) (LR.start bs n) (fun e=>by cases e))
 | succ d ih =>
  intro j hj;have h:=ih (j + 1) (by omega);rw [List.replicate_succ'] at h;refine Ev.step (fun k=>by rw [gb.l0]) ?_;rw [Int.toNat_natCast,Ee (show j < bs.length by omega) (by omega)];exact Ev.pos (by omega) (Ev.pos (by omega) (Ev.pos (by omega) (Ev.pos (by rw [List.length_replicate];omega) h)))
theorem MJ (hO:jn bs n):Ev (fun k=>gb.f k l0 p v (n:Int) bs) (ze bs n):=XJ l0 p v hO bs.length 0 (by omega)
end
end Go.Proofs.Ytkigbdceceeenaa.P
end
section
namespace Go.Proofs.Ytkigbdceceeenaa.P
open Go.RowKit Go.Proofs.Oa.Wb Go.Proofs.Oa.Vd Go.Proofs.Oa.Xe
set_option linter.unusedVariables false
set_option linter.unusedSimpArgs false
theorem Af {S:Nat→Prop} {w0 w W:World} {a:Addr} {v:Value} (hc:w0.cell? a=some v) (hb0:Below w0.heap.size w0 w) (Y1:∀ k,S k→w0.heap.size ≤ k) (hk:Kept w W (N2 S w)):W.cell? a=some v :=
 Sk (Sk hc (Kept.Zj hb0 (fun _=>False)) id) hk (fun e=>e.elim (fun h=>by have:=Y1 _ h;have:=World.block_lt_of_cell? w0 a hc;omega) (fun h=>by have:=World.block_lt_of_cell? w0 a hc;have:=hb0.size;omega))
theorem NN {S:Nat→Prop} {w0 w:World} (hb0:Below w0.heap.size w0 w) (Y1:∀ k,S k→w0.heap.size ≤ k):∀ k,N2 S w k→w0.heap.size ≤ k:=fun k h=>h.elim (Y1 k) (fun h=>Nat.le_trans hb0.size h)
theorem GG {St:Type} (f:St→Rf→List Bool→St) (Inv:St→World→Prop) (S:Nat→Prop) (g:Nat) (lb:Array Value) (eg:∀ args w,(callFunc g args).run Try.prog w = .ok (.enter g args) w)
  (Ya:Option Addr) (Za:Nat) (Pa:List Int) (Ka:Int) (Ga:Int) (n:Nat) (Vb:Option Addr) (Jb:Nat) (Da:List (Ce)) (A1:Option Addr) (c1:Nat) (X:List (List Bool)) (P1:St) (w0 w:World)
  (hb0:Below w0.heap.size w0 w) (Y1:∀ k,S k→w0.heap.size ≤ k) (hS:∀ k,S k→k < w.heap.size) (Wd:Kd.C (Kd.int .i64) w0 Ya Pa.length Pa) (Sd:Pa.length ≤ Za) (zf:Kd.C Mt w0 Vb Da.length Da) (uf:Da.length ≤ Jb)
  (Ht:∀ W,Kept w W (N2 S w)→Kd.C (Kd.slice 4 Kd.bool) W A1 X.length X) (Tt:X.length ≤ c1) (hO:jn Da n) (hX:X.length=Da.length) (hr:∀ i,i < Da.length→(Yd X i).length=n)
  (hI0:Inv P1 w) (hI:∀ st W W',Inv st W→(∀ k,k < w.heap.size→W'.heap[k]? = W.heap[k]?)→Inv st W')
  (hp:∀ (W:World) (st:St) (x:Rf) (A:Option Addr) (c:Nat) (s:List Bool),Kept w W (N2 S w)→Inv st W→Xz n x→s.length=n→Kd.C Kd.bool W A s.length s→s.length ≤ c →
   Calls Try.prog g (#[.agg #[.int .i64 x.f0,.int .i64 x.f1,.int .i64 x.f2,.int .i64 x.f3,.int .i64 x.f4,.int .i64 x.f5,.string x.f6],.slice A s.length c] ++ lb) W fun e w'=>e = .returned (.tuple #[])∧Inv (f st x s) w'∧Kept W w' S∧Below 0 W w') :
  Calls Try.prog 50 #[.agg #[.slice Ya Pa.length Za,.int .i64 Ka,.int .i64 Ga,.int .i64 (n:Int),.slice Vb Da.length Jb],.slice A1 X.length c1,.func (.func g) #[] lb] w fun e w'=>e = .returned (.tuple #[])∧Inv (Ai f Da X 0 P1) w'∧Kept w w' (N2 S w)∧Below 0 w w':=by
 have oD:=ja.mk hb0;have UD:=ja.mk Y1;have HSS:=ja.mk hS;have sn:=ja.mk Wd;have ES:=ja.mk zf;have P0:=ja.mk Sd;have tX:=ja.mk uf;have kD:=ja.mk Ht;have HL1:=ja.mk Tt;have HO:=ja.mk hO;have HX:=ja.mk hX;have HRL:=ja.mk hr;have HI:=ja.mk hI;have HP:=ja.mk hp;have hn:n ≤ 1048576:=hO.2.1;have hm1:Da.length ≤ 1048576:=hO.1.2.1;have HI1:=ja.mk (hI P1 w (w.alloc (.cells #[.slice Ya Pa.length Za,.int .i64 Ka,.int .i64 Ga,.int .i64 (n:Int),.slice Vb Da.length Jb] 30 (0,0))) hI0 (fun k hk=>(qa (Below.refl w.heap.size w) _).block k hk));have HA:=ja.mk (show GP S w (nQ Ya Pa.length Za Ka Ga n Vb Da.length Jb) (w.alloc (.cells #[.slice Ya Pa.length Za,.int .i64 Ka,.int .i64 Ga,.int .i64 (n:Int),.slice Vb Da.length Jb] 30 (0,0))) from ⟨(Kept.refl _ _).alloc _,vt (qa (Below.refl w.heap.size w) _),nt _ _⟩);clear hb0 Y1 hS Wd zf Sd uf Ht Tt hO hX hr hI0 hI hp;go_enter Try.func50,Try.ntmps50
 go_upto_region 1 with (fail)
 generalize (w.alloc (.cells #[.slice Ya Pa.length Za,.int .i64 Ka,.int .i64 Ga,.int .i64 (n:Int),.slice Vb Da.length Jb] 30 (0,0)))=w1 at HI1 HA ⊢;have Nt:w1.cell? ⟨w.heap.size,4,none⟩=some (.slice Vb Da.length Jb):=(ga HA.out.hx 4).trans rfl;go_wp2;clear Nt
 go_loopg [13] Da.length (fun gg V2 wr=>∃ (i:Nat) (st:St),V2 = .int .i64 i∧i ≤ Da.length∧Da.length - i ≤ gg∧ja (Ai f Da X i st=Ai f Da X 0 P1)∧ja (Inv st wr)∧ja (GP S w (nQ Ya Pa.length Za Ka Ga n Vb Da.length Jb) wr))
 case atStart=>exact ⟨0,P1,rfl,Nat.zero_le _,by omega,⟨rfl⟩,HI1,HA⟩
 case round =>
  clear HI1 HA;(try clear bW);(try clear HIN);(try clear HA);obtain ⟨i,st,rfl,hi,V1,bW,HIN,HA⟩:=hrel
  by_cases hlt:i < Da.length
  ·have nJ:decide ((i:Int) < (Da.length:Int))=true:=decide_eq_true (by omega);have i1:0 ≤ (i:Int):=by omega
   have i2:(i:Int) < (Da.length:Int):=by omega
   obtain ⟨ag,Ac,cc,e1,hc0,Tt,xV,JH,wV,Yz,V8⟩:=ki ES.out (i:Int) (by omega) (by omega);subst e1;simp only [Int.toNat_natCast] at hc0 Tt xV JH wV;have HCC:=ja.mk V8;have HCL:=ja.mk Yz;have EP:=ja.mk HA.out.k;replace hc0:=Af hc0 oD.out UD.out EP.out;replace Tt:=Af Tt oD.out UD.out EP.out;replace xV:=Af xV oD.out UD.out EP.out;replace JH:=Af JH oD.out UD.out EP.out;replace wV:=Af wV oD.out UD.out EP.out;clear V8 Yz
   go_upto_region 4 with (fail)
   have KH:=qa (Below.refl wr.heap.size wr) (.cells #[.slice Ac (Aa Da (i:Int)).f0.length cc,.int .i64 (Aa Da (i:Int)).f1,.int .i64 (Aa Da (i:Int)).f2,.int .i64 (Aa Da (i:Int)).f3,.int .i64 (Aa Da (i:Int)).f4] 59 (0,0));have mJ:=nt wr (.cells #[.slice Ac (Aa Da (i:Int)).f0.length cc,.int .i64 (Aa Da (i:Int)).f1,.int .i64 (Aa Da (i:Int)).f2,.int .i64 (Aa Da (i:Int)).f3,.int .i64 (Aa Da (i:Int)).f4] 59 (0,0));generalize wr.alloc (.cells #[.slice Ac (Aa Da (i:Int)).f0.length cc,.int .i64 (Aa Da (i:Int)).f1,.int .i64 (Aa Da (i:Int)).f2,.int .i64 (Aa Da (i:Int)).f3,.int .i64 (Aa Da (i:Int)).f4] 59 (0,0))=qv at KH mJ ⊢;have tu:=ja.mk (HA.out.below KH);have taa:=ja.mk (HI.out st wr qv HIN.out (fun k hk=>KH.block k (Nat.lt_trans hk HA.out.le)));have Pz:=ja.mk mJ;have HQL:=ja.mk HA.out.le;have L2:=ja.mk (cr HO.out hlt);have HE:=ja.mk (CC HO.out hlt X HX.out (HRL.out i hlt) Pa Ka Ga (n:Int));have cW:=ja.mk (And.intro (Kd.eA (Kd.uj .i64) sn.out oD.out (NN oD.out UD.out) qv tu.out.k) (And.intro (Kd.eA uQ ES.out oD.out (NN oD.out UD.out) qv tu.out.k) (kD.out qv tu.out.k)));clear KH mJ HA HIN EP hc0 Tt xV JH wV i1 i2 nJ;generalize wr.heap.size=q7 at Pz HQL ⊢;have hx0:qv.cell? ⟨w.heap.size,0,none⟩=some (.slice Ya Pa.length Za):=(ga tu.out.hx 0).trans rfl;have hx1:qv.cell? ⟨w.heap.size,1,none⟩=some (.int .i64 Ka):=(ga tu.out.hx 1).trans rfl;have kz:qv.cell? ⟨w.heap.size,2,none⟩=some (.int .i64 Ga):=(ga tu.out.hx 2).trans rfl;have Sv:qv.cell? ⟨w.heap.size,3,none⟩=some (.int .i64 (n:Int)):=(ga tu.out.hx 3).trans rfl;have Nt:qv.cell? ⟨w.heap.size,4,none⟩=some (.slice (some ag) Da.length Jb):=(ga tu.out.hx 4).trans rfl
   go_upto_region 5 with (first|(go_at_call 81;(with_reducible refine (fh.calls Ya Za Pa Ka Ga (n:Int) (some ag) Jb Da A1 c1 X (i:Int) _ qv cW.out.1 P0.out cW.out.2.1 tX.out cW.out.2.2 HL1.out HE.out).mono ?_);rintro e w5 ⟨v5,rfl,ho,hb⟩;obtain ⟨As,cs,rfl⟩:=Kd.De ho;have VV:=ja.mk ho;have V0:=ja.mk hb;clear ho hb hx0 hx1 kz Sv Nt))
   have hjl:(qg (Aa Da (i:Int)) (Yd X i)).length=n:=by rw [Pm];exact HRL.out i hlt
   rw [hjl] at VV ⊢;clear hjl;have lO:=ja.mk (tu.out.below V0.out);have I2:=ja.mk (HI.out st qv w5 taa.out (fun k hk=>V0.out.block k (Nat.lt_trans hk tu.out.le)));have G0:=ja.mk (Ua Pz.out V0.out);have N0:=ja.mk (And.intro (Jc Pz.out) (And.intro tu.out.le V0.out.size));have J2:=ja.mk (show bA f ((Aa Da (i:Int)).f0.take (Aa Da (i:Int)).f0.length).reverse (zo (Aa Da (i:Int)).f0 (Aa Da (i:Int)).f0.length (qg (Aa Da (i:Int)) (Yd X i))) st=eI f Da X st i by rw [List.take_length,qt];rfl);clear tu taa Pz cW V0;generalize qv.heap.size=N5 at VV N0;have ZQ:w5.cell? ⟨q7,0,none⟩=some (.slice Ac (Aa Da (i:Int)).f0.length cc):=(ga G0.out 0).trans rfl;have Yz:(Aa Da (i:Int)).f0.length ≤ 1048576:=L2.out.1;have vW:wrap64 (((Aa Da (i:Int)).f0.length:Int) - 1)=((Aa Da (i:Int)).f0.length:Int) - 1:=Ch Yz;have HWR:=ja.mk vW;clear vW;go_wp2;clear ZQ
   go_loopg [9] (Aa Da (i:Int)).f0.length (fun g6 v9 wr=>∃ (z:Int) (q:Nat) (st':St),v9 = .int .i64 z∧z + 1=(q:Int)∧q ≤ (Aa Da (i:Int)).f0.length∧q ≤ g6∧ja (bA f ((Aa Da (i:Int)).f0.take q).reverse (zo (Aa Da (i:Int)).f0 q (qg (Aa Da (i:Int)) (Yd X i))) st' = eI f Da X st i)∧ja (Inv st' wr)∧ja (GP S w (nQ Ya Pa.length Za Ka Ga n (some ag) Da.length Jb) wr)∧ja (Kd.R Kd.bool 4 wr N5 (fun _=>True) (.slice As n cs) (zo (Aa Da (i:Int)).f0 q (qg (Aa Da (i:Int)) (Yd X i))))∧ja (N5 ≤ wr.heap.size)∧ja (wr.heap[q7]? = some (.cells #[.slice Ac (Aa Da (i:Int)).f0.length cc,.int .i64 (Aa Da (i:Int)).f1,.int .i64 (Aa Da (i:Int)).f2,.int .i64 (Aa Da (i:Int)).f3,.int .i64 (Aa Da (i:Int)).f4] 59 (0,0))))
   case atStart=>exact ⟨((Aa Da (i:Int)).f0.length:Int) - 1,(Aa Da (i:Int)).f0.length,st,by first|rfl|(go_simp;done)|exact congrArg _ HWR.out|go_num,by omega,Nat.le_refl _,Nat.le_refl _,J2,I2,lO,⟨by rw [qt];exact VV.out⟩,⟨N0.out.2.2⟩,G0⟩
   case round =>
    clear J2 I2 lO VV G0;(try clear J2);(try clear I2);(try clear lO);(try clear VV);(try clear oaa);(try clear G0);obtain ⟨z,q,st',rfl,hz,hq,hg6,J2,I2,lO,VV,oaa,G0⟩:=hrel
    by_cases hz0:0 ≤ z
    ·obtain ⟨p,rfl⟩:∃ p:Nat,z=(p:Int):=⟨z.toNat,(Int.toNat_of_nonneg hz0).symm⟩;obtain rfl:q=p + 1:=by omega
     have hpl:p < (Aa Da (i:Int)).f0.length:=by omega
     have R1:decide ((p:Int) ≥ 0)=true:=decide_eq_true (by omega);have p1:0 ≤ (p:Int):=by omega
     have p2:(p:Int) < ((Aa Da (i:Int)).f0.length:Int):=by omega
     have ZQ:wr.cell? ⟨q7,0,none⟩=some (.slice Ac (Aa Da (i:Int)).f0.length cc):=(ga G0.out 0).trans rfl;obtain ⟨aI,e5,k0,k1,k2,k3,k4,k5,k6⟩:=um HCC.out (p:Int) (by omega) (by omega);subst e5;simp only [Int.toNat_natCast] at k0 k1 k2 k3 k4 k5 k6;have HKC:=ja.mk (And.intro k0 (And.intro k1 (And.intro k2 (And.intro k3 (And.intro k4 (And.intro k5 k6))))));replace k0:=Af k0 oD.out UD.out lO.out.k;replace k1:=Af k1 oD.out UD.out lO.out.k;replace k2:=Af k2 oD.out UD.out lO.out.k;replace k3:=Af k3 oD.out UD.out lO.out.k;replace k4:=Af k4 oD.out UD.out lO.out.k;replace k5:=Af k5 oD.out UD.out lO.out.k;replace k6:=Af k6 oD.out UD.out lO.out.k;have HSL:=ja.mk (show (zo (Aa Da (i:Int)).f0 (p + 1) (qg (Aa Da (i:Int)) (Yd X i))).length=n by rw [ot,Pm];exact HRL.out i hlt);have HIX:=ja.mk (BC L2.out hpl);have Bq:=HP.out wr st' (Ta (Aa Da (i:Int)).f0 (p:Int)) As cs (zo (Aa Da (i:Int)).f0 (p + 1) (qg (Aa Da (i:Int)) (Yd X i))) lO.out.k I2.out HIX.out HSL.out (Kd.Lc VV.out).2.2 (by have:=(Kd.Lc VV.out).2.1;rw [HSL.out];exact this);rw [HSL.out] at Bq;have xal:=ja.mk Bq;have eg2:=eg;clear Bq hz0
     go_upto_region 9 with (go_at_fn g;refine xal.out.mono ?_;rintro e w6 ⟨rfl,hi6,hk6,hb6⟩;have HI6:=ja.mk hi6;have G2:=ja.mk hk6;have lS:=ja.mk hb6;clear hi6 hk6 hb6 ZQ k0 k1 k2 k3 k4 k5 k6)
     have JS:=ja.mk (lO.out.kept HSS.out G2.out lS.out);have HS6:=ja.mk (Kd.WR (Kd.fe (Kd.Bh VV.out) (fun k hk=>hk.2.1)) G2.out (fun k hk e=>by have:=HSS.out k e;have:=N0.out;omega));have HQ6:=ja.mk (Kh G0.out G2.out (fun e=>by have:=HSS.out _ e;have:=HQL.out;omega));have F2:=ja.mk (show N5 ≤ w6.heap.size by have h1:=G2.out.1;have:=oaa.out;omega);obtain ⟨kb,M4⟩:=Ev.rounds (FG (zo (Aa Da (i:Int)).f0 (p + 1) (qg (Aa Da (i:Int)) (Yd X i))) (Ta (Aa Da (i:Int)).f0 (p:Int)) (by rw [HSL.out];exact HIX.out));have HKB:=ja.mk M4;have HCB:=ja.mk (bK F2.out);have HSB:=ja.mk (show Kd.R Kd.bool 4 w6 (fP w6 N5).heap.size (fun k=>N5 ≤ k) (.slice As n cs) (zo (Aa Da (i:Int)).f0 (p + 1) (qg (Aa Da (i:Int)) (Yd X i))) by rw [Fq F2.out];exact HS6.out);obtain ⟨k0,k1,k2,k3,k4,k5,k6⟩:=HKC.out;replace k0:=Af k0 oD.out UD.out JS.out.k;replace k1:=Af k1 oD.out UD.out JS.out.k;replace k2:=Af k2 oD.out UD.out JS.out.k;replace k3:=Af k3 oD.out UD.out JS.out.k;replace k4:=Af k4 oD.out UD.out JS.out.k;replace k5:=Af k5 oD.out UD.out JS.out.k;replace k6:=Af k6 oD.out UD.out JS.out.k;have ZQ:w6.cell? ⟨q7,0,none⟩=some (.slice (some aI) (Aa Da (i:Int)).f0.length cc):=(ga HQ6.out 0).trans rfl;have hwp:wrap64 ((p:Int) - 1)=(p:Int) - 1:=Ch (by omega);have HWP:=ja.mk hwp;clear M4 hwp;go_wp2_with (first|(go_at_call 79;(with_reducible refine (Dd.calls kb (fun k=>N5 ≤ k) (.slice As n cs) (zo (Aa Da (i:Int)).f0 (p + 1) (qg (Aa Da (i:Int)) (Yd X i))) (Ta (Aa Da (i:Int)).f0 (p:Int)).f0 (Ta (Aa Da (i:Int)).f0 (p:Int)).f1 (Ta (Aa Da (i:Int)).f0 (p:Int)).f2 (Ta (Aa Da (i:Int)).f0 (p:Int)).f3 (Ta (Aa Da (i:Int)).f0 (p:Int)).f4 (Ta (Aa Da (i:Int)).f0 (p:Int)).f5 (Ta (Aa Da (i:Int)).f0 (p:Int)).f6 _ (fP w6 N5) w6 HCB.out HSB.out HKB.out).mono ?_);rintro e w7 ⟨rfl,ho,hb,hk⟩;have HS7:=ja.mk ho;have FP:=ja.mk hb;have aW:=ja.mk hk;clear ho hb hk ZQ k0 k1 k2 k3 k4 k5 k6))
     have xT:Below w.heap.size w6 w7:=by
      have hb:=FP.out;have hs:=Fq F2.out;have h2:=N0.out.2.1;refine ⟨hb.os,hb.tape,hb.output,aW.out.1,fun k hk=>aW.out.2 k (by have:=F2.out;omega) (by omega)⟩
     have HA7:=ja.mk (show GP S w _ w7 from ⟨JS.out.k.mC aW.out (fun k hk=>Or.inr (by have:=N0.out.2.1;omega)),JS.out.b.trans (vt xT),Kh JS.out.hx aW.out (by have:=N0.out.2.1;omega)⟩);have HI7:=ja.mk (HI.out _ w6 w7 HI6.out xT.block);have HQ7:=ja.mk (Kh HQ6.out aW.out (by have:=N0.out.1;omega));have hs7:=HS7.out;rw [Fq F2.out,← Qo hpl] at hs7;have HS8:=ja.mk (Kd.fe hs7 (fun _ _=>trivial:∀ k,_→(fun _:Nat=>True) k));have wY:=J2.out;rw [UC f hpl,← Qo hpl] at wY;have HF7:=ja.mk wY;clear hs7 wY xT
     go_roundg p
     case measure=>omega
     case rel=>exact ⟨(p:Int) - 1,p,_,by first|rfl|(go_simp;done)|exact congrArg _ HWP.out|go_num,by omega,by omega,Nat.le_refl _,HF7,HI7,HA7,HS8,⟨Nat.le_trans F2.out aW.out.1⟩,HQ7⟩
    ·have R1:decide (z ≥ 0)=false:=decide_eq_false (by omega);obtain rfl:q=0:=by omega
     have wY:=J2.out;rw [List.take_zero,List.reverse_nil,show bA f [] (zo (Aa Da (i:Int)).f0 0 (qg (Aa Da (i:Int)) (Yd X i))) st' = st' from rfl] at wY;have HEN:=ja.mk (show Ai f Da X (i + 1) st' = Ai f Da X 0 P1 by rw [wY,← Gv f hlt];exact bW.out);clear wY;go_wp2
     go_roundg (Da.length - (i + 1))
     case measure=>omega
     case rel=>exact ⟨i + 1,st',by go_num,by omega,by omega,HEN,I2,lO⟩
  ·have nJ:decide ((i:Int) < (Da.length:Int))=false:=decide_eq_false (by omega);obtain rfl:i=Da.length:=by omega
   have heq:=bW.out;rw [Iy] at heq;have HEE:=ja.mk heq;clear heq;go_wp2;refine bodyPost_end (v:=.tuple #[]) ?_ rfl ?_
   ·exact results_none rfl _ _ _
   exact ⟨rfl,by rw [← HEE.out];exact HIN.out,HA.out.k,HA.out.b⟩
attribute [local go_sem] bh Gh Ki Cj Mg Lg Hh Fh
def Tb.l0:Nat→List Bool→List Bool→Int→Int→Option (Bool)
 | 0,_,_,_,_=>none
 | k + 1,x0,x1,x12,EX=>if EX < x12 then (if 0 ≤ EX then (if EX < (x0.length:Int) then (if EX < (x1.length:Int) then (if ((Kf false x0 EX) != (Kf false x1 EX))=true then (some false) else (Tb.l0 k x0 x1 x12 (wrap64 (EX + 1)))) else (none)) else (none)) else (none)) else (some true)
def Tb.f (k:Nat) (l0:List Bool) (l1:List Bool):Option (Bool):=if (l0.length:Int)=(l1.length:Int) then (Tb.l0 k l0 l1 (l0.length:Int) 0) else (some false)
theorem Tb.xC:∀ k,(∀ y0 y1 y2 y3,cm (Tb.l0 k y0 y1 y2 y3) (Tb.l0 (k + 1) y0 y1 y2 y3))
 | 0=>fun _ _ _ _ r h=>by simp [Tb.l0] at h
 | k + 1=>by
  have xQ:=Tb.xC k
  ·intro y0 y1 y2 y3;unfold Tb.l0
   repeat' first
   | (with_reducible exact xQ _ _ _ _)
   | (with_reducible exact cm.refl _)
   | (with_reducible exact cm.none _)
   | (with_reducible refine cm.ite ?_ ?_)
   | (with_reducible refine cm.bind ?_ (fun _=>?_))
   | exact xQ _ _ _ _
   | exact cm.none _
   | refine cm.ite ?_ ?_
   | refine cm.bind ?_ (fun _=>?_)
theorem Tb.mono:∀ a0 a1 k,cm (Tb.f k a0 a1) (Tb.f (k + 1) a0 a1):=by
 intro a0 a1 k;have xQ:=Tb.xC k;unfold Tb.f
 repeat' first
   | (with_reducible exact xQ _ _ _ _)
   | (with_reducible exact cm.refl _)
   | (with_reducible exact cm.none _)
   | (with_reducible refine cm.ite ?_ ?_)
   | (with_reducible refine cm.bind ?_ (fun _=>?_))
   | exact xQ _ _ _ _
   | exact cm.none _
   | refine cm.ite ?_ ?_
   | refine cm.bind ?_ (fun _=>?_)
theorem Tb.calls (k:Nat) (A0:Option Addr) (c0:Nat) (l0:List Bool) (A1:Option Addr) (c1:Nat) (l1:List Bool) (r:Bool) (w:World) (Rk:Kd.C Kd.bool w A0 l0.length l0) (hc0:l0.length ≤ c0) (Ht:Kd.C Kd.bool w A1 l1.length l1) (Tt:l1.length ≤ c1) (h:Tb.f k l0 l1=some r) :
  Calls Try.prog 80 #[.slice A0 l0.length c0,.slice A1 l1.length c1] w fun e w'=>e = .returned (.bool r)∧Oc w w':=by
 have sn:=ja.mk Rk;have rI:=ja.mk hc0;clear Rk hc0;have kD:=ja.mk Ht;have GS:=ja.mk Tt;clear Ht Tt;have H:(if (l0.length:Int)=(l1.length:Int) then (Tb.l0 k l0 l1 (l0.length:Int) 0) else (some false))=some r:=h;clear h
 by_cases c3:(l0.length:Int)=(l1.length:Int)
 ·rw [if_pos c3] at H;have Nh:((l0.length:Int) == (l1.length:Int))=true:=beq_iff_eq.mpr c3;have ct:((l0.length:Int) != (l1.length:Int))=false:=bne_eq_false_iff_eq.mpr c3;have YC:(l0.length == l1.length)=true:=by first|simpa using c3|(simp at c3 ⊢;omega)
  clear c3;have H':=ja.mk H;clear H;go_enter Try.func80,Try.ntmps80;go_wp2
  repeat (go_quiet (fail);try go_wp2)
  go_loopg [13] k (fun kq V2 w'=>∃ (Tf:Int),V2 = .int .i64 Tf∧ja (Tb.l0 kq l0 l1 (l0.length:Int) Tf=some r)∧ja (kq ≤ k)∧Oc w w')
  case atStart=>exact ⟨(0),(by first|rfl|(simp;done)|(simp [*];done)),H',⟨Nat.le_refl _⟩,by repeat (first|exact Oc.refl _|apply Oc.step)⟩
  case round =>
   clear H'
   try clear c1
   try clear p2
   try clear c3
   try clear Nh
   try clear ct
   try clear YC
   (try clear HA);(try clear lg);obtain ⟨Tf,rfl,HA,lg,⟨m1,rfl⟩⟩:=hrel;cases gk with
   | zero=>exact absurd HA.out (by simp [Tb.l0])
   | succ k1 =>
    have H:=HA.out;clear HA;simp only [Tb.l0] at H
    by_cases c4:Tf < (l0.length:Int)
    ·rw [if_pos c4] at H;have Mk:decide (Tf < (l0.length:Int))=true:=decide_eq_true c4;clear c4
     by_cases c5:0 ≤ Tf
     ·rw [if_pos c5] at H;have sj:decide (0 ≤ Tf)=true:=decide_eq_true c5;clear c5
      by_cases c6:Tf < (l0.length:Int)
      ·rw [if_pos c6] at H;have Vm:decide (Tf < (l0.length:Int))=true:=decide_eq_true c6;clear c6
       by_cases c7:Tf < (l1.length:Int)
       ·rw [if_pos c7] at H;have Tj:decide (Tf < (l1.length:Int))=true:=decide_eq_true c7;clear c7
        by_cases c8:((Kf false l0 Tf) != (Kf false l1 Tf))=true
        ·rw [if_pos c8] at H;have Gq:((Kf false l0 Tf) != (Kf false l1 Tf))=true:=c8;(try (have dK:decide ((Kf false l0 Tf)=(Kf false l1 Tf))=false:=by simpa using c8));(try (have Zak:((Kf false l0 Tf) == (Kf false l1 Tf))=false:=by simpa using c8));(try (have zaq:¬ ((Kf false l0 Tf)=(Kf false l1 Tf)):=by simpa using c8));clear c8;obtain rfl:=Option.some.inj H;have lf:0 ≤ (Tf:Int):=Wa;have kf:Tf < (l0.length:Int):=Wa;obtain ⟨ie,wj,Nd⟩:=Kd.kj sn.out Tf lf kf;cases wj;replace lf:=eq_true lf;replace kf:=eq_true kf;have Eh:0 ≤ (Tf:Int):=Wa;have Dh:Tf < (l1.length:Int):=Wa;obtain ⟨Ie,Zs,Ke⟩:=Kd.kj kD.out Tf Eh Dh;cases Zs;replace Eh:=eq_true Eh;replace Dh:=eq_true Dh;go_wp2
         repeat (go_quiet (fail);try go_wp2)
         go_ret;exact ⟨by first|rfl|(simp;done)|(simp [*];done),by repeat (first|exact Oc.refl _|apply Oc.step)⟩
        ·rw [if_neg c8] at H;have Gq:((Kf false l0 Tf) != (Kf false l1 Tf))=false:=by simpa using c8
         (try (have dK:decide ((Kf false l0 Tf)=(Kf false l1 Tf))=true:=by simpa using c8));(try (have Zak:((Kf false l0 Tf) == (Kf false l1 Tf))=true:=by simpa using c8));clear c8;have H':=ja.mk H;clear H;have lf:0 ≤ (Tf:Int):=Wa;have kf:Tf < (l0.length:Int):=Wa;obtain ⟨ie,wj,Nd⟩:=Kd.kj sn.out Tf lf kf;cases wj;replace lf:=eq_true lf;replace kf:=eq_true kf;have Eh:0 ≤ (Tf:Int):=Wa;have Dh:Tf < (l1.length:Int):=Wa;obtain ⟨Ie,Zs,Ke⟩:=Kd.kj kD.out Tf Eh Dh;cases Zs;replace Eh:=eq_true Eh;replace Dh:=eq_true Dh;go_wp2
         repeat (go_quiet (fail);try go_wp2)
         go_roundg k1
         case measure=>have:=lg.out;omega
         case rel=>exact ⟨(wrap64 (Tf + 1)),(by first|rfl|(simp;done)|(simp [*];done)),H',⟨by have:=lg.out;omega⟩,by repeat (first|exact Oc.refl _|apply Oc.step)⟩
       ·rw [if_neg c7] at H;exact absurd H (by simp)
      ·rw [if_neg c6] at H;exact absurd H (by simp)
     ·rw [if_neg c5] at H;exact absurd H (by simp)
    ·rw [if_neg c4] at H;have Mk:decide (Tf < (l0.length:Int))=false:=decide_eq_false c4;clear c4;obtain rfl:=Option.some.inj H;go_wp2
     repeat (go_quiet (fail);try go_wp2)
     go_ret;exact ⟨by first|rfl|(simp;done)|(simp [*];done),by repeat (first|exact Oc.refl _|apply Oc.step)⟩
 ·rw [if_neg c3] at H;have Nh:((l0.length:Int) == (l1.length:Int))=false:=beq_eq_false_iff_ne.mpr c3;have ct:((l0.length:Int) != (l1.length:Int))=true:=bne_iff_ne.mpr c3;have YC:(l0.length == l1.length)=false:=by first|simpa using c3|(simp at c3 ⊢;omega)
  obtain rfl:=Option.some.inj H;go_enter Try.func80,Try.ntmps80;go_wp2
  repeat (go_quiet (fail);try go_wp2)
  go_ret;exact ⟨by first|rfl|(simp;done)|(simp [*];done),by repeat (first|exact Oc.refl _|apply Oc.step)⟩
theorem eP (a b:List Bool) (hl:a.length=b.length) (hm:a.length ≤ 1048576):∀ (d i:Nat),i + d=a.length→Ev (fun k=>Tb.l0 k a b (a.length:Int) (i:Int)) (decide (a.drop i=b.drop i)):=by
 intro d
 induction d with
 | zero =>
  intro i hd;rw [List.drop_eq_nil_of_le (by omega),List.drop_eq_nil_of_le (by omega)];refine Ev.step (fun k=>by rw [Tb.l0]) ?_;exact Ev.neg (by omega) (Ev.now _)
 | succ d ih =>
  intro i hd;have h1:i < a.length:=by omega
  have h2:i < b.length:=by omega
  have ea:Kf false a (i:Int)=a[i]:=by simp [Kf,h1]
  have eb:Kf false b (i:Int)=b[i]:=by simp [Kf,h2]
  refine Ev.step (fun k=>by rw [Tb.l0]) ?_;refine Ev.pos (by omega) (Ev.pos (by omega) (Ev.pos (by omega) (Ev.pos (by omega) ?_)));rw [ea,eb,Ee h1 (by omega)]
  by_cases he:a[i]=b[i]
  ·refine Ev.neg (by rw [he];simp) ?_
   have e:decide (a.drop i=b.drop i)=decide (a.drop (i + 1)=b.drop (i + 1)):=by
    rw [List.drop_eq_getElem_cons h1,List.drop_eq_getElem_cons h2,he];exact decide_eq_decide.2 ⟨fun h=>(List.cons.inj h).2,fun h=>by rw [h]⟩
   rw [e];exact ih (i + 1) (by omega)
  ·refine Ev.pos (by simpa using he) ?_
   have e:decide (a.drop i=b.drop i)=false:=decide_eq_false (fun h=>by
    rw [List.drop_eq_getElem_cons h1,List.drop_eq_getElem_cons h2] at h
    exact he (List.cons.inj h).1)
   rw [e];exact Ev.now _
theorem aZ (a b:List Bool) (hm:a.length ≤ 1048576):Ev (fun k=>Tb.f k a b) (decide (a=b)):=by
 unfold Tb.f
 by_cases hl:a.length=b.length
 ·exact Ev.pos (by omega) (eP a b hl hm a.length 0 (by omega))
 ·rw [decide_eq_false (fun e=>hl (by rw [e]))];exact Ev.neg (by omega) (Ev.now _)
noncomputable def Qk.f (Pa:List Int) (Ka:Int) (Ga:Int) (Ia:Int) (Da:List (Ce)):Option (List (List Bool)):=open Classical in if 0 ≤ Ia∧jn Da Ia.toNat then some (ze Da Ia.toNat) else none
theorem Qk.calls (Ya:Option Addr) (Za:Nat) (Pa:List Int) (Ka:Int) (Ga:Int) (Ia:Int) (Vb:Option Addr) (Jb:Nat) (Da:List (Ce)) (r:List (List Bool)) (w:World) (Wd:Kd.C (Kd.int .i64) w Ya Pa.length Pa) (Sd:Pa.length ≤ Za) (zf:Kd.C Mt w Vb Da.length Da) (uf:Da.length ≤ Jb) (h:Qk.f Pa Ka Ga Ia Da=some r) :
  Calls Try.prog 47 #[.agg #[.slice Ya Pa.length Za,.int .i64 Ka,.int .i64 Ga,.int .i64 Ia,.slice Vb Da.length Jb]] w fun e w'=>∃ kn:Value,e = .returned (kn)∧Kd.S (Kd.slice 4 Kd.bool) 60 w' w.heap.size (fun _=>True) kn r∧Below w.heap.size w w':=by
 unfold Qk.f at h
 by_cases hf:0 ≤ Ia∧jn Da Ia.toNat
 case neg=>rw [if_neg hf] at h;cases h
 rw [if_pos hf] at h;obtain rfl:=Option.some.inj h;obtain ⟨hn0,hO⟩:=hf;obtain ⟨n,rfl⟩:∃ n:Nat,Ia=(n:Int):=⟨Ia.toNat,(Int.toNat_of_nonneg hn0).symm⟩;have Iaq:=ja.mk (show ze Da ((n:Int)).toNat=ze Da n from by rw [Int.toNat_natCast]);rw [Int.toNat_natCast] at hO;clear h hn0;have HO:=ja.mk hO;have hn:n ≤ 1048576:=hO.2.1;have hm0:0 < Da.length:=hO.1.1;have hm1:Da.length ≤ 1048576:=hO.1.2.1;clear hO;obtain ⟨W1,Qf⟩:∃ W1,W1=((w.alloc (.cells #[.slice Ya Pa.length Za,.int .i64 Ka,.int .i64 Ga,.int .i64 (n:Int),.slice Vb Da.length Jb] 30 (0,0))).alloc (.cells #[] 60 (0,0))).alloc (.cells #[] 60 (0,0)):=⟨_,rfl⟩;have HW:=ja.mk Qf
 have HA:=ja.mk (show Nq w (nQ Ya Pa.length Za Ka Ga n Vb Da.length Jb) (fun k=>k=w.heap.size + 1) (.slice (some ⟨w.heap.size + 1,0,none⟩) 0 0) (.slice (some ⟨w.heap.size + 2,0,none⟩) 0 0) [] [] W1 from by
  have z1:(w.alloc (.cells #[.slice Ya Pa.length Za,.int .i64 Ka,.int .i64 Ga,.int .i64 (n:Int),.slice Vb Da.length Jb] 30 (0,0))).heap.size=w.heap.size + 1:=by simp
  have b1:=nt w (.cells #[.slice Ya Pa.length Za,.int .i64 Ka,.int .i64 Ga,.int .i64 (n:Int),.slice Vb Da.length Jb] 30 (0,0));have e1:=qa (Below.refl w.heap.size w) (.cells #[.slice Ya Pa.length Za,.int .i64 Ka,.int .i64 Ga,.int .i64 (n:Int),.slice Vb Da.length Jb] 30 (0,0));rw [Qf];generalize w.alloc (.cells #[.slice Ya Pa.length Za,.int .i64 Ka,.int .i64 Ga,.int .i64 (n:Int),.slice Vb Da.length Jb] 30 (0,0))=u1 at z1 b1 e1 ⊢;have z2:(u1.alloc (.cells #[] 60 (0,0))).heap.size=w.heap.size + 2:=by simp [z1]
  have s1:=mI (Kd.slice 4 Kd.bool) 60 u1 w.heap.size (by omega);have e2:=qa (Below.refl u1.heap.size u1) (.cells #[] 60 (0,0));rw [z1] at s1;generalize u1.alloc (.cells #[] 60 (0,0))=u2 at z2 s1 e2 ⊢;have s2:=mI (Kd.slice 4 Kd.bool) 60 u2 w.heap.size (by omega);have e3:=qa (Below.refl u2.heap.size u2) (.cells #[] 60 (0,0));have z3:(u2.alloc (.cells #[] 60 (0,0))).heap.size=w.heap.size + 3:=by simp [z2]
  rw [z2] at s2
  exact ⟨Qa (Qa e1 e2) e3,Ua (Ua b1 e2) e3,Kd.jh s1 e3,Kd.sg s2 (fun k hk=>⟨by omega,by omega⟩),fun k hk=>⟨by omega,by omega⟩⟩)
 have ES:=ja.mk zf;have tX:=ja.mk uf;clear Qf Wd zf Sd uf;go_enter Try.func47,Try.ntmps47
 go_upto_region 2 with (fail)
 rw [← HW.out];clear HW;have Nt:=mQ HA.out;go_wp2;clear Nt
 go_loopg [3,4,19] Da.length (fun gg v3 v4 v19 wr=>∃ (j:Nat) (PB:Nat→Prop),j ≤ Da.length∧Da.length - j ≤ gg∧v19 = .int .i64 j∧ja (Nq w (nQ Ya Pa.length Za Ka Ga n Vb Da.length Jb) PB v3 v4 (List.replicate j (List.replicate n false)) (List.replicate j (List.replicate n false)) wr))
 case atStart=>exact ⟨0,_,Nat.zero_le _,by omega,rfl,HA⟩
 case round =>
  clear HA;(try clear PB);(try clear HA);obtain ⟨j,PB,hj,V1,rfl,HA⟩:=hrel
  by_cases hlt:j < Da.length
  ·have nJ:decide ((j:Int) < (Da.length:Int))=true:=decide_eq_true (by omega);have Sv:=sW HA.out;have h0n:(0:Int) ≤ (n:Int):=by omega
   have HMK:=ja.mk (show ((n:Int)).toNat * 1 ≤ 281474976710656 from by omega);have HLL:=ja.mk (show ((List.replicate j (List.replicate n false)).length + 1) * 24 ≤ 140737488355328 from by rw [List.length_replicate];omega)
   go_upto_region 5 with (first|((with_reducible refine yb (N:=24) rfl ?_);refine Kd.Mz Kd.bool (w0:=wr) wr.heap.size 4 rfl (N:=24) rfl 60 _ _ rfl (n:Int) rfl rfl Try.underlying60 (.bool false) 1 Wz rfl (by decide) (by omega) false (ok:=fun k=>wr.heap.size ≤ k) (ri:=fun k=>wr.heap.size ≤ k) rfl (fun _ hk=>hk) (Nat.le_refl _) h0n HMK.out (Below.refl _ _) (Nat.le_refl _) ?_;intro v24 xP ho hb hg hat;rw [Int.toNat_natCast] at ho;obtain ⟨A24,nP,rfl⟩:=Kd.De ho;have qaa:=ja.mk (rW ho HA.out.bl.size);simp only [List.length_replicate] at qaa;have Z0:=ja.mk hb;have iaa:=ja.mk (Qa HA.out.bl hb);clear ho hb hg hat Sv)|((with_reducible refine yb (N:=26) rfl ?_);refine Kd.iD (Kd.slice 4 Kd.bool) (w0:=w) w.heap.size rfl (.tmp 21) (.tmp 25) 55 60 (.slice none 0 0) 24 rfl Try.underlying55 gJ rfl (by decide) (by omega) _ (List.replicate j (List.replicate n false)) (List.replicate n false) _ (fun k=>PB k ∨ wr.heap.size ≤ k) (fun k=>wr.heap.size ≤ k) rfl rfl qaa.out HA.out.neX (HA.out.frX Z0.out) (HA.out.okX Z0.out) iaa.out iaa.out.size HLL.out ?_;intro v26 xu hs hb hg hat;have C1:=ja.mk (HA.out.cal Z0.out hs hb hg);clear hs hb hg hat))
   have Sv:=sW C1.out
   go_upto_region 6 with (first|((with_reducible refine yb (N:=30) rfl ?_);refine Kd.Mz Kd.bool (w0:=xu) xu.heap.size 4 rfl (N:=30) rfl 60 _ _ rfl (n:Int) rfl rfl Try.underlying60 (.bool false) 1 Wz rfl (by decide) (by omega) false (ok:=fun k=>xu.heap.size ≤ k) (ri:=fun k=>xu.heap.size ≤ k) rfl (fun _ hk=>hk) (Nat.le_refl _) h0n HMK.out (Below.refl _ _) (Nat.le_refl _) ?_;intro v30 fC ho hb hg hat;rw [Int.toNat_natCast] at ho;obtain ⟨dw,gI,rfl⟩:=Kd.De ho;have paa:=ja.mk (rW ho C1.out.bl.size);simp only [List.length_replicate] at paa;have W0:=ja.mk hb;have haa:=ja.mk (Qa C1.out.bl hb);clear ho hb hg hat Sv)|((with_reducible refine yb (N:=32) rfl ?_);refine Kd.iD (Kd.slice 4 Kd.bool) (w0:=w) w.heap.size rfl (.tmp 27) (.tmp 31) 55 60 (.slice none 0 0) 24 rfl Try.underlying55 gJ rfl (by decide) (by omega) _ (List.replicate j (List.replicate n false)) (List.replicate n false) _ _ (fun k=>xu.heap.size ≤ k) rfl rfl paa.out C1.out.neY (C1.out.frY W0.out) (C1.out.okY W0.out) haa.out haa.out.size HLL.out ?_;intro v32 sO hs hb hg hat;have HA2:=ja.mk (C1.out.bal W0.out hs hb hg);clear hs hb hg hat))
   go_wp2
   go_roundg (Da.length - (j + 1))
   case measure=>omega
   case rel =>
    have h2:=HA2.out;rw [← List.replicate_succ'] at h2;exact ⟨j + 1,_,by omega,by omega,by go_num,⟨h2⟩⟩
  ·have nJ:decide ((j:Int) < (Da.length:Int))=false:=decide_eq_false (by omega);have hje:j=Da.length:=by omega
   have ha:=HA.out;rw [hje] at ha;obtain ⟨gX,cX,gY,cY,rfl,rfl⟩:=ha.forms hm0;clear HA;have HA:=ja.mk ha;clear ha hje V1 hj;have HV:=ja.mk (zD.start Da n);generalize List.replicate Da.length (List.replicate n false)=X0 at HA HV;have HM0:=ja.mk HV.out.cnt;go_wp2;clear hlt nJ
   go_loopg [5] (n * Da.length + 1) (fun gg v5 wr=>∃ (X Y:List (List Bool)) (a:Bool),v5 = .bool a∧n * Da.length - Lo Y + (if a=true then 1 else 0) ≤ gg∧ja (zD Da n X Y)∧ja (a=false→∀ i,i < Da.length→StE Da X Y i)∧ja (Nq w (nQ Ya Pa.length Za Ka Ga n Vb Da.length Jb) PB (.slice (some ⟨gX,0,none⟩) Da.length cX) (.slice (some ⟨gY,0,none⟩) Da.length cY) X Y wr))
   case atStart=>exact ⟨X0,X0,true,rfl,by rw [if_pos rfl];omega,HV,⟨fun e=>by cases e⟩,HA⟩
   case round =>
    clear HV HA HM0;(try clear X);(try clear Y);(try clear HV);(try clear HST);(try clear HA);obtain ⟨X,Y,a,rfl,V1,HV,HST,HA⟩:=hrel;cases a with
    | false =>
     have HDN:=ja.mk (HV.out.done HO.out (HST.out rfl));go_wp2;go_ret;exact ⟨_,rfl,by rw [← HDN.out];exact Kd.sg HA.out.x (fun _ _=>trivial),HA.out.bl⟩
    | true =>
     have P4:=V1;rw [if_pos rfl] at P4;have HS:=ja.mk (show Q_ Da X Y (Lo Y) false Da.length from ⟨Nat.le_refl _,(fun e=>by cases e),(fun _ k h1 h2=>by omega)⟩);clear HST V1;generalize Lo Y=C at HS P4;have Nt:=mQ HA.out;have vW:wrap64 ((Da.length:Int) - 1)=(Da.length:Int) - 1:=by unfold wrap64;omega
     have HWR:=ja.mk vW;clear vW;go_wp2;clear Nt
     go_loopg [5,6] Da.length (fun g3 v5 v6 wr=>∃ (z:Int) (q:Nat) (X Y:List (List Bool)) (a:Bool),v5 = .bool a∧v6 = .int .i64 z∧z + 1=(q:Int)∧q ≤ Da.length∧q ≤ g3∧ja (zD Da n X Y)∧ja (Q_ Da X Y C a q)∧ja (Nq w (nQ Ya Pa.length Za Ka Ga n Vb Da.length Jb) PB (.slice (some ⟨gX,0,none⟩) Da.length cX) (.slice (some ⟨gY,0,none⟩) Da.length cY) X Y wr))
     case atStart=>exact ⟨(Da.length:Int) - 1,Da.length,X,Y,false,rfl,by first|rfl|(go_simp;done)|exact congrArg _ HWR.out|go_num,by omega,Nat.le_refl _,Nat.le_refl _,HV,HS,HA⟩
     case round =>
      clear HV HS HA;(try clear X);(try clear Y);(try clear HV);(try clear HS);(try clear HA);obtain ⟨z,q,X,Y,a,rfl,rfl,hz,hq,sY,HV,HS,HA⟩:=hrel
      by_cases hz0:0 ≤ z
      ·obtain ⟨i,rfl⟩:∃ i:Nat,z=(i:Int):=⟨z.toNat,(Int.toNat_of_nonneg hz0).symm⟩;obtain rfl:q=i + 1:=by omega
       have hi:i < Da.length:=by omega
       have R1:decide ((i:Int) ≥ 0)=true:=decide_eq_true (by omega);obtain ⟨ag,Ac,cc,e1,hc0,Tt,xV,JH,wV,Yz,V8⟩:=ki ES.out (i:Int) (by omega) (by omega);subst e1;have Nt:=mQ HA.out;simp only [Int.toNat_natCast] at hc0 Tt xV JH wV;have HCC:=ja.mk V8;have HCL:=ja.mk Yz;replace hc0:=Sk hc0 (Kept.Zj HA.out.bl (fun _=>False)) id;replace Tt:=Sk Tt (Kept.Zj HA.out.bl (fun _=>False)) id;replace xV:=Sk xV (Kept.Zj HA.out.bl (fun _=>False)) id;replace JH:=Sk JH (Kept.Zj HA.out.bl (fun _=>False)) id;replace wV:=Sk wV (Kept.Zj HA.out.bl (fun _=>False)) id;have q1:0 ≤ (i:Int):=by omega
       have q2:(i:Int) < (Da.length:Int):=by omega
       have naa:=ja.mk (show Pk.f (Aa Da (i:Int)).f0 (Aa Da (i:Int)).f1 (Aa Da (i:Int)).f2 (Aa Da (i:Int)).f3 (Aa Da (i:Int)).f4=some (zq Da i) from yO _);clear V8 Yz
       go_upto_region 14 with (fail)
       have KH:=qa (Below.refl wr.heap.size wr) (.cells #[.slice Ac (Aa Da (i:Int)).f0.length cc,.int .i64 (Aa Da (i:Int)).f1,.int .i64 (Aa Da (i:Int)).f2,.int .i64 (Aa Da (i:Int)).f3,.int .i64 (Aa Da (i:Int)).f4] 59 (0,0));have mJ:=nt wr (.cells #[.slice Ac (Aa Da (i:Int)).f0.length cc,.int .i64 (Aa Da (i:Int)).f1,.int .i64 (Aa Da (i:Int)).f2,.int .i64 (Aa Da (i:Int)).f3,.int .i64 (Aa Da (i:Int)).f4] 59 (0,0));generalize wr.alloc (.cells #[.slice Ac (Aa Da (i:Int)).f0.length cc,.int .i64 (Aa Da (i:Int)).f1,.int .i64 (Aa Da (i:Int)).f2,.int .i64 (Aa Da (i:Int)).f3,.int .i64 (Aa Da (i:Int)).f4] 59 (0,0))=qv at KH mJ ⊢;have tu:=ja.mk (HA.out.below KH);have Pz:=ja.mk mJ;have HPQ:=ja.mk (show ¬ PB wr.heap.size from fun e=>by have:=(HA.out.pb _ e).2;omega);have HCD:=ja.mk (Kd.Ob HCC.out tu.out.bl);clear KH mJ HA Nt hc0 Tt xV JH wV q1 q2 R1 hz0;generalize wr.heap.size=q7 at Pz HPQ ⊢;have ZQ:=(ga Pz.out 0).trans rfl;have h71:=(ga Pz.out 1).trans rfl;have h72:=(ga Pz.out 2).trans rfl;have h73:=(ga Pz.out 3).trans rfl;have h74:=(ga Pz.out 4).trans rfl;have htl:(zq Da i).length ≤ 2:=LH _;go_wp2_with (first|(go_at_call 78;(with_reducible refine (Pk.calls Ac cc (Aa Da (i:Int)).f0 (Aa Da (i:Int)).f1 (Aa Da (i:Int)).f2 (Aa Da (i:Int)).f3 (Aa Da (i:Int)).f4 (zq Da i) qv HCD.out HCL.out naa.out).mono ?_);rintro e gC ⟨v15,rfl,ho,hb⟩;obtain ⟨An,cn,rfl⟩:=Kd.De ho;have kaa:=ja.mk ho;have B1:=ja.mk hb;clear ho hb ZQ h71 h72 h73 h74));have Caa:=ja.mk (tu.out.below B1.out);have jaa:=ja.mk (Ua Pz.out B1.out);have HNC:=ja.mk (Kd.rD (S:=PB) (Kd.fe (Kd.Bh kaa.out) (fun k hk=>hk.2.1)) (fun k hk e=>by have:=(tu.out.pb k e).2;omega));have HR:=ja.mk (show XZ Da n X Y i X from ⟨HV.out,fun _ _=>rfl⟩);have HT:=ja.mk (show DS (zq Da i) 0 Y X i from fun t ht=>by simp at ht);clear tu kaa B1 HCD Pz naa
       go_loopg [51] (zq Da i).length (fun g4 v51 wr=>∃ (j:Nat) (X':List (List Bool)),v51 = .int .i64 j∧j ≤ (zq Da i).length∧(zq Da i).length - j ≤ g4∧ja (XZ Da n X Y i X')∧ja (DS (zq Da i) j Y X' i)∧ja (Nq w (nQ Ya Pa.length Za Ka Ga n (some ag) Da.length Jb) PB (.slice (some ⟨gX,0,none⟩) Da.length cX) (.slice (some ⟨gY,0,none⟩) Da.length cY) X' Y wr)∧ja (Kept gC wr PB))
       case atStart=>exact ⟨0,X,rfl,Nat.zero_le _,by omega,HR,HT,Caa,⟨Kept.refl _ _⟩⟩
       case round =>
        clear HR HT Caa;(try clear X);(try clear HR);(try clear HT);(try clear HA);(try clear HK);obtain ⟨j,X',rfl,hj,OW,HR,HT,HA,HK⟩:=hrel
        by_cases hjt:j < (zq Da i).length
        ·have rY:decide ((j:Int) < ((zq Da i).length:Int))=true:=decide_eq_true (by omega);have r1:0 ≤ (j:Int):=by omega
         have r2:(j:Int) < ((zq Da i).length:Int):=by omega
         obtain ⟨an,tn,e1,ht,htn,hx⟩:=lT HO.out.1 hi hjt (HNC.out wr HK.out);subst e1;have HTN:=ja.mk ht;have HTM:=ja.mk (List.getElem_mem hjt);obtain ⟨Ay,cy,hcy,hfy,hly,hCy,hKy⟩:=HA.out.TS htn;have ZV:=ja.mk hKy;have HYN:=ja.mk (HV.out.yr tn htn);have hyn:(Yd Y tn).length ≤ 1048576:=by have:=HYN.out;omega
         have t1:0 ≤ (tn:Int):=by omega
         have t2:(tn:Int) < (Da.length:Int):=by omega
         have E2:=ja.mk (show C_ tn 0 Y X' i from fun u hu=>by omega);clear ht hCy hKy hfy;go_wp2;clear hcy hx t1 t2 r1 r2 rY
         go_loopg [60] (Yd Y tn).length (fun g5 v60 wr=>∃ (s:Nat) (DP:List (List Bool)),v60 = .int .i64 s∧s ≤ (Yd Y tn).length∧(Yd Y tn).length - s ≤ g5∧ja (XZ Da n X Y i DP)∧ja (DS (zq Da i) j Y DP i)∧ja (C_ tn s Y DP i)∧ja (Nq w (nQ Ya Pa.length Za Ka Ga n (some ag) Da.length Jb) PB (.slice (some ⟨gX,0,none⟩) Da.length cX) (.slice (some ⟨gY,0,none⟩) Da.length cY) DP Y wr)∧ja (Kept gC wr PB)∧ja (∀ W,Kept wr W PB→Kd.C Kd.bool W Ay (Yd Y tn).length (Yd Y tn)))
         case atStart=>exact ⟨0,X',rfl,Nat.zero_le _,by omega,HR,HT,E2,HA,HK,ZV⟩
         case round =>
          clear HR HT E2 HA HK ZV;(try clear X);(try clear HR);(try clear HT);(try clear E2);(try clear HA);(try clear HK);(try clear ZV);obtain ⟨s,DP,rfl,hs,hg5,HR,HT,E2,HA,HK,ZV⟩:=hrel
          by_cases hst:s < (Yd Y tn).length
          ·have baj:decide ((s:Int) < ((Yd Y tn).length:Int))=true:=decide_eq_true (by omega);have s1:0 ≤ (s:Int):=by omega
           have s2:(s:Int) < ((Yd Y tn).length:Int):=by omega
           have hxl:(Yd DP i).length=(Yd Y tn).length:=by rw [HYN.out,HR.out.inv.xr i hi]
           have s3:(s:Int) < ((Yd DP i).length:Int):=by omega
           have HXL:=ja.mk hxl;have i1:0 ≤ (i:Int):=by omega
           have i2:(i:Int) < (Da.length:Int):=by omega
           obtain ⟨ay,e2,hy⟩:=mT (ZV.out wr (Kept.refl _ _)) hst;subst e2;obtain ⟨gi,ci,X1,hce,hfz,hpg,hput⟩:=(HA.out.below (qm (Below.refl wr.heap.size wr))).Iai hi (show s < (Yd DP i).length by omega);have tV:wr.cell? ⟨gX,i,none⟩=some (.slice (some ⟨gi,0,none⟩) (Yd DP i).length ci):=X1;have uV:wr.cell? ⟨gi,s,none⟩=some (.bool (seen (Yd DP i) s)):=hce;obtain ⟨Ht,T1,S1⟩:=HR.out.step HO.out.1 hi HTM.out HTN.out (by have:=HYN.out;omega) HT.out E2.out;have HPG:=ja.mk hpg;clear hxl hpg;cases hold:seen (Yd DP i) s with
           | true =>
            rw [hold,Bool.true_or] at Ht T1 S1;rw [hold] at uV hce;have HP:=ja.mk (hput true);have F0:=ja.mk (And.intro Ht (And.intro T1 S1));have EP:=ja.mk (And.intro hce hfz);clear Ht T1 S1 hput X1 hce hfz hold
            go_upto_region 20 with (fail)
            go_still_tail 16,(by kernel_rfl)
            have lg:=ja.mk ((HK.out.drew).setCell (p:=⟨gi,s,none⟩) (Or.inl HPG.out) (.bool true));have fS:=ja.mk (Kd.dA ZV.out (((Kept.refl wr PB).drew).setCell (p:=⟨gi,s,none⟩) (Or.inl HPG.out) (.bool true)));obtain ⟨hce,hfz⟩:=EP.out;have EP:=ja.mk hce;clear tV uV hy HA HK ZV
            change wpList _ _ _ _ _ wr.drew
            generalize wr.drew=wd at HP lg fS hce hfz ⊢;go_wp2
            go_roundg ((Yd Y tn).length - (s + 1))
            case measure=>omega
            case rel=>exact ⟨s + 1,_,by go_num,by omega,by omega,⟨F0.out.1⟩,⟨F0.out.2.1⟩,⟨F0.out.2.2⟩,HP,lg,fS⟩
           | false =>
            rw [hold,Bool.false_or] at Ht T1 S1;rw [hold] at uV hce;have HP:=ja.mk (hput (seen (Yd Y tn) s));have F0:=ja.mk (And.intro Ht (And.intro T1 S1));have EP:=ja.mk (And.intro hce hfz);clear Ht T1 S1 hput X1 hce hfz hold
            go_upto_region 20 with (fail)
            go_still_tail 16,(by kernel_rfl)
            have lg:=ja.mk ((HK.out.drew).setCell (p:=⟨gi,s,none⟩) (Or.inl HPG.out) (.bool (seen (Yd Y tn) s)));have fS:=ja.mk (Kd.dA ZV.out (((Kept.refl wr PB).drew).setCell (p:=⟨gi,s,none⟩) (Or.inl HPG.out) (.bool (seen (Yd Y tn) s))));obtain ⟨hce,hfz⟩:=EP.out;have EP:=ja.mk hce;clear tV uV hy HA HK ZV
            change wpList _ _ _ _ _ wr.drew
            generalize wr.drew=wd at HP lg fS hce hfz ⊢;go_wp2
            go_roundg ((Yd Y tn).length - (s + 1))
            case measure=>omega
            case rel=>exact ⟨s + 1,_,by go_num,by omega,by omega,⟨F0.out.1⟩,⟨F0.out.2.1⟩,⟨F0.out.2.2⟩,HP,lg,fS⟩
          ·have baj:decide ((s:Int) < ((Yd Y tn).length:Int))=false:=decide_eq_false (by omega);have HTJ:=ja.mk (HT.out.next hjt HTN.out (by have h2:=E2.out;rwa [show s=(Yd Y tn).length by omega] at h2));go_wp2
           go_roundg ((zq Da i).length - (j + 1))
           case measure=>omega
           case rel=>exact ⟨j + 1,DP,by go_num,by omega,by omega,HR,HTJ,HA,HK⟩
        ·have rY:decide ((j:Int) < ((zq Da i).length:Int))=false:=decide_eq_false (by omega);have HTJ:=ja.mk (show DS (zq Da i) (zq Da i).length Y X' i by have h2:=HT.out;rwa [show j=(zq Da i).length by omega] at h2);obtain ⟨wk,rfl⟩:∃ wk,wk=wr:=⟨_,rfl⟩;have HQK:=ja.mk (Kh jaa.out HK.out HPQ.out);have HQL:=ja.mk (Jc HQK.out);have HLR:=ja.mk (HR.out.inv.xr i hi);obtain ⟨Ax,cx,X1,hCx,hlx⟩:=HA.out.Cai hi;have HBE:=ja.mk (qa (Below.refl wk.heap.size wk) (.cells #[] 4 (0,0)));have HCX:=ja.mk (Kd.Ob hCx HBE.out);have HEM:=ja.mk (bO Kd.bool 4 wk wk.heap.size (Nat.le_refl _));have HLN:=ja.mk (show (([]:List Bool).length + (Yd X' i).length) * 1 ≤ 140737488355328 from by have:=HLR.out;simp;omega);have tV:=Sk X1 (Kept.Zj HBE.out (fun _=>False)) id;have i1:0 ≤ (i:Int):=by omega
         have i2:(i:Int) < (Da.length:Int):=by omega
         clear hCx HK HNC HT jaa
         go_upto_region 24 with (first|((with_reducible refine yb (N:=88) rfl ?_);refine Kd.Fi Kd.bool (w0:=wk) wk.heap.size rfl (.tmp 83) (.tmp 87) 60 4 (.bool false) 1 rfl Try.underlying60 Wz rfl (by decide) (by omega) (.slice (some ⟨wk.heap.size,0,none⟩) 0 0) [] (Yd X' i) Ax (Yd X' i).length cx (fun _=>True) (fun _=>False) rfl rfl HEM.out HCX.out (fun _ _ h=>h) (fun _ hk=>hk.elim) (fun _ _=>trivial) HBE.out HBE.out.size HLN.out ?_;intro v12 Vt ho lA zT hat;rw [List.nil_append] at ho;obtain ⟨As,cs,rfl⟩:=Kd.De ho;have WV:=ja.mk ho;have vP:=ja.mk lA;clear ho lA zT hat X1 tV))
         clear HBE HCX HEM HLN hlx hjt rY hj OW i1 i2;have L2:=ja.mk (cr HO.out hi);have uP:=ja.mk (Ua HQK.out vP.out);have h71:Vt.cell? ⟨q7,1,none⟩=some (.int .i64 (Aa Da (i:Int)).f1):=(ga uP.out 1).trans rfl
         by_cases zU:(Aa Da (i:Int)).f1=0
         case' pos =>
          have Y6:((Aa Da (i:Int)).f1 == 0)=true:=beq_iff_eq.2 zU;have hfb:((Aa Da (i:Int)).f1 != 0)=false:=by rw [zU];rfl
          have tP:=ja.mk (show Kd.R Kd.bool 4 Vt wk.heap.size (fun _=>True) (.slice As (Yd X' i).length cs) (qg (Aa Da (i:Int)) (Yd X' i)) from by rw [show qg (Aa Da (i:Int)) (Yd X' i)=Yd X' i from if_pos zU];exact WV.out);have mS:=vP;have dS:=uP
          go_upto_region 26 with (fail)
          clear h71 Y6 hfb WV vP uP zU;generalize Vt=xu at tP mS dS ⊢
         case' neg =>
          have Y6:((Aa Da (i:Int)).f1 == 0)=false:=beq_eq_false_iff_ne.2 zU;have hfb:((Aa Da (i:Int)).f1 != 0)=true:=bne_iff_ne.2 zU;obtain ⟨f20,f21⟩:=L2.out.2.1 zU;obtain ⟨u,hu⟩:∃ u:Nat,(Aa Da (i:Int)).f2=(u:Int):=⟨(Aa Da (i:Int)).f2.toNat,(Int.toNat_of_nonneg f20).symm⟩;have hul:u < (Yd X' i).length:=by have:=HLR.out;omega
          have Yai:(u:Int) < ((Yd X' i).length:Int):=by omega
          have hu0:0 ≤ (u:Int):=by omega
          have h72:Vt.cell? ⟨q7,2,none⟩=some (.int .i64 (u:Int)):=by rw [← hu];exact (ga uP.out 2).trans rfl
          obtain ⟨gs,e3,hgs,hcs,hfs,hput⟩:=SZ WV.out hul;obtain ⟨hr,hg⟩:=hput true;have tP:=ja.mk (show Kd.R Kd.bool 4 (Vt.setCell ⟨gs,u,none⟩ (.bool true)) wk.heap.size (fun _=>True) (.slice As (Yd X' i).length cs) (qg (Aa Da (i:Int)) (Yd X' i)) from by rw [show qg (Aa Da (i:Int)) (Yd X' i)=(Yd X' i).set u true from by unfold qg;rw [if_neg zU,hu,Int.toNat_natCast]];exact hr);have mS:=ja.mk (vP.out.grown hg vP.out.size (fun k e=>by injection e with e;omega));have dS:=ja.mk (Ed uP.out hg (fun e=>by injection e with e;have:=HQL.out;omega));subst e3;clear hr hg hput f20 f21 hu hul
          go_upto_region 26 with (fail)
          clear h71 h72 Y6 hfb WV vP uP zU hcs hfs hgs Yai hu0;generalize Vt.setCell ⟨gs,u,none⟩ (.bool true)=xu at tP mS dS ⊢;generalize (some ⟨gs,0,none⟩:Option Addr)=As at tP ⊢
         all_goals
          have ZQ:xu.cell? ⟨q7,0,none⟩=some (.slice Ac (Aa Da (i:Int)).f0.length cc):=(ga dS.out 0).trans rfl;have Yz:(Aa Da (i:Int)).f0.length ≤ 1048576:=L2.out.1;have vW:wrap64 (((Aa Da (i:Int)).f0.length:Int) - 1)=((Aa Da (i:Int)).f0.length:Int) - 1:=by unfold wrap64;omega
          have HWR:=ja.mk vW;clear vW;go_wp2;clear ZQ
          go_loopg [13] (Aa Da (i:Int)).f0.length (fun g6 V2 wr=>∃ (z:Int) (q:Nat),V2 = .int .i64 z∧z + 1=(q:Int)∧q ≤ (Aa Da (i:Int)).f0.length∧q ≤ g6∧ja (Kd.R Kd.bool 4 wr wk.heap.size (fun _=>True) (.slice As (Yd X' i).length cs) (zo (Aa Da (i:Int)).f0 q (qg (Aa Da (i:Int)) (Yd X' i))))∧ja (Below wk.heap.size wk wr))
          case atStart=>exact ⟨((Aa Da (i:Int)).f0.length:Int) - 1,(Aa Da (i:Int)).f0.length,by first|rfl|(go_simp;done)|exact congrArg _ HWR.out|go_num,by omega,Nat.le_refl _,Nat.le_refl _,⟨by rw [qt];exact tP.out⟩,mS⟩
          case round =>
           clear tP mS dS;(try clear HS6);(try clear lS);obtain ⟨z,q,rfl,hz6,hq6,hg6,HS6,lS⟩:=hrel
           by_cases hz0:0 ≤ z
           ·obtain ⟨p,rfl⟩:∃ p:Nat,z=(p:Int):=⟨z.toNat,(Int.toNat_of_nonneg hz0).symm⟩;obtain rfl:q=p + 1:=by omega
            have hp:p < (Aa Da (i:Int)).f0.length:=by omega
            have R1:decide ((p:Int) ≥ 0)=true:=decide_eq_true (by omega);have p1:0 ≤ (p:Int):=by omega
            have p2:(p:Int) < ((Aa Da (i:Int)).f0.length:Int):=by omega
            have ZQ:wr.cell? ⟨q7,0,none⟩=some (.slice Ac (Aa Da (i:Int)).f0.length cc):=(ga (Ua HQK.out lS.out) 0).trans rfl;obtain ⟨aI,e5,k0,k1,k2,k3,k4,k5,k6⟩:=um (Kd.Ob HCC.out (Qa HA.out.bl lS.out)) (p:Int) (by omega) (by omega);subst e5;simp only [Int.toNat_natCast] at k0 k1 k2 k3 k4 k5 k6;obtain ⟨kb,M4⟩:=Ev.rounds (FG (zo (Aa Da (i:Int)).f0 (p + 1) (qg (Aa Da (i:Int)) (Yd X' i))) (Ta (Aa Da (i:Int)).f0 (p:Int)) (by rw [ot,Pm,HLR.out];exact BC L2.out hp));have HKB:=ja.mk M4;have hwp:wrap64 ((p:Int) - 1)=(p:Int) - 1:=by unfold wrap64;omega
            have HWP:=ja.mk hwp;clear M4 hwp hz0;go_wp2_with (first|(go_at_call 79;(with_reducible refine (Dd.calls kb (fun _=>True) (.slice As (Yd X' i).length cs) (zo (Aa Da (i:Int)).f0 (p + 1) (qg (Aa Da (i:Int)) (Yd X' i))) (Ta (Aa Da (i:Int)).f0 (p:Int)).f0 (Ta (Aa Da (i:Int)).f0 (p:Int)).f1 (Ta (Aa Da (i:Int)).f0 (p:Int)).f2 (Ta (Aa Da (i:Int)).f0 (p:Int)).f3 (Ta (Aa Da (i:Int)).f0 (p:Int)).f4 (Ta (Aa Da (i:Int)).f0 (p:Int)).f5 (Ta (Aa Da (i:Int)).f0 (p:Int)).f6 _ wk wr lS.out HS6.out HKB.out).mono ?_);rintro e rO ⟨rfl,ho,hb,-⟩;have HS7:=ja.mk ho;have FP:=ja.mk hb;clear ho hb ZQ k0 k1 k2 k3 k4 k5 k6))
            go_roundg p
            case measure=>omega
            case rel=>exact ⟨(p:Int) - 1,p,by first|rfl|(go_simp;done)|exact congrArg _ HWP.out|go_num,by omega,by omega,Nat.le_refl _,⟨by rw [Qo hp];exact Kd.fe HS7.out (fun _ _=>trivial)⟩,FP⟩
           ·have R1:decide (z ≥ 0)=false:=decide_eq_false (by omega);obtain rfl:q=0:=by omega
            have HSI:=ja.mk (show Kd.R Kd.bool 4 wr wk.heap.size (fun _=>True) (.slice As (Yd X' i).length cs) (jz (Aa Da (i:Int)) (Yd X' i)) from HS6.out);obtain ⟨Ay,cy,hcy,hfy,hly,hCy,-⟩:=(HA.out.below lS.out).TS hi;obtain ⟨HN1,HN2⟩:=HS.out.next HO.out hi HR.out HTJ.out;have HN1:=ja.mk HN1;have HN2:=ja.mk HN2;obtain ⟨ke,hke⟩:=Ev.rounds (aZ (jz (Aa Da (i:Int)) (Yd X' i)) (Yd Y i) (by rw [zm,HLR.out];omega));have hEQ:=Tb.calls ke As cs (jz (Aa Da (i:Int)) (Yd X' i)) Ay cy (Yd Y i) _ wr (Kd.Lc HSI.out).2.2 (by have:=(Kd.Lc HSI.out).2.1;rw [zm];exact this) hCy hly hke;rw [zm] at hEQ;have bW:=ja.mk hEQ;have i1:0 ≤ (i:Int):=by omega
            have i2:(i:Int) < (Da.length:Int):=by omega
            clear hEQ hke hCy hfy hly;cases a with
            | true =>
             go_upto_region 31 with (fail)
             clear hcy;have FP:=lS;have HP:=ja.mk (HA.out.F3 FP.out hi HSI.out);obtain ⟨Az,cz,hcz,hfz,-⟩:=(HA.out.below FP.out).TS hi;have hwi:wrap64 ((i:Int) - 1)=(i:Int) - 1:=by unfold wrap64;omega
             have HWI:=ja.mk hwi;have i1:0 ≤ (i:Int):=by omega
             have i2:(i:Int) < (Da.length:Int):=by omega
             clear hwi;go_wp2
             go_roundg i
             case measure=>omega
             case rel=>exact ⟨(i:Int) - 1,i,X',_,_,by first|rfl|(rw [Bool.true_or]),by first|rfl|(go_simp;done)|exact congrArg _ HWI.out|go_num,by omega,by omega,Nat.le_refl _,HN1,HN2,HP⟩
            | false =>
             go_upto_region 31 with (first|(go_at_call 80;(with_reducible refine bW.out.mono ?_);rintro e FE ⟨rfl,hd⟩;have zaa:=ja.mk hd.below;clear hd hcy))
             have FP:=ja.mk (Qa lS.out zaa.out);have HP:=ja.mk (HA.out.F3 FP.out hi (Kd.dg HSI.out zaa.out));obtain ⟨Az,cz,hcz,hfz,-⟩:=(HA.out.below FP.out).TS hi;have hwi:wrap64 ((i:Int) - 1)=(i:Int) - 1:=by unfold wrap64;omega
             have HWI:=ja.mk hwi;have i1:0 ≤ (i:Int):=by omega
             have i2:(i:Int) < (Da.length:Int):=by omega
             clear hwi;go_wp2
             go_roundg i
             case measure=>omega
             case rel=>exact ⟨(i:Int) - 1,i,X',_,_,by first|rfl|(rw [Bool.false_or]),by first|rfl|(go_simp;done)|exact congrArg _ HWI.out|go_num,by omega,by omega,Nat.le_refl _,HN1,HN2,HP⟩
      ·have R1:decide (z ≥ 0)=false:=decide_eq_false (by omega);obtain rfl:q=0:=by omega
       have h1:=HS.out.le;have h2:=HS.out.lt;have h3:=HV.out.cnt
       have HM:=ja.mk (show n * Da.length - Lo Y + (if a=true then 1 else 0) < n * Da.length - C + 1 from by
        cases a with
        | false=>rw [if_neg (by simp)];omega
        | true=>have:=h2 rfl;rw [if_pos rfl];omega)
       clear h1 h2 h3;go_wp2
       go_roundg (n * Da.length - Lo Y + (if a=true then 1 else 0))
       case measure=>have:=HM.out;omega
       case rel=>exact ⟨X,Y,a,rfl,Nat.le_refl _,HV,⟨fun e i hi=>HS.out.so e i (Nat.zero_le _) hi⟩,HA⟩
attribute [local go_sem] bh Ki
theorem UI (q:Nat) (m:Int) (x:Rf) (A:Option Addr) (c:Nat) (s:List Bool) (w:World) (hv:w.heap[q]? = some (.cells #[.int .i64 m] 3 (0,0))) (hr:Kd.C Kd.bool w A s.length s) (hl:s.length ≤ c) (hs:s.length ≤ 1048576) :
  Calls Try.prog 51 #[.agg #[.int .i64 x.f0,.int .i64 x.f1,.int .i64 x.f2,.int .i64 x.f3,.int .i64 x.f4,.int .i64 x.f5,.string x.f6],.slice A s.length c,.pointer (some ⟨q,0,none⟩)] w fun e w'=>e = .returned (.tuple #[])∧w'.heap[q]? = some (.cells #[.int .i64 (max m ((Ok s s.length).length:Int))] 3 (0,0))∧Kept w w' (fun k=>k=q)∧Below 0 w w':=by
 obtain ⟨ko,U1⟩:=Ev.rounds (PC s hs);have HKO:=ja.mk U1;have HL:=ja.mk hl;obtain ⟨r,hrr⟩:∃ r,r=Ok s s.length:=⟨_,rfl⟩;rw [← hrr] at HKO ⊢;clear hrr U1;have HB1:=ja.mk (qa (Below.refl w.heap.size w) (.cells #[.int .i64 x.f0,.int .i64 x.f1,.int .i64 x.f2,.int .i64 x.f3,.int .i64 x.f4,.int .i64 x.f5,.string x.f6] 65 (0,0)));have HV:=ja.mk (Ua hv HB1.out);have HR:=ja.mk (Kd.Ob hr HB1.out);clear hv hr hl;go_enter Try.func51,Try.ntmps51
 go_upto_region 1 with (fail)
 generalize w.alloc (.cells #[.int .i64 x.f0,.int .i64 x.f1,.int .i64 x.f2,.int .i64 x.f3,.int .i64 x.f4,.int .i64 x.f5,.string x.f6] 65 (0,0))=w1 at HB1 HV HR ⊢;have K2:=ja.mk (qm HB1.out);have D0:=ja.mk (show w1.drew.heap[q]? = some (.cells #[.int .i64 m] 3 (0,0)) from HV.out);have HRd:=ja.mk (Kd.Zb HR.out);refine fl (n:=6) (S:=fun w'=>w'.cell? ⟨q,0,none⟩=some (.int .i64 m)) (ds:=[5]) #[false,false,false,false,false,false] (by kernel_rfl) rfl rfl ((ga D0.out 0).trans rfl) (fun hHeld=>?_);generalize w1.drew=wd at K2 D0 HRd hHeld ⊢;refine Wc (i:=1) (N:=some 6) (v:=?_) (a':=?_) #[false,true,false,false,false,false] rfl rfl (by kernel_rfl) (fun _ _ _ h=>h) (Or.inl ⟨by rfl,?_⟩) ?_ ?_;rotate_left
 ·intro w';go_simp;with_reducible rfl
 rotate_left
 ·simp only [Act.put,List.setIfInBounds_toArray,List.set_cons_zero,List.set_cons_succ,Xb,Yb]
  rfl
 refine ug (i:=0) (N:=some 5) (v:=?_) (a':=?_) #[true,true,false,false,false,false] rfl rfl (by kernel_rfl) (fun _ _ _ h=>h) (Or.inl ⟨by rfl,?_⟩) hHeld ?_ ?_;rotate_left
 ·intro w' s0;go_simp;with_reducible rfl
 rotate_left
 ·simp only [Act.put,List.setIfInBounds_toArray,List.set_cons_zero,List.set_cons_succ,Xb,Yb]
  rfl
 refine Qv (i:=2) (N:=some 7) #[true,true,true,false,false,false] rfl rfl (by kernel_rfl) (by decide) (fun K hK=>?_);refine Ko Try.func48 (by kernel_rfl) rfl #[.slice A s.length c] (by rfl) rfl rfl (by simp only [List.map_toArray,List.map_cons,List.map_nil];rfl) ?_;with_reducible refine (Gd.calls ko A c s r wd HRd.out HL.out HKO.out).mono ?_
 rintro e w2 ⟨v2,rfl,ho,hb⟩;refine ⟨_,rfl,?_⟩;obtain ⟨A2,c2,rfl⟩:=Kd.De ho;have cw:=ja.mk (Qa K2.out hb);have HV2:=ja.mk (Ua D0.out hb);clear ho hb;refine hK.out _ _ ((ga HV2.out 0).trans rfl) (fun hHeld=>?_);clear hK K;refine Eo (a':=?_) ?_ ?_;rotate_left
 ·show Act.put _ (some 7) _=_
  simp only [Act.put,List.setIfInBounds_toArray,List.set_cons_zero,List.set_cons_succ,Xb,Yb]
  rfl
 refine Wc (i:=3) (N:=some 8) (v:=?_) (a':=?_) #[true,true,true,true,false,false] rfl rfl (by kernel_rfl) (fun _ _ _ h=>h) (Or.inl ⟨by rfl,?_⟩) ?_ ?_;rotate_left
 ·intro w';go_simp;with_reducible rfl
 rotate_left
 ·simp only [Act.put,List.setIfInBounds_toArray,List.set_cons_zero,List.set_cons_succ,Xb,Yb]
  rfl
 refine Wc (i:=4) (N:=some 9) (v:=?_) (a':=?_) #[true,true,true,true,true,false] rfl rfl (by kernel_rfl) (fun _ _ _ h=>h) (Or.inl ⟨by rfl,?_⟩) ?_ ?_;rotate_left
 ·intro w';go_simp;with_reducible rfl
 rotate_left
 ·simp only [Act.put,List.setIfInBounds_toArray,List.set_cons_zero,List.set_cons_succ,Xb,Yb]
  rfl
 refine tW (i:=5) (N:=none) #[true,true,true,true,true,true] rfl rfl (by kernel_rfl) (by decide) (fun K hK=>?_);have hfz:=aa HV2.out 0;have HN:=ja.mk (show (w2.setCell ⟨q,0,none⟩ (.int .i64 (if m < (r.length:Int) then (r.length:Int) else m))).heap[q]? = some (.cells #[.int .i64 (if m < (r.length:Int) then (r.length:Int) else m)] 3 (0,0)) from SB HV2.out 0 _);have HKN:=ja.mk ((Kept.Zj (Qa (Below.refl w.heap.size w) cw.out) (fun k=>k=q)).setCell (p:=⟨q,0,none⟩) (Or.inl rfl) (.int .i64 (if m < (r.length:Int) then (r.length:Int) else m)));refine qW (w1:=?_) (by rfl) rfl ?_ ?_;rotate_left
 ·go_simp
  rfl
 refine hK.out _ _ ?_;clear hK K;refine Tp (by kernel_rfl) ?_;clear hHeld
 have wT:(if m < (r.length:Int) then (r.length:Int) else m)=max m (r.length:Int):=by
  by_cases h:m < (r.length:Int)
  ·rw [if_pos h];omega
  ·rw [if_neg h];omega
 have Y0:=ja.mk ((vt cw.out).trans (show Below 0 w2 (w2.setCell ⟨q,0,none⟩ (.int .i64 (if m < (r.length:Int) then (r.length:Int) else m))) from (Below.refl 0 w2).setCell (Nat.zero_le _) _));rw [wT] at HN HKN Y0 ⊢;clear wT;go_wp2;refine bodyPost_end (v:=.tuple #[]) ?_ rfl ?_
 ·exact results_none rfl _ _ _
 exact ⟨rfl,HN.out,HKN.out,Y0.out⟩
def bE (m:Int) (_:Rf) (s:List Bool):Int:=max m ((Ok s s.length).length:Int)
noncomputable def Vz (bs:List (Ce)) (n:Nat) (m:Int) (i:Nat):Int:=max m ((Ok (jz (Aa bs (i:Int)) (fk bs n i)) n).length:Int)
noncomputable def XP (bs:List (Ce)) (n:Nat):Int:=(List.range bs.length).foldl (Vz bs n) 0
noncomputable def vC (bs:List (Ce)) (n:Nat):Int:=Ai bE bs (ze bs n) 0 (XP bs n)
noncomputable def We.f (k:Nat) (Pa:List Int) (Ka:Int) (Ga:Int) (Ia:Int) (Da:List (Ce)):Option Int:=open Classical in (dc.f k Pa Ka Ga Ia Da).bind fun t=>if t=true then (if 0 ≤ Ia∧jn Da Ia.toNat then some (vC Da Ia.toNat) else none) else some (-1)
theorem rC {bs:List (Ce)} {n i:Nat} (hi:i < bs.length):Yd (ze bs n) i=fk bs n i:=by
 unfold Yd ze;rw [List.getD_eq_getElem?_getD];simp [hi]
theorem We.calls (k:Nat) (Ya:Option Addr) (Za:Nat) (Pa:List Int) (Ka:Int) (Ga:Int) (Ia:Int) (Vb:Option Addr) (Jb:Nat) (Da:List (Ce)) (r:Int) (w:World) (Wd:Kd.C (Kd.int .i64) w Ya Pa.length Pa) (Sd:Pa.length ≤ Za) (zf:Kd.C Mt w Vb Da.length Da) (uf:Da.length ≤ Jb) (h:We.f k Pa Ka Ga Ia Da=some r) :
  Calls Try.prog 13 #[.agg #[.slice Ya Pa.length Za,.int .i64 Ka,.int .i64 Ga,.int .i64 Ia,.slice Vb Da.length Jb]] w fun e w'=>e = .returned (.int .i64 r)∧Below w.heap.size w w':=by
 unfold We.f at h;obtain ⟨t,tT,h⟩:=Option.bind_eq_some_iff.mp h;have TT_:=ja.mk tT;obtain ⟨W1,Qf⟩:∃ W1,W1=w.alloc (.cells #[.slice Ya Pa.length Za,.int .i64 Ka,.int .i64 Ga,.int .i64 Ia,.slice Vb Da.length Jb] 30 (0,0)):=⟨_,rfl⟩;have HW:=ja.mk Qf;have HB:=ja.mk (show Below w.heap.size w W1 by rw [Qf];exact qa (Below.refl _ _) _);have HX:=ja.mk (show W1.heap[w.heap.size]? = some (.cells #[.slice Ya Pa.length Za,.int .i64 Ka,.int .i64 Ga,.int .i64 Ia,.slice Vb Da.length Jb] 30 (0,0)) by rw [Qf];exact nt _ _);have sn:=ja.mk Wd;have ES:=ja.mk zf;have P0:=ja.mk Sd;have tX:=ja.mk uf;have HH:=ja.mk h;have hx0:W1.cell? ⟨w.heap.size,0,none⟩=some (.slice Ya Pa.length Za):=(ga HX.out 0).trans rfl;have hx1:W1.cell? ⟨w.heap.size,1,none⟩=some (.int .i64 Ka):=(ga HX.out 1).trans rfl;have kz:W1.cell? ⟨w.heap.size,2,none⟩=some (.int .i64 Ga):=(ga HX.out 2).trans rfl;have Sv:W1.cell? ⟨w.heap.size,3,none⟩=some (.int .i64 Ia):=(ga HX.out 3).trans rfl;have Nt:W1.cell? ⟨w.heap.size,4,none⟩=some (.slice Vb Da.length Jb):=(ga HX.out 4).trans rfl;clear Qf Wd zf Sd uf h tT;go_enter Try.func13,Try.ntmps13
 go_upto_region 1 with (fail)
 rw [← HW.out];clear HW;cases t with
 | false =>
  have h:=HH.out;rw [if_neg (by simp)] at h;cases h;go_wp2_with (first|(go_at_call 46;(with_reducible refine (dc.calls k Ya Za Pa Ka Ga Ia Vb Jb Da false W1 (Kd.Ob sn.out HB.out) P0.out (Kd.Ob ES.out HB.out) tX.out TT_.out).mono ?_);rintro e w2 ⟨rfl,hb⟩;have cw:=ja.mk (Qa HB.out hb);have HX2:=ja.mk (Ua HX.out hb);clear hb hx0 hx1 kz Sv Nt));go_ret;exact ⟨rfl,cw.out⟩
 | true =>
  have h:=HH.out;rw [if_pos rfl] at h
  by_cases hf:0 ≤ Ia∧jn Da Ia.toNat
  case neg=>rw [if_neg hf] at h;cases h
  rw [if_pos hf] at h;obtain ⟨hn0,hO⟩:=hf;obtain ⟨n,rfl⟩:∃ n:Nat,Ia=(n:Int):=⟨Ia.toNat,(Int.toNat_of_nonneg hn0).symm⟩;rw [Int.toNat_natCast] at h hO;cases h;have HO:=ja.mk hO;have hn:n ≤ 1048576:=hO.2.1;have hm1:Da.length ≤ 1048576:=hO.1.2.1;have hm0:0 < Da.length:=hO.1.1;clear hO hn0 HH
  go_upto_region 4 with (first|(go_at_call 46;(with_reducible refine (dc.calls k Ya Za Pa Ka Ga (n:Int) Vb Jb Da true W1 (Kd.Ob sn.out HB.out) P0.out (Kd.Ob ES.out HB.out) tX.out TT_.out).mono ?_);rintro e w2 ⟨rfl,hb⟩;have cw:=ja.mk (Qa HB.out hb);have HX2:=ja.mk (Ua HX.out hb);clear hb hx0 hx1 kz Sv Nt))
  have SW:=qa (Below.refl w2.heap.size w2) (.cells #[.int .i64 0] 3 (0,0));have hv3:=nt w2 (.cells #[.int .i64 0] 3 (0,0));generalize w2.alloc (.cells #[.int .i64 0] 3 (0,0))=w3 at SW hv3 ⊢;have Y0:=ja.mk (Qa cw.out SW);have C0:=ja.mk (Ua HX2.out SW);have HV3:=ja.mk hv3;have HQ:=ja.mk (Jc HX2.out);have HQ3:=ja.mk (Jc hv3);clear SW hv3 cw HX2 HB HX;generalize w2.heap.size=q at HV3 HQ HQ3 ⊢;have hx0:w3.cell? ⟨w.heap.size,0,none⟩=some (.slice Ya Pa.length Za):=(ga C0.out 0).trans rfl;have hx1:w3.cell? ⟨w.heap.size,1,none⟩=some (.int .i64 Ka):=(ga C0.out 1).trans rfl;have kz:w3.cell? ⟨w.heap.size,2,none⟩=some (.int .i64 Ga):=(ga C0.out 2).trans rfl;have Sv:w3.cell? ⟨w.heap.size,3,none⟩=some (.int .i64 (n:Int)):=(ga C0.out 3).trans rfl;have Nt:w3.cell? ⟨w.heap.size,4,none⟩=some (.slice Vb Da.length Jb):=(ga C0.out 4).trans rfl
  have HLV:=ja.mk (show Qk.f Pa Ka Ga (n:Int) Da=some (ze Da n) by
   unfold Qk.f
   rw [if_pos ⟨by omega,by rw [Int.toNat_natCast];exact HO.out⟩,Int.toNat_natCast])
  go_upto_region 5 with (first|(go_at_call 47;(with_reducible refine (Qk.calls Ya Za Pa Ka Ga (n:Int) Vb Jb Da (ze Da n) w3 (Kd.Ob sn.out Y0.out) P0.out (Kd.Ob ES.out Y0.out) tX.out HLV.out).mono ?_);rintro e w4 ⟨v4,rfl,ho,hb⟩;obtain ⟨A4,c4,rfl⟩:=Kd.yt ho;have HS4:=ja.mk ho;have lW:=ja.mk hb;clear ho hb hx0 hx1 kz Sv Nt))
  rw [Zg] at HS4 ⊢;have HX4:=ja.mk (Ua C0.out lW.out);have HV4:=ja.mk (Ua HV3.out lW.out);have HB4:=ja.mk (Qa Y0.out lW.out);have HCL:=ja.mk (show Da.length ≤ c4 from (Kd.ef HS4.out).2.1);have HLC:=ja.mk (show ∀ W,Kept w4 W (fun k=>k=q)→Kd.C (Kd.slice 4 Kd.bool) W A4 (ze Da n).length (ze Da n) from fun W hk=>(Kd.ef (Kd.RR (Kd.sg (Kd.Oy HS4.out) (fun k hk=>hk.2.1):Kd.S (Kd.slice 4 Kd.bool) _ w4 _ (fun k=>w3.heap.size ≤ k) _ _) hk (fun k hk e=>by have:=HQ3.out;omega))).2.2)
  have HLI:=ja.mk (show ∀ (W:World) (i:Nat),i < Da.length→Below w.heap.size w W→Kept w4 W (fun k=>k=q)→Calls Try.prog 49 #[.agg #[.slice Ya Pa.length Za,.int .i64 Ka,.int .i64 Ga,.int .i64 (n:Int),.slice Vb Da.length Jb],.slice A4 Da.length c4,.int .i64 (i:Int)] W fun e w'=>∃ kn:Value,e = .returned (kn)∧Kd.R Kd.bool 4 w' W.heap.size (fun _=>True) kn (jz (Aa Da (i:Int)) (fk Da n i))∧Below W.heap.size W w' from fun W i hi hb hk=>by
   have hrw:Yd (ze Da n) i=fk Da n i:=by
    unfold Yd ze;rw [List.getD_eq_getElem?_getD];simp [hi]
   obtain ⟨kl,hkl⟩:=Ev.rounds (cP HO.out hi (ze Da n) (Zg Da n) (by rw [hrw];exact Kg _ _ _) Pa Ka Ga (n:Int));rw [hrw] at hkl;have hc:=He.calls kl Ya Za Pa Ka Ga (n:Int) Vb Jb Da A4 c4 (ze Da n) (i:Int) _ W (Kd.Ob sn.out hb) P0.out (Kd.Ob ES.out hb) tX.out (HLC.out W hk) (by rw [Zg];exact HCL.out) hkl;rw [Zg] at hc
   exact hc)
  clear C0 HV3 Y0 lW HS4;have Nt:w4.cell? ⟨w.heap.size,4,none⟩=some (.slice Vb Da.length Jb):=(ga HX4.out 4).trans rfl;go_wp2;clear Nt
  go_loopg [14] Da.length (fun gg v14 wr=>∃ (i:Nat) (m:Int),v14 = .int .i64 i∧i ≤ Da.length∧Da.length - i ≤ gg∧ja (((List.range Da.length).drop i).foldl (Vz Da n) m=XP Da n)∧ja (wr.heap[q]? = some (.cells #[.int .i64 m] 3 (0,0)))∧ja (Kept w4 wr (fun k=>k=q))∧ja (Below w.heap.size w wr))
  case atStart=>exact ⟨0,0,rfl,Nat.zero_le _,by omega,⟨rfl⟩,HV4,⟨Kept.refl _ _⟩,HB4⟩
  case round =>
   clear HV4 HB4;(try clear bW);(try clear HV);(try clear HK);(try clear HB);obtain ⟨i,m,rfl,hi,V1,bW,HV,HK,HB⟩:=hrel
   by_cases hlt:i < Da.length
   ·have nJ:decide ((i:Int) < (Da.length:Int))=true:=decide_eq_true (by omega);obtain ⟨r,hr⟩:∃ r,r=jz (Aa Da (i:Int)) (fk Da n i):=⟨_,rfl⟩;have hrl:r.length=n:=by rw [hr,zm,Kg]
    have HRR:=ja.mk hr;obtain ⟨ko,U1⟩:=Ev.rounds (PC r (by rw [hrl];exact hn));obtain ⟨o,ho⟩:∃ o,o=Ok r r.length:=⟨_,rfl⟩;rw [← ho] at U1;have HKO:=ja.mk U1;have HNX:=ja.mk (show Vz Da n m i=max m (o.length:Int) by unfold Vz;rw [ho,hr,zm,Kg]);clear hr ho U1 hrl
    go_upto_region 8 with (fail)
    have K2:=ja.mk (qm HB.out);have HKd:=ja.mk (show Kept w4 wr.drew (fun k=>k=q) from HK.out.drew);have D0:=ja.mk (show wr.drew.heap[q]? = some (.cells #[.int .i64 m] 3 (0,0)) from HV.out);have B0:=ja.mk (Kh HX4.out HKd.out (by have:=HQ.out;omega));have HCI:=ja.mk (HLI.out wr.drew i hlt K2.out HKd.out);rw [← HRR.out] at HCI;refine fl (n:=9) (S:=fun w'=>w'.cell? ⟨q,0,none⟩=some (.int .i64 m)∧w'.cell? ⟨w.heap.size,0,none⟩=some (.slice Ya Pa.length Za)∧w'.cell? ⟨w.heap.size,1,none⟩=some (.int .i64 Ka)∧w'.cell? ⟨w.heap.size,2,none⟩=some (.int .i64 Ga)∧w'.cell? ⟨w.heap.size,3,none⟩=some (.int .i64 (n:Int))∧w'.cell? ⟨w.heap.size,4,none⟩=some (.slice Vb Da.length Jb)) (ds:=[8]) #[false,false,false,false,false,false,false,false,false] (by kernel_rfl) rfl rfl ⟨(ga D0.out 0).trans rfl,(ga B0.out 0).trans rfl,(ga B0.out 1).trans rfl,(ga B0.out 2).trans rfl,(ga B0.out 3).trans rfl,(ga B0.out 4).trans rfl⟩ (fun hHeld=>?_);generalize wr.drew=wd at K2 HKd D0 B0 HCI hHeld ⊢;refine Wc (i:=2) (N:=some 19) (v:=?_) (a':=?_) #[false,false,true,false,false,false,false,false,false] rfl rfl (by kernel_rfl) (fun _ _ _ h=>h) (Or.inl ⟨by rfl,?_⟩) ?_ ?_;rotate_left
    ·intro w';go_simp;with_reducible rfl
    rotate_left
    ·simp only [Act.put,List.setIfInBounds_toArray,List.set_cons_zero,List.set_cons_succ,Xb,Yb]
     rfl
    refine Wc (i:=3) (N:=some 20) (v:=?_) (a':=?_) #[false,false,true,true,false,false,false,false,false] rfl rfl (by kernel_rfl) (fun _ _ _ h=>h) (Or.inl ⟨by rfl,?_⟩) ?_ ?_;rotate_left
    ·intro w';go_simp;with_reducible rfl
    rotate_left
    ·simp only [Act.put,List.setIfInBounds_toArray,List.set_cons_zero,List.set_cons_succ,Xb,Yb]
     rfl
    refine ug (i:=0) (N:=some 17) (v:=?_) (a':=?_) #[true,false,true,true,false,false,false,false,false] rfl rfl (by kernel_rfl) (fun _ _ _ h=>h) (Or.inl ⟨by rfl,?_⟩) hHeld ?_ ?_;rotate_left
    ·rintro w' ⟨s0,s1,s2,s3,s4,s5⟩;go_simp;with_reducible rfl
    rotate_left
    ·simp only [Act.put,List.setIfInBounds_toArray,List.set_cons_zero,List.set_cons_succ,Xb,Yb]
     rfl
    refine ug (i:=1) (N:=some 18) (v:=?_) (a':=?_) #[true,true,true,true,false,false,false,false,false] rfl rfl (by kernel_rfl) (fun _ _ _ h=>h) (Or.inl ⟨by rfl,?_⟩) hHeld ?_ ?_;rotate_left
    ·rintro w' ⟨s0,s1,s2,s3,s4,s5⟩;go_simp;with_reducible rfl
    rotate_left
    ·simp only [Act.put,List.setIfInBounds_toArray,List.set_cons_zero,List.set_cons_succ,Xb,Yb]
     rfl
    refine Qv (i:=4) (N:=some 21) #[true,true,true,true,true,false,false,false,false] rfl rfl (by kernel_rfl) (by decide) (fun K hK=>?_);refine Ko Try.func49 (by kernel_rfl) rfl #[.agg #[.slice Ya Pa.length Za,.int .i64 Ka,.int .i64 Ga,.int .i64 (n:Int),.slice Vb Da.length Jb],.slice A4 Da.length c4,.int .i64 (i:Int)] (by rfl) rfl rfl (by simp only [List.map_toArray,List.map_cons,List.map_nil];rfl) ?_;with_reducible refine (HCI.out).mono ?_
    rintro e w5 ⟨v5,rfl,ho,hb⟩;refine ⟨_,rfl,?_⟩;obtain ⟨A5,c5,rfl⟩:=Kd.De ho;have HR5:=ja.mk ho;have V0:=ja.mk (Qa K2.out hb);have gS:=ja.mk (HKd.out.below hb);have HV5:=ja.mk (Ua D0.out hb);have D2:=ja.mk (Ua B0.out hb);clear ho hb;refine hK.out _ _ ⟨(ga HV5.out 0).trans rfl,(ga D2.out 0).trans rfl,(ga D2.out 1).trans rfl,(ga D2.out 2).trans rfl,(ga D2.out 3).trans rfl,(ga D2.out 4).trans rfl⟩ (fun hHeld=>?_);clear hK K;refine Eo (a':=?_) ?_ ?_;rotate_left
    ·show Act.put _ (some 21) _=_
     simp only [Act.put,List.setIfInBounds_toArray,List.set_cons_zero,List.set_cons_succ,Xb,Yb]
     rfl
    refine Qv (i:=5) (N:=some 22) #[true,true,true,true,true,true,false,false,false] rfl rfl (by kernel_rfl) (by decide) (fun K hK=>?_);refine Ko Try.func48 (by kernel_rfl) rfl #[.slice A5 r.length c5] (by rfl) rfl rfl (by simp only [List.map_toArray,List.map_cons,List.map_nil];rfl) ?_;with_reducible refine (Gd.calls ko A5 c5 r o w5 (Kd.Lc HR5.out).2.2 (Kd.Lc HR5.out).2.1 HKO.out).mono ?_
    rintro e w6 ⟨v6,rfl,ho,hb⟩;refine ⟨_,rfl,?_⟩;obtain ⟨A6,c6,rfl⟩:=Kd.De ho;have lS:=ja.mk (Qa V0.out hb);have G2:=ja.mk (gS.out.below hb);have HV6:=ja.mk (Ua HV5.out hb);have HX6:=ja.mk (Ua D2.out hb);clear ho hb;refine hK.out _ _ ⟨(ga HV6.out 0).trans rfl,(ga HX6.out 0).trans rfl,(ga HX6.out 1).trans rfl,(ga HX6.out 2).trans rfl,(ga HX6.out 3).trans rfl,(ga HX6.out 4).trans rfl⟩ (fun hHeld=>?_);clear hK K;refine Eo (a':=?_) ?_ ?_;rotate_left
    ·show Act.put _ (some 22) _=_
     simp only [Act.put,List.setIfInBounds_toArray,List.set_cons_zero,List.set_cons_succ,Xb,Yb]
     rfl
    refine Wc (i:=6) (N:=some 23) (v:=?_) (a':=?_) #[true,true,true,true,true,true,true,false,false] rfl rfl (by kernel_rfl) (fun _ _ _ h=>h) (Or.inl ⟨by rfl,?_⟩) ?_ ?_;rotate_left
    ·intro w';go_simp;with_reducible rfl
    rotate_left
    ·simp only [Act.put,List.setIfInBounds_toArray,List.set_cons_zero,List.set_cons_succ,Xb,Yb]
     rfl
    refine Wc (i:=7) (N:=some 24) (v:=?_) (a':=?_) #[true,true,true,true,true,true,true,true,false] rfl rfl (by kernel_rfl) (fun _ _ _ h=>h) (Or.inl ⟨by rfl,?_⟩) ?_ ?_;rotate_left
    ·intro w';go_simp;with_reducible rfl
    rotate_left
    ·simp only [Act.put,List.setIfInBounds_toArray,List.set_cons_zero,List.set_cons_succ,Xb,Yb]
     rfl
    refine tW (i:=8) (N:=none) #[true,true,true,true,true,true,true,true,true] rfl rfl (by kernel_rfl) (by decide) (fun K hK=>?_);have hfz:=aa HV6.out 0;have HV7:=ja.mk (show (w6.setCell ⟨q,0,none⟩ (.int .i64 (if m < (o.length:Int) then (o.length:Int) else m))).heap[q]? = some (.cells #[.int .i64 (if m < (o.length:Int) then (o.length:Int) else m)] 3 (0,0)) from SB HV6.out 0 _);have aW:=ja.mk (G2.out.setCell (p:=⟨q,0,none⟩) (Or.inl rfl) (.int .i64 (if m < (o.length:Int) then (o.length:Int) else m)));have FP:=ja.mk (show Below w.heap.size w (w6.setCell ⟨q,0,none⟩ (.int .i64 (if m < (o.length:Int) then (o.length:Int) else m))) from lS.out.setCell (Nat.le_of_lt HQ.out) _);refine qW (w1:=?_) (by rfl) rfl ?_ ?_;rotate_left
    ·go_simp
     rfl
    refine hK.out _ _ ?_;clear hK K;refine Tp (by kernel_rfl) ?_;clear hHeld
    have wT:(if m < (o.length:Int) then (o.length:Int) else m)=Vz Da n m i:=by
     rw [HNX.out]
     by_cases h:m < (o.length:Int)
     ·rw [if_pos h];omega
     ·rw [if_neg h];omega
    rw [wT] at HV7 aW FP ⊢;clear wT;have hstep:=bW.out;rw [List.drop_eq_getElem_cons (by rw [List.length_range];exact hlt),List.foldl_cons,List.getElem_range] at hstep;have HE7:=ja.mk hstep;clear hstep;go_wp2
    go_roundg (Da.length - (i + 1))
    case measure=>omega
    case rel=>exact ⟨i + 1,_,by go_num,by omega,by omega,HE7,HV7,aW,FP⟩
   ·have nJ:decide ((i:Int) < (Da.length:Int))=false:=decide_eq_false (by omega);have heq:=bW.out;rw [List.drop_eq_nil_of_le (by rw [List.length_range];omega),List.foldl_nil] at heq;obtain ⟨wq,rfl⟩:∃ wq,wq=wr:=⟨_,rfl⟩;have HXr:=ja.mk (Kh HX4.out HK.out (by have:=HQ.out;omega));have hx0:wq.cell? ⟨w.heap.size,0,none⟩=some (.slice Ya Pa.length Za):=(ga HXr.out 0).trans rfl;have hx1:wq.cell? ⟨w.heap.size,1,none⟩=some (.int .i64 Ka):=(ga HXr.out 1).trans rfl;have kz:wq.cell? ⟨w.heap.size,2,none⟩=some (.int .i64 Ga):=(ga HXr.out 2).trans rfl;have Sv:wq.cell? ⟨w.heap.size,3,none⟩=some (.int .i64 (n:Int)):=(ga HXr.out 3).trans rfl;have Nt:wq.cell? ⟨w.heap.size,4,none⟩=some (.slice Vb Da.length Jb):=(ga HXr.out 4).trans rfl;have hmf:∀ (fn:Fn) (first cap:Array Value) (w:World),(Instr.makeFunc fn first cap).run Try.prog w = .ok (.func fn first cap) w:=fun _ _ _ _=>rfl
    have hev:=GG bE (fun m W=>W.heap[q]? = some (.cells #[.int .i64 m] 3 (0,0))) (fun k=>k=q) 51 #[.pointer (some ⟨q,0,none⟩)] (enters_of Try.func51 (by kernel_rfl) rfl)
     Ya Za Pa Ka Ga n Vb Jb Da A4 c4 (ze Da n) m w wq HB.out (fun k e=>by have:=HQ.out;omega) (fun k e=>by have:=Jc HV.out;omega) sn.out P0.out ES.out tX.out
     (fun W hk=>HLC.out W (HK.out.mC hk (fun k h=>h.elim Or.inl (fun h=>Or.inr (Nat.le_trans HK.out.1 h))))) (by rw [Zg];exact HCL.out) HO.out (Zg _ _) (fun i hi=>by rw [rC hi];exact Kg _ _ _)
     HV.out (fun m W W' h1 h2=>(h2 q (Jc HV.out)).trans h1)
     (fun W m x A c s hk hv hx BQ hC hl=>(UI q m x A c s W hv hC hl (by rw [BQ];exact hn)).mono (fun e w' h=>h))
    rw [heq,Zg] at hev;have HEV:=ja.mk hev;clear hev heq;go_wp2_with (first|(go_at_call 50;(with_reducible refine HEV.out.mono ?_);rintro e w9 ⟨rfl,hv9,hk9,hb9⟩;have HV9:=ja.mk hv9;have HK9:=ja.mk hk9;have HB9:=ja.mk hb9;clear hv9 hk9 hb9 hx0 hx1 kz Sv Nt;have hq9:=(ga HV9.out 0).trans rfl));go_ret;have hbb:=HB9.out;have xT:=HB.out.size;exact ⟨rfl,HB.out.trans ⟨hbb.os,hbb.tape,hbb.output,HK9.out.1,fun k hk=>HK9.out.2 k (by omega) (fun e=>e.elim (fun e=>by have:=HQ.out;omega) (fun e=>by omega))⟩⟩
noncomputable def Uf.f (k:Nat) (Pa:List Int) (Ka:Int) (Ga:Int) (Ia:Int) (Da:List (Xv)):Option (Bool):=(Cg.f k Pa Ka Ga Ia Da 1048576).bind fun t102=>(if t102 < 0 then (some true) else ((xd.f k Pa Ka Ga Ia Da).bind fun Wm=>((qb.f k Wm.1 Wm.2.1 Wm.2.2.1 Wm.2.2.2.1 Wm.2.2.2.2).bind fun t112=>((xd.f k Pa Ka Ga Ia Da).bind fun Fe=>((We.f k Fe.1 Fe.2.1 Fe.2.2.1 Fe.2.2.2.1 Fe.2.2.2.2).bind fun t123=>(if t123=t112 then ((xd.f k Pa Ka Ga Ia Da).bind fun Xf=>((bf.f k Fe.1 Fe.2.1 Fe.2.2.1 Fe.2.2.2.1 Fe.2.2.2.2 Xf.1 Xf.2.1 Xf.2.2.1 Xf.2.2.2.1 Xf.2.2.2.2).bind fun t133=>(if t133=true then (some true) else (none)))) else (none)))))))
theorem Uf.calls (k:Nat) (Ya:Option Addr) (Za:Nat) (Pa:List Int) (Ka:Int) (Ga:Int) (Ia:Int) (Vb:Option Addr) (Jb:Nat) (Da:List (Xv)) (r:Bool) (w:World) (Wd:Kd.C (Kd.int .i64) w Ya Pa.length Pa) (Sd:Pa.length ≤ Za) (zf:Kd.C qQ w Vb Da.length Da) (uf:Da.length ≤ Jb) (h:Uf.f k Pa Ka Ga Ia Da=some r) :
  Calls Try.prog 3 #[.agg #[.slice Ya Pa.length Za,.int .i64 Ka,.int .i64 Ga,.int .i64 Ia,.slice Vb Da.length Jb]] w fun e w'=>e = .returned (.bool r)∧Below w.heap.size w w':=by
 have K3:=Try.underlying25;have LD:=Try.underlying30;have qe:=ja.mk Wd;have Be:=ja.mk Sd;clear Wd Sd;have Hf:=ja.mk zf;have Tg:=ja.mk uf;clear zf uf;have HB:=ja.mk (Below.refl w.heap.size w);have H:((Cg.f k Pa Ka Ga Ia Da 1048576).bind fun t102=>(if t102 < 0 then (some true) else ((xd.f k Pa Ka Ga Ia Da).bind fun Wm=>((qb.f k Wm.1 Wm.2.1 Wm.2.2.1 Wm.2.2.2.1 Wm.2.2.2.2).bind fun t112=>((xd.f k Pa Ka Ga Ia Da).bind fun Fe=>((We.f k Fe.1 Fe.2.1 Fe.2.2.1 Fe.2.2.2.1 Fe.2.2.2.2).bind fun t123=>(if t123=t112 then ((xd.f k Pa Ka Ga Ia Da).bind fun Xf=>((bf.f k Fe.1 Fe.2.1 Fe.2.2.1 Fe.2.2.2.1 Fe.2.2.2.2 Xf.1 Xf.2.1 Xf.2.2.1 Xf.2.2.2.1 Xf.2.2.2.2).bind fun t133=>(if t133=true then (some true) else (none)))) else (none))))))))=some r:=h;clear h;replace H:=Option.bind_eq_some_iff.mp H;obtain ⟨t102,iH,H⟩:=H;replace H:(if t102 < 0 then (some true) else ((xd.f k Pa Ka Ga Ia Da).bind fun Wm=>((qb.f k Wm.1 Wm.2.1 Wm.2.2.1 Wm.2.2.2.1 Wm.2.2.2.2).bind fun t112=>((xd.f k Pa Ka Ga Ia Da).bind fun Fe=>((We.f k Fe.1 Fe.2.1 Fe.2.2.1 Fe.2.2.2.1 Fe.2.2.2.2).bind fun t123=>(if t123=t112 then ((xd.f k Pa Ka Ga Ia Da).bind fun Xf=>((bf.f k Fe.1 Fe.2.1 Fe.2.2.1 Fe.2.2.2.1 Fe.2.2.2.2 Xf.1 Xf.2.1 Xf.2.2.1 Xf.2.2.2.1 Xf.2.2.2.2).bind fun t133=>(if t133=true then (some true) else (none)))) else (none)))))))=some r:=H;have A2:=ja.mk iH;clear iH
 by_cases c3:t102 < 0
 ·rw [if_pos c3] at H;have Nh:decide (t102 < 0)=true:=decide_eq_true c3;clear c3;obtain rfl:=Option.some.inj H;go_enter Try.func3,Try.ntmps3;go_wp2_with (first|((with_reducible refine yb (N:=1) rfl ?_);refine Gb ?hg (N:=1) ?hd (cs:=#[.slice Ya Pa.length Za,.int .i64 Ka,.int .i64 Ga,.int .i64 Ia,.slice Vb Da.length Jb]) (t:=25) ?hr ?_;(case hd=>rfl);(case hg=>rfl);(case hr=>first|(go_simp;done)|(go_simp;rfl));intro ya hg w4 Qb hb;have Fb:=ja.mk (Qa (by repeat (first|(with_reducible first|exact HB.out|apply qa|apply ia|apply ta)|exact HB.out)) hb);have Ib:=ja.mk (Qb);have Sb:=ja.mk ((by rw [hg];exact (Fa (by repeat (first|(with_reducible first|exact HB.out|apply qa|apply ia|apply ta)|exact HB.out))):w.heap.size ≤ ya));have Ec:=ja.mk ((by rw [hg];exact (Fa (by repeat (first|(with_reducible first|exact HB.out|apply qa|apply ia|apply ta)|exact HB.out))):w.heap.size ≤ ya));clear HB;have HB:=Fb;have oa:=Ib;have yd:=Sb;have Sa:=Ec;clear Fb Ib Sb Ec hb Qb hg;have EJ:w4.cell? ⟨ya,0,none⟩=some (.slice Ya Pa.length Za):=(ga oa.out 0).trans rfl;have DJ:w4.cell? ⟨ya,1,none⟩=some (.int .i64 Ka):=(ga oa.out 1).trans rfl;have CJ:w4.cell? ⟨ya,2,none⟩=some (.int .i64 Ga):=(ga oa.out 2).trans rfl;have BJ:w4.cell? ⟨ya,3,none⟩=some (.int .i64 Ia):=(ga oa.out 3).trans rfl;have AJ:w4.cell? ⟨ya,4,none⟩=some (.slice Vb Da.length Jb):=(ga oa.out 4).trans rfl;have tJ:=aa oa.out 0;have sJ:=aa oa.out 1;have rJ:=aa oa.out 2;have qJ:=aa oa.out 3;have pJ:=aa oa.out 4)|((with_reducible refine jb (f:=10) rfl ?_);refine Fc (some 9) rfl rfl Try.func10 (by kernel_rfl) rfl #[.agg #[.slice Ya Pa.length Za,.int .i64 Ka,.int .i64 Ga,.int .i64 Ia,.slice Vb Da.length Jb],.int .i64 1048576] rfl (by (try simp only [List.map_toArray,List.map_cons,List.map_nil]);first|done|rfl|(simp only [List.length_drop,List.length_take];rfl)) ?_;(with_reducible refine (Cg.calls k _ _ Pa Ka Ga Ia _ _ Da 1048576 t102 _ ?yc ?uc ?ud ?td A2.out).mono ?_);(case yc=>repeat (first|exact (Kd.Ob qe.out HB.out)|(with_reducible refine Kd.Pb ?_ _)|(with_reducible refine Kd.Nb ?_ _)|(with_reducible refine Kd.Zb ?_)));(case uc=>exact Be.out);(case ud=>repeat (first|exact (Kd.Ob Hf.out HB.out)|(with_reducible refine Kd.Pb ?_ _)|(with_reducible refine Kd.Nb ?_ _)|(with_reducible refine Kd.Zb ?_)));(case td=>exact Tg.out);rintro e w6 ⟨rfl,hb⟩;refine ⟨_,rfl,?_⟩;have Fb:=ja.mk (Ua (g:=ya) (o:=.cells #[.slice Ya Pa.length Za,.int .i64 Ka,.int .i64 Ga,.int .i64 Ia,.slice Vb Da.length Jb] 25 (0,0)) (by (with_reducible repeat (first|refine Ba ?_ _|refine Ea ?_|refine Ca ?_ _));exact oa.out) hb);have Ib:=ja.mk (Qa (by repeat (first|(with_reducible first|exact HB.out|apply qa|apply ia|apply ta|refine ua ?_ Sa.out)|exact HB.out)) hb);clear oa HB;have oa:=Fb;have HB:=Ib;clear Fb Ib;(try clear hb);(try clear Hi);(try clear hk);(try clear hi)));go_ret;exact ⟨by first|rfl|(simp [Ma,La] <;> rfl)|(simp [*,Ma,La] <;> rfl),by repeat (first|(with_reducible first|exact HB.out|apply qa|apply ia|apply ta|refine ua ?_ Sa.out)|exact HB.out)⟩
 ·rw [if_neg c3] at H;have Nh:decide (t102 < 0)=false:=decide_eq_false c3;clear c3;replace H:=Option.bind_eq_some_iff.mp H;obtain ⟨⟨t103,t106,t107,t108,t109⟩,CI,H⟩:=H;replace H:((qb.f k t103 t106 t107 t108 t109).bind fun t112=>((xd.f k Pa Ka Ga Ia Da).bind fun Fe=>((We.f k Fe.1 Fe.2.1 Fe.2.2.1 Fe.2.2.2.1 Fe.2.2.2.2).bind fun t123=>(if t123=t112 then ((xd.f k Pa Ka Ga Ia Da).bind fun Xf=>((bf.f k Fe.1 Fe.2.1 Fe.2.2.1 Fe.2.2.2.1 Fe.2.2.2.2 Xf.1 Xf.2.1 Xf.2.2.1 Xf.2.2.2.1 Xf.2.2.2.2).bind fun t133=>(if t133=true then (some true) else (none)))) else (none)))))=some r:=H;have A7:=ja.mk CI;clear CI;replace H:=Option.bind_eq_some_iff.mp H;obtain ⟨t112,oO,H⟩:=H;replace H:((xd.f k Pa Ka Ga Ia Da).bind fun Fe=>((We.f k Fe.1 Fe.2.1 Fe.2.2.1 Fe.2.2.2.1 Fe.2.2.2.2).bind fun t123=>(if t123=t112 then ((xd.f k Pa Ka Ga Ia Da).bind fun Xf=>((bf.f k Fe.1 Fe.2.1 Fe.2.2.1 Fe.2.2.2.1 Fe.2.2.2.2 Xf.1 Xf.2.1 Xf.2.2.1 Xf.2.2.2.1 Xf.2.2.2.2).bind fun t133=>(if t133=true then (some true) else (none)))) else (none))))=some r:=H;have A8:=ja.mk oO;clear oO;replace H:=Option.bind_eq_some_iff.mp H;obtain ⟨⟨t113,t116,t117,t118,t119⟩,A90,H⟩:=H;replace H:((We.f k t113 t116 t117 t118 t119).bind fun t123=>(if t123=t112 then ((xd.f k Pa Ka Ga Ia Da).bind fun Xf=>((bf.f k t113 t116 t117 t118 t119 Xf.1 Xf.2.1 Xf.2.2.1 Xf.2.2.2.1 Xf.2.2.2.2).bind fun t133=>(if t133=true then (some true) else (none)))) else (none)))=some r:=H;have A9:=ja.mk A90;clear A90;replace H:=Option.bind_eq_some_iff.mp H;obtain ⟨t123,Xaa,H⟩:=H;replace H:(if t123=t112 then ((xd.f k Pa Ka Ga Ia Da).bind fun Xf=>((bf.f k t113 t116 t117 t118 t119 Xf.1 Xf.2.1 Xf.2.2.1 Xf.2.2.2.1 Xf.2.2.2.2).bind fun t133=>(if t133=true then (some true) else (none)))) else (none))=some r:=H;have A10:=ja.mk Xaa;clear Xaa
  by_cases Hz:t123=t112
  ·rw [if_pos Hz] at H;have cD:(t123 == t112)=true:=beq_iff_eq.mpr Hz;have eao:(t123 != t112)=false:=bne_eq_false_iff_eq.mpr Hz;clear Hz;replace H:=Option.bind_eq_some_iff.mp H;obtain ⟨⟨t124,t127,t128,t129,t130⟩,Waa,H⟩:=H;replace H:((bf.f k t113 t116 t117 t118 t119 t124 t127 t128 t129 t130).bind fun t133=>(if t133=true then (some true) else (none)))=some r:=H;have A12:=ja.mk Waa;clear Waa;replace H:=Option.bind_eq_some_iff.mp H;obtain ⟨t133,tI,H⟩:=H;replace H:(if t133=true then (some true) else (none))=some r:=H;have nW:=ja.mk tI;clear tI
   by_cases zR:t133=true
   ·subst zR;have H1:(some true)=some r:=by rw [if_pos rfl] at H;exact H
    clear H;have H:=H1;clear H1;obtain rfl:=Option.some.inj H;go_enter Try.func3,Try.ntmps3
    try go_wp2_with (first|((with_reducible refine yb (N:=1) rfl ?_);refine Gb ?hg (N:=1) ?hd (cs:=#[.slice Ya Pa.length Za,.int .i64 Ka,.int .i64 Ga,.int .i64 Ia,.slice Vb Da.length Jb]) (t:=25) ?hr ?_;(case hd=>rfl);(case hg=>rfl);(case hr=>first|(go_simp;done)|(go_simp;rfl));intro ya hg gC Qb hb;have Fb:=ja.mk (Qa (by repeat (first|(with_reducible first|exact HB.out|apply qa|apply ia|apply ta)|exact HB.out)) hb);have Ib:=ja.mk (Qb);have Sb:=ja.mk ((by rw [hg];exact (Fa (by repeat (first|(with_reducible first|exact HB.out|apply qa|apply ia|apply ta)|exact HB.out))):w.heap.size ≤ ya));have Ec:=ja.mk ((by rw [hg];exact (Fa (by repeat (first|(with_reducible first|exact HB.out|apply qa|apply ia|apply ta)|exact HB.out))):w.heap.size ≤ ya));clear HB;have HB:=Fb;have oa:=Ib;have yd:=Sb;have Sa:=Ec;clear Fb Ib Sb Ec hb Qb hg;have ji:gC.cell? ⟨ya,0,none⟩=some (.slice Ya Pa.length Za):=(ga oa.out 0).trans rfl;have ei:gC.cell? ⟨ya,1,none⟩=some (.int .i64 Ka):=(ga oa.out 1).trans rfl;have di:gC.cell? ⟨ya,2,none⟩=some (.int .i64 Ga):=(ga oa.out 2).trans rfl;have ai:gC.cell? ⟨ya,3,none⟩=some (.int .i64 Ia):=(ga oa.out 3).trans rfl;have Zh:gC.cell? ⟨ya,4,none⟩=some (.slice Vb Da.length Jb):=(ga oa.out 4).trans rfl;have Yh:=aa oa.out 0;have Xh:=aa oa.out 1;have Wh:=aa oa.out 2;have Vh:=aa oa.out 3;have Uh:=aa oa.out 4)|((with_reducible refine jb (f:=10) rfl ?_);refine Fc (some 9) rfl rfl Try.func10 (by kernel_rfl) rfl #[.agg #[.slice Ya Pa.length Za,.int .i64 Ka,.int .i64 Ga,.int .i64 Ia,.slice Vb Da.length Jb],.int .i64 1048576] rfl (by (try simp only [List.map_toArray,List.map_cons,List.map_nil]);first|done|rfl|(simp only [List.length_drop,List.length_take];rfl)) ?_;(with_reducible refine (Cg.calls k _ _ Pa Ka Ga Ia _ _ Da 1048576 t102 _ ?yc ?uc ?ud ?td A2.out).mono ?_);(case yc=>repeat (first|exact (Kd.Ob qe.out HB.out)|(with_reducible refine Kd.Pb ?_ _)|(with_reducible refine Kd.Nb ?_ _)|(with_reducible refine Kd.Zb ?_)));(case uc=>exact Be.out);(case ud=>repeat (first|exact (Kd.Ob Hf.out HB.out)|(with_reducible refine Kd.Pb ?_ _)|(with_reducible refine Kd.Nb ?_ _)|(with_reducible refine Kd.Zb ?_)));(case td=>exact Tg.out);rintro e bw ⟨rfl,hb⟩;refine ⟨_,rfl,?_⟩;have Fb:=ja.mk (Ua (g:=ya) (o:=.cells #[.slice Ya Pa.length Za,.int .i64 Ka,.int .i64 Ga,.int .i64 Ia,.slice Vb Da.length Jb] 25 (0,0)) (by (with_reducible repeat (first|refine Ba ?_ _|refine Ea ?_|refine Ca ?_ _));exact oa.out) hb);have Ib:=ja.mk (Qa (by repeat (first|(with_reducible first|exact HB.out|apply qa|apply ia|apply ta|refine ua ?_ Sa.out)|exact HB.out)) hb);clear oa HB;have oa:=Fb;have HB:=Ib;clear Fb Ib;(try clear hb);(try clear Hi);(try clear hk);(try clear hi);have Ss:bw.cell? ⟨ya,0,none⟩=some (.slice Ya Pa.length Za):=(ga oa.out 0).trans rfl;have Rs:bw.cell? ⟨ya,1,none⟩=some (.int .i64 Ka):=(ga oa.out 1).trans rfl;have Qs:bw.cell? ⟨ya,2,none⟩=some (.int .i64 Ga):=(ga oa.out 2).trans rfl;have Ns:bw.cell? ⟨ya,3,none⟩=some (.int .i64 Ia):=(ga oa.out 3).trans rfl;have Ms:bw.cell? ⟨ya,4,none⟩=some (.slice Vb Da.length Jb):=(ga oa.out 4).trans rfl;have Mr:=aa oa.out 0;have Lr:=aa oa.out 1;have Kr:=aa oa.out 2;have Jr:=aa oa.out 3;have Ir:=aa oa.out 4)|((with_reducible refine jb (f:=12) rfl ?_);refine Fc (some 13) rfl rfl Try.func12 (by kernel_rfl) rfl #[.agg #[.slice Ya Pa.length Za,.int .i64 Ka,.int .i64 Ga,.int .i64 Ia,.slice Vb Da.length Jb]] rfl (by (try simp only [List.map_toArray,List.map_cons,List.map_nil]);first|done|rfl|(simp only [List.length_drop,List.length_take];rfl)) ?_;(with_reducible refine (xd.calls k _ _ Pa Ka Ga Ia _ _ Da t103 t106 t107 t108 t109 _ ?yc ?uc ?ud ?td A7.out).mono ?_);(case yc=>repeat (first|exact (Kd.Ob qe.out HB.out)|(with_reducible refine Kd.Pb ?_ _)|(with_reducible refine Kd.Nb ?_ _)|(with_reducible refine Kd.Zb ?_)));(case uc=>exact Be.out);(case ud=>repeat (first|exact (Kd.Ob Hf.out HB.out)|(with_reducible refine Kd.Pb ?_ _)|(with_reducible refine Kd.Nb ?_ _)|(with_reducible refine Kd.Zb ?_)));(case td=>exact Tg.out);rintro e w19 ⟨MX,Bai,rfl,Am,gL,hb⟩;refine ⟨_,rfl,?_⟩;have Fb:=ja.mk (Kd.Rd Am (Fa (by repeat (first|(with_reducible first|exact HB.out|apply qa|apply ia|apply ta|refine ua ?_ Sa.out)|exact HB.out))));have Ib:=ja.mk (Kd.Bt gL (Fa (by repeat (first|(with_reducible first|exact HB.out|apply qa|apply ia|apply ta|refine ua ?_ Sa.out)|exact HB.out))));have Sb:=ja.mk (Ua (g:=ya) (o:=.cells #[.slice Ya Pa.length Za,.int .i64 Ka,.int .i64 Ga,.int .i64 Ia,.slice Vb Da.length Jb] 25 (0,0)) (by (with_reducible repeat (first|refine Ba ?_ _|refine Ea ?_|refine Ca ?_ _));exact oa.out) hb);have Ec:=ja.mk (Qa (by repeat (first|(with_reducible first|exact HB.out|apply qa|apply ia|apply ta|refine ua ?_ Sa.out)|exact HB.out)) hb);clear oa HB;have th:=Fb;have zg:=Ib;have oa:=Sb;have HB:=Ec;clear Fb Ib Sb Ec;(try clear hb);(try clear Hi);(try clear hk);(try clear hi);(try clear Am);(try clear gL);obtain ⟨Haa,E9,Bak⟩:=Kd.De th.out;subst Bak;obtain ⟨Gaa,D9,Aak⟩:=Kd.yt zg.out;subst Aak)|((with_reducible refine jb (f:=11) rfl ?_);refine Fc (some 14) rfl rfl Try.func11 (by kernel_rfl) rfl #[.agg #[.slice Haa t103.length E9,.int .i64 t106,.int .i64 t107,.int .i64 t108,.slice Gaa t109.length D9]] rfl (by (try simp only [List.map_toArray,List.map_cons,List.map_nil]);first|done|rfl|(simp only [List.length_drop,List.length_take];rfl)) ?_;(with_reducible refine (qb.calls k _ _ t103 t106 t107 t108 _ _ t109 t112 _ ?yc ?uc ?ud ?td A8.out).mono ?_);(case yc=>repeat (first|exact (Kd.Lc th.out).2.2|(with_reducible refine Kd.Pb ?_ _)|(with_reducible refine Kd.Nb ?_ _)|(with_reducible refine Kd.Zb ?_)));(case uc=>exact (Kd.Lc th.out).2.1);(case ud=>repeat (first|exact (Kd.ef zg.out).2.2|(with_reducible refine Kd.Pb ?_ _)|(with_reducible refine Kd.Nb ?_ _)|(with_reducible refine Kd.Zb ?_)));(case td=>exact (Kd.ef zg.out).2.1);rintro e Tz ⟨rfl,hb⟩;refine ⟨_,rfl,?_⟩;have Fb:=ja.mk (Kd.dg (by (with_reducible repeat (first|apply Kd.Ab|apply Kd.zb|apply Kd.Rb));exact th.out) hb);have Ib:=ja.mk (Kd.jh (by (with_reducible repeat (first|apply Kd.Zc|apply Kd.Yc|apply Kd.Jd));exact zg.out) hb);have Sb:=ja.mk (Ua (g:=ya) (o:=.cells #[.slice Ya Pa.length Za,.int .i64 Ka,.int .i64 Ga,.int .i64 Ia,.slice Vb Da.length Jb] 25 (0,0)) (by (with_reducible repeat (first|refine Ba ?_ _|refine Ea ?_|refine Ca ?_ _));exact oa.out) hb);have Ec:=ja.mk (Qa (by repeat (first|(with_reducible first|exact HB.out|apply qa|apply ia|apply ta|refine ua ?_ Sa.out)|exact HB.out)) hb);clear th zg oa HB;have th:=Fb;have zg:=Ib;have oa:=Sb;have HB:=Ec;clear Fb Ib Sb Ec;(try clear hb);(try clear Hi);(try clear hk);(try clear hi);have uo:Tz.cell? ⟨ya,0,none⟩=some (.slice Ya Pa.length Za):=(ga oa.out 0).trans rfl;have qo:Tz.cell? ⟨ya,1,none⟩=some (.int .i64 Ka):=(ga oa.out 1).trans rfl;have oo:Tz.cell? ⟨ya,2,none⟩=some (.int .i64 Ga):=(ga oa.out 2).trans rfl;have mo:Tz.cell? ⟨ya,3,none⟩=some (.int .i64 Ia):=(ga oa.out 3).trans rfl;have jo:Tz.cell? ⟨ya,4,none⟩=some (.slice Vb Da.length Jb):=(ga oa.out 4).trans rfl;have fo:=aa oa.out 0;have eo:=aa oa.out 1;have Zn:=aa oa.out 2;have Yn:=aa oa.out 3;have Xn:=aa oa.out 4)|((with_reducible refine jb (f:=12) rfl ?_);refine Fc (some 16) rfl rfl Try.func12 (by kernel_rfl) rfl #[.agg #[.slice Ya Pa.length Za,.int .i64 Ka,.int .i64 Ga,.int .i64 Ia,.slice Vb Da.length Jb]] rfl (by (try simp only [List.map_toArray,List.map_cons,List.map_nil]);first|done|rfl|(simp only [List.length_drop,List.length_take];rfl)) ?_;(with_reducible refine (xd.calls k _ _ Pa Ka Ga Ia _ _ Da t113 t116 t117 t118 t119 _ ?yc ?uc ?ud ?td A9.out).mono ?_);(case yc=>repeat (first|exact (Kd.Ob qe.out HB.out)|(with_reducible refine Kd.Pb ?_ _)|(with_reducible refine Kd.Nb ?_ _)|(with_reducible refine Kd.Zb ?_)));(case uc=>exact Be.out);(case ud=>repeat (first|exact (Kd.Ob Hf.out HB.out)|(with_reducible refine Kd.Pb ?_ _)|(with_reducible refine Kd.Nb ?_ _)|(with_reducible refine Kd.Zb ?_)));(case td=>exact Tg.out);rintro e xP ⟨wap,JX,rfl,Am,gL,hb⟩;refine ⟨_,rfl,?_⟩;have Fb:=ja.mk (Kd.Uo (by (with_reducible repeat (first|apply Kd.Ab|apply Kd.zb|apply Kd.Rb));exact th.out) (Kd.Vo Am) hb);have Ib:=ja.mk (Kd.Ro (by (with_reducible repeat (first|apply Kd.Zc|apply Kd.Yc|apply Kd.Jd));exact zg.out) (Kd.wK gL) hb);have Sb:=ja.mk (Kd.Rd (Kd.Yv Am (Kd.oI (by (with_reducible repeat (first|apply Kd.Ab|apply Kd.zb|apply Kd.Rb));exact th.out))) (Fa (by repeat (first|(with_reducible first|exact HB.out|apply qa|apply ia|apply ta|refine ua ?_ Sa.out)|exact HB.out))));have Ec:=ja.mk (Kd.Bt (Kd.uK gL (Kd.LV (by (with_reducible repeat (first|apply Kd.Zc|apply Kd.Yc|apply Kd.Jd));exact zg.out))) (Fa (by repeat (first|(with_reducible first|exact HB.out|apply qa|apply ia|apply ta|refine ua ?_ Sa.out)|exact HB.out))));have Re:=ja.mk (Ua (g:=ya) (o:=.cells #[.slice Ya Pa.length Za,.int .i64 Ka,.int .i64 Ga,.int .i64 Ia,.slice Vb Da.length Jb] 25 (0,0)) (by (with_reducible repeat (first|refine Ba ?_ _|refine Ea ?_|refine Ca ?_ _));exact oa.out) hb);have Gf:=ja.mk (Qa (by repeat (first|(with_reducible first|exact HB.out|apply qa|apply ia|apply ta|refine ua ?_ Sa.out)|exact HB.out)) hb);clear th zg oa HB;have th:=Fb;have zg:=Ib;have Ij:=Sb;have qj:=Ec;have oa:=Re;have HB:=Gf;clear Fb Ib Sb Ec Re Gf;(try clear hb);(try clear Hi);(try clear hk);(try clear hi);(try clear Am);(try clear gL))|((with_reducible refine yb (N:=5) rfl ?_);refine Gb ?hg (N:=5) ?hd (cs:=#[.slice none 0 0,.int .i64 0,.int .i64 0,.int .i64 0,.slice none 0 0]) (t:=30) ?hr ?_;(case hd=>rfl);(case hg=>rfl);(case hr=>first|(go_simp;done)|(go_simp;rfl));intro yf hg Zv Qb hb;have Fb:=ja.mk (Kd.dg (by (with_reducible repeat (first|apply Kd.Ab|apply Kd.zb|apply Kd.Rb));exact th.out) hb);have Ib:=ja.mk (Kd.jh (by (with_reducible repeat (first|apply Kd.Zc|apply Kd.Yc|apply Kd.Jd));exact zg.out) hb);have Sb:=ja.mk (Kd.dg (by (with_reducible repeat (first|apply Kd.Ab|apply Kd.zb|apply Kd.Rb));exact Ij.out) hb);have Ec:=ja.mk (Kd.jh (by (with_reducible repeat (first|apply Kd.Zc|apply Kd.Yc|apply Kd.Jd));exact qj.out) hb);have Re:=ja.mk (Ua (g:=ya) (o:=.cells #[.slice Ya Pa.length Za,.int .i64 Ka,.int .i64 Ga,.int .i64 Ia,.slice Vb Da.length Jb] 25 (0,0)) (by (with_reducible repeat (first|refine Ba ?_ _|refine Ea ?_|refine Ca ?_ _));exact oa.out) hb);have Gf:=ja.mk (Qa (by repeat (first|(with_reducible first|exact HB.out|apply qa|apply ia|apply ta|refine ua ?_ Sa.out)|exact HB.out)) hb);have Yf:=ja.mk (Qb);have tw:=ja.mk ((by rw [hg];exact (Fa (by repeat (first|(with_reducible first|exact HB.out|apply qa|apply ia|apply ta|refine ua ?_ Sa.out)|exact HB.out))):w.heap.size ≤ yf));have vH:=ja.mk ((by rw [hg];exact (Fa (by repeat (first|(with_reducible first|exact HB.out|apply qa|apply ia|apply ta|refine ua ?_ Sa.out)|exact HB.out))):w.heap.size ≤ yf));have lQ:=ja.mk ((by rw [hg];exact Nat.ne_of_lt (Jc (g:=ya) (o:=.cells #[.slice Ya Pa.length Za,.int .i64 Ka,.int .i64 Ga,.int .i64 Ia,.slice Vb Da.length Jb] 25 (0,0)) (by (with_reducible repeat (first|refine Ba ?_ _|refine Ea ?_|refine Ca ?_ _));exact oa.out)):ya ≠ yf));have I3:=ja.mk ((by rw [hg];exact Nat.ne_of_gt (Jc (g:=ya) (o:=.cells #[.slice Ya Pa.length Za,.int .i64 Ka,.int .i64 Ga,.int .i64 Ia,.slice Vb Da.length Jb] 25 (0,0)) (by (with_reducible repeat (first|refine Ba ?_ _|refine Ea ?_|refine Ca ?_ _));exact oa.out)):yf ≠ ya));clear th zg Ij qj oa HB;have th:=Fb;have zg:=Ib;have Ij:=Sb;have qj:=Ec;have oa:=Re;have HB:=Gf;have Jf:=Yf;have Mao:=tw;have wE:=vH;have Ao:=lQ;have sP:=I3;clear Fb Ib Sb Ec Re Gf Yf tw vH lQ I3 hb Qb hg;obtain ⟨wu,Pt,dZ⟩:=Kd.De Ij.out;subst dZ;have JW:=sP.out;have DW:=Ao.out;have xG:Zv.cell? ⟨yf,0,none⟩=some (.slice none 0 0):=(ga Jf.out 0).trans rfl;have wG:Zv.cell? ⟨yf,1,none⟩=some (.int .i64 0):=(ga Jf.out 1).trans rfl;have vG:Zv.cell? ⟨yf,2,none⟩=some (.int .i64 0):=(ga Jf.out 2).trans rfl;have uG:Zv.cell? ⟨yf,3,none⟩=some (.int .i64 0):=(ga Jf.out 3).trans rfl;have tG:Zv.cell? ⟨yf,4,none⟩=some (.slice none 0 0):=(ga Jf.out 4).trans rfl;have JF:=aa Jf.out 0;have GF:=aa Jf.out 1;have FF:=aa Jf.out 2;have EF:=aa Jf.out 3;have DF:=aa Jf.out 4;obtain ⟨Rz,Uv,cZ⟩:=Kd.yt qj.out;subst cZ)|((with_reducible refine jb (f:=13) rfl ?_);refine Fc (some 18) rfl rfl Try.func13 (by kernel_rfl) rfl #[.agg #[.slice wu t113.length Pt,.int .i64 t116,.int .i64 t117,.int .i64 t118,.slice Rz t119.length Uv]] rfl (by (try simp only [List.map_toArray,List.map_cons,List.map_nil]);first|done|rfl|(simp only [List.length_drop,List.length_take];rfl)) ?_;(with_reducible refine (We.calls k _ _ t113 t116 t117 t118 _ _ t119 t123 _ ?yc ?uc ?ud ?td A10.out).mono ?_);(case yc=>refine (Kd.Lc (e:=3) (base:=w.heap.size) (ok:=fun k_=>(True∧some k_ ≠ (.slice Haa t103.length E9:Value).ownBlock)) (n:=t113.length) (c:=Pt) ?_).2.2;exact (by (with_reducible repeat (first|apply Kd.Ab|apply Kd.zb|apply Kd.Rb));exact (Kd.fe (Kd.Bf (p:=⟨yf,4,none⟩) (Kd.Bf (p:=⟨yf,3,none⟩) (Kd.Bf (p:=⟨yf,2,none⟩) (Kd.Bf (p:=⟨yf,1,none⟩) (Kd.Bf (p:=⟨yf,0,none⟩) (Kd.Zl Ij.out Jf.out (by decide)) (fun _ hk=>hk.2) (.slice wu t113.length Pt)) (fun _ hk=>hk.2) (.int .i64 t116)) (fun _ hk=>hk.2) (.int .i64 t117)) (fun _ hk=>hk.2) (.int .i64 t118)) (fun _ hk=>hk.2) (.slice Rz t119.length Uv)) (fun _ h_=>h_.1))));(case uc=>exact (Kd.Lc Ij.out).2.1);(case ud=>refine (Kd.ef (e:=59) (base:=w.heap.size) (ok:=fun k_=>(True∧some k_ ≠ (.slice Gaa t109.length D9:Value).ownBlock)) (n:=t119.length) (c:=Uv) ?_).2.2;exact (by (with_reducible repeat (first|apply Kd.Zc|apply Kd.Yc|apply Kd.Jd));exact (Kd.sg (Kd.Oh (p:=⟨yf,4,none⟩) (Kd.Oh (p:=⟨yf,3,none⟩) (Kd.Oh (p:=⟨yf,2,none⟩) (Kd.Oh (p:=⟨yf,1,none⟩) (Kd.Oh (p:=⟨yf,0,none⟩) (Kd.gv qj.out Jf.out (by decide)) (fun _ hk=>hk.2) (.slice wu t113.length Pt)) (fun _ hk=>hk.2) (.int .i64 t116)) (fun _ hk=>hk.2) (.int .i64 t117)) (fun _ hk=>hk.2) (.int .i64 t118)) (fun _ hk=>hk.2) (.slice Rz t119.length Uv)) (fun _ h_=>h_.1))));(case td=>exact (Kd.ef qj.out).2.1);rintro e fC ⟨rfl,hb⟩;refine ⟨_,rfl,?_⟩;have Fb:=ja.mk (Kd.dg (by (with_reducible repeat (first|apply Kd.Ab|apply Kd.zb|apply Kd.Rb));exact (Kd.fe (Kd.Bf (p:=⟨yf,4,none⟩) (Kd.Bf (p:=⟨yf,3,none⟩) (Kd.Bf (p:=⟨yf,2,none⟩) (Kd.Bf (p:=⟨yf,1,none⟩) (Kd.Bf (p:=⟨yf,0,none⟩) (Kd.Zl th.out Jf.out (by decide)) (fun _ hk=>hk.2) (.slice wu t113.length Pt)) (fun _ hk=>hk.2) (.int .i64 t116)) (fun _ hk=>hk.2) (.int .i64 t117)) (fun _ hk=>hk.2) (.int .i64 t118)) (fun _ hk=>hk.2) (.slice Rz t119.length Uv)) (fun _ h_=>h_.1))) hb);have Ib:=ja.mk (Kd.jh (by (with_reducible repeat (first|apply Kd.Zc|apply Kd.Yc|apply Kd.Jd));exact (Kd.sg (Kd.Oh (p:=⟨yf,4,none⟩) (Kd.Oh (p:=⟨yf,3,none⟩) (Kd.Oh (p:=⟨yf,2,none⟩) (Kd.Oh (p:=⟨yf,1,none⟩) (Kd.Oh (p:=⟨yf,0,none⟩) (Kd.gv zg.out Jf.out (by decide)) (fun _ hk=>hk.2) (.slice wu t113.length Pt)) (fun _ hk=>hk.2) (.int .i64 t116)) (fun _ hk=>hk.2) (.int .i64 t117)) (fun _ hk=>hk.2) (.int .i64 t118)) (fun _ hk=>hk.2) (.slice Rz t119.length Uv)) (fun _ h_=>h_.1))) hb);have Sb:=ja.mk (Kd.dg (by (with_reducible repeat (first|apply Kd.Ab|apply Kd.zb|apply Kd.Rb));exact (Kd.fe (Kd.Bf (p:=⟨yf,4,none⟩) (Kd.Bf (p:=⟨yf,3,none⟩) (Kd.Bf (p:=⟨yf,2,none⟩) (Kd.Bf (p:=⟨yf,1,none⟩) (Kd.Bf (p:=⟨yf,0,none⟩) (Kd.Zl Ij.out Jf.out (by decide)) (fun _ hk=>hk.2) (.slice wu t113.length Pt)) (fun _ hk=>hk.2) (.int .i64 t116)) (fun _ hk=>hk.2) (.int .i64 t117)) (fun _ hk=>hk.2) (.int .i64 t118)) (fun _ hk=>hk.2) (.slice Rz t119.length Uv)) (fun _ h_=>h_.1))) hb);have Ec:=ja.mk (Kd.jh (by (with_reducible repeat (first|apply Kd.Zc|apply Kd.Yc|apply Kd.Jd));exact (Kd.sg (Kd.Oh (p:=⟨yf,4,none⟩) (Kd.Oh (p:=⟨yf,3,none⟩) (Kd.Oh (p:=⟨yf,2,none⟩) (Kd.Oh (p:=⟨yf,1,none⟩) (Kd.Oh (p:=⟨yf,0,none⟩) (Kd.gv qj.out Jf.out (by decide)) (fun _ hk=>hk.2) (.slice wu t113.length Pt)) (fun _ hk=>hk.2) (.int .i64 t116)) (fun _ hk=>hk.2) (.int .i64 t117)) (fun _ hk=>hk.2) (.int .i64 t118)) (fun _ hk=>hk.2) (.slice Rz t119.length Uv)) (fun _ h_=>h_.1))) hb);have Re:=ja.mk (Ua (g:=ya) (o:=.cells #[.slice Ya Pa.length Za,.int .i64 Ka,.int .i64 Ga,.int .i64 Ia,.slice Vb Da.length Jb] 25 (0,0)) (by (with_reducible repeat (first|refine Ba ?_ _|refine Ea ?_|refine Ca ?_ _));refine Bd ?_ Ao.out _;(with_reducible repeat (first|refine Ba ?_ _|refine Ea ?_|refine Ca ?_ _));refine Bd ?_ Ao.out _;(with_reducible repeat (first|refine Ba ?_ _|refine Ea ?_|refine Ca ?_ _));refine Bd ?_ Ao.out _;(with_reducible repeat (first|refine Ba ?_ _|refine Ea ?_|refine Ca ?_ _));refine Bd ?_ Ao.out _;(with_reducible repeat (first|refine Ba ?_ _|refine Ea ?_|refine Ca ?_ _));refine Bd ?_ Ao.out _;(with_reducible repeat (first|refine Ba ?_ _|refine Ea ?_|refine Ca ?_ _));exact oa.out) hb);have Gf:=ja.mk (Ua (g:=yf) (o:=.cells #[.slice wu t113.length Pt,.int .i64 t116,.int .i64 t117,.int .i64 t118,.slice Rz t119.length Uv] 30 (0,0)) (by (with_reducible repeat (first|refine Ba ?_ _|refine Ea ?_|refine Ca ?_ _));refine Ad (cs:=#[.slice wu t113.length Pt,.int .i64 t116,.int .i64 t117,.int .i64 t118,.slice none 0 0]) ?_ 4 _ rfl;(with_reducible repeat (first|refine Ba ?_ _|refine Ea ?_|refine Ca ?_ _));refine Ad (cs:=#[.slice wu t113.length Pt,.int .i64 t116,.int .i64 t117,.int .i64 0,.slice none 0 0]) ?_ 3 _ rfl;(with_reducible repeat (first|refine Ba ?_ _|refine Ea ?_|refine Ca ?_ _));refine Ad (cs:=#[.slice wu t113.length Pt,.int .i64 t116,.int .i64 0,.int .i64 0,.slice none 0 0]) ?_ 2 _ rfl;(with_reducible repeat (first|refine Ba ?_ _|refine Ea ?_|refine Ca ?_ _));refine Ad (cs:=#[.slice wu t113.length Pt,.int .i64 0,.int .i64 0,.int .i64 0,.slice none 0 0]) ?_ 1 _ rfl;(with_reducible repeat (first|refine Ba ?_ _|refine Ea ?_|refine Ca ?_ _));refine Ad (cs:=#[.slice none 0 0,.int .i64 0,.int .i64 0,.int .i64 0,.slice none 0 0]) ?_ 0 _ rfl;(with_reducible repeat (first|refine Ba ?_ _|refine Ea ?_|refine Ca ?_ _));exact Jf.out) hb);have Yf:=ja.mk (Qa (by repeat (first|(with_reducible first|exact HB.out|apply qa|apply ia|apply ta|refine ua ?_ Sa.out|refine ua ?_ wE.out)|exact HB.out)) hb);clear th zg Ij qj oa Jf HB;have th:=Fb;have zg:=Ib;have Ij:=Sb;have qj:=Ec;have oa:=Re;have Jf:=Gf;have HB:=Yf;clear Fb Ib Sb Ec Re Gf Yf;(try clear hb);(try clear Hi);(try clear hk);(try clear hi)))
    have Fb:=ja.mk (Kd.Rb th.out);have Ib:=ja.mk (Kd.Jd zg.out);have Sb:=ja.mk (Kd.Rb Ij.out);have Ec:=ja.mk (Kd.Jd qj.out);have Re:=ja.mk (Ea oa.out);have Gf:=ja.mk (Ea Jf.out);have Yf:=ja.mk (ta HB.out);clear th zg Ij qj oa Jf HB;have th:=Fb;have zg:=Ib;have Ij:=Sb;have qj:=Ec;have oa:=Re;have Jf:=Gf;have HB:=Yf;clear Fb Ib Sb Ec Re Gf Yf;refine fl (n:=5) (S:=fun w'=>w'.cell? ⟨yf,0,none⟩=some (.slice wu t113.length Pt)∧w'.cell? ⟨yf,1,none⟩=some (.int .i64 t116)∧w'.cell? ⟨yf,2,none⟩=some (.int .i64 t117)∧w'.cell? ⟨yf,3,none⟩=some (.int .i64 t118)∧w'.cell? ⟨yf,4,none⟩=some (.slice Rz t119.length Uv)∧w'.cell? ⟨ya,0,none⟩=some (.slice Ya Pa.length Za)∧w'.cell? ⟨ya,1,none⟩=some (.int .i64 Ka)∧w'.cell? ⟨ya,2,none⟩=some (.int .i64 Ga)∧w'.cell? ⟨ya,3,none⟩=some (.int .i64 Ia)∧w'.cell? ⟨ya,4,none⟩=some (.slice Vb Da.length Jb)) (ds:=[]) #[false,false,false,false,false] (by kernel_rfl) rfl rfl ⟨(ga Jf.out 0).trans rfl,(ga Jf.out 1).trans rfl,(ga Jf.out 2).trans rfl,(ga Jf.out 3).trans rfl,(ga Jf.out 4).trans rfl,(ga oa.out 0).trans rfl,(ga oa.out 1).trans rfl,(ga oa.out 2).trans rfl,(ga oa.out 3).trans rfl,(ga oa.out 4).trans rfl⟩ (fun hHeld=>?_);generalize fC.drew=IE at th zg Ij qj oa Jf HB hHeld ⊢;refine ug (i:=0) (N:=some 22) (v:=?_) (a':=?_) #[true,false,false,false,false] rfl rfl (by kernel_rfl) (fun _ _ _ h=>h) (Or.inl ⟨by rfl,?_⟩) hHeld ?_ ?_;rotate_left
    ·rintro w' ⟨s0,s1,s2,s3,s4,s5,s6,s7,s8,s9⟩;go_simp;with_reducible rfl
    rotate_left
    ·simp only [Act.put,List.setIfInBounds_toArray,List.set_cons_zero,List.set_cons_succ,Xb,Yb]
     rfl
    refine ug (i:=1) (N:=some 23) (v:=?_) (a':=?_) #[true,true,false,false,false] rfl rfl (by kernel_rfl) (fun _ _ _ h=>h) (Or.inl ⟨by rfl,?_⟩) hHeld ?_ ?_;rotate_left
    ·rintro w' ⟨s0,s1,s2,s3,s4,s5,s6,s7,s8,s9⟩;go_simp;with_reducible rfl
    rotate_left
    ·simp only [Act.put,List.setIfInBounds_toArray,List.set_cons_zero,List.set_cons_succ,Xb,Yb]
     rfl
    refine Qv (i:=2) (N:=some 24) #[true,true,true,false,false] rfl rfl (by kernel_rfl) (by decide) (fun K hK=>?_);refine Ko Try.func12 (by kernel_rfl) rfl #[.agg #[.slice Ya Pa.length Za,.int .i64 Ka,.int .i64 Ga,.int .i64 Ia,.slice Vb Da.length Jb]] (by rfl) rfl rfl (by (try simp only [List.map_toArray,List.map_cons,List.map_nil]);first|done|rfl|(simp only [List.length_drop,List.length_take];rfl)) ?_;with_reducible refine (xd.calls k _ _ Pa Ka Ga Ia _ _ Da t124 t127 t128 t129 t130 _ ?yc ?uc ?ud ?td A12.out).mono ?_
    (case yc=>repeat (first|exact (Kd.Ob qe.out HB.out)|(with_reducible refine Kd.Pb ?_ _)|(with_reducible refine Kd.Nb ?_ _)|(with_reducible refine Kd.Zb ?_)))
    (case uc=>exact Be.out)
    (case ud=>repeat (first|exact (Kd.Ob Hf.out HB.out)|(with_reducible refine Kd.Pb ?_ _)|(with_reducible refine Kd.Nb ?_ _)|(with_reducible refine Kd.Zb ?_)))
    (case td=>exact Tg.out)
    rintro e sO ⟨uap,tap,rfl,Am,gL,hb⟩;refine ⟨_,rfl,?_⟩;have Fb:=ja.mk (Kd.Uo (by (with_reducible repeat (first|apply Kd.Ab|apply Kd.zb|apply Kd.Rb));exact th.out) (Kd.Vo Am) hb);have Ib:=ja.mk (Kd.Ro (by (with_reducible repeat (first|apply Kd.Zc|apply Kd.Yc|apply Kd.Jd));exact zg.out) (Kd.wK gL) hb);have Sb:=ja.mk (Kd.Uo (by (with_reducible repeat (first|apply Kd.Ab|apply Kd.zb|apply Kd.Rb));exact Ij.out) (Kd.Vo Am) hb);have Ec:=ja.mk (Kd.Ro (by (with_reducible repeat (first|apply Kd.Zc|apply Kd.Yc|apply Kd.Jd));exact qj.out) (Kd.wK gL) hb);have Re:=ja.mk (Kd.Rd (Kd.Yv (Kd.Yv Am (Kd.oI (by (with_reducible repeat (first|apply Kd.Ab|apply Kd.zb|apply Kd.Rb));exact th.out))) (Kd.oI (by (with_reducible repeat (first|apply Kd.Ab|apply Kd.zb|apply Kd.Rb));exact Ij.out))) (Fa (by repeat (first|(with_reducible first|exact HB.out|apply qa|apply ia|apply ta|refine ua ?_ Sa.out|refine ua ?_ wE.out)|exact HB.out))));have Gf:=ja.mk (Kd.Bt (Kd.uK (Kd.uK gL (Kd.LV (by (with_reducible repeat (first|apply Kd.Zc|apply Kd.Yc|apply Kd.Jd));exact zg.out))) (Kd.LV (by (with_reducible repeat (first|apply Kd.Zc|apply Kd.Yc|apply Kd.Jd));exact qj.out))) (Fa (by repeat (first|(with_reducible first|exact HB.out|apply qa|apply ia|apply ta|refine ua ?_ Sa.out|refine ua ?_ wE.out)|exact HB.out))));have Yf:=ja.mk (Ua (g:=ya) (o:=.cells #[.slice Ya Pa.length Za,.int .i64 Ka,.int .i64 Ga,.int .i64 Ia,.slice Vb Da.length Jb] 25 (0,0)) (by (with_reducible repeat (first|refine Ba ?_ _|refine Ea ?_|refine Ca ?_ _));exact oa.out) hb);have tw:=ja.mk (Ua (g:=yf) (o:=.cells #[.slice wu t113.length Pt,.int .i64 t116,.int .i64 t117,.int .i64 t118,.slice Rz t119.length Uv] 30 (0,0)) (by (with_reducible repeat (first|refine Ba ?_ _|refine Ea ?_|refine Ca ?_ _));exact Jf.out) hb);have vH:=ja.mk (Qa (by repeat (first|(with_reducible first|exact HB.out|apply qa|apply ia|apply ta|refine ua ?_ Sa.out|refine ua ?_ wE.out)|exact HB.out)) hb);clear th zg Ij qj oa Jf HB;have th:=Fb;have zg:=Ib;have Ij:=Sb;have qj:=Ec;have vE:=Re;have uE:=Gf;have oa:=Yf;have Jf:=tw;have HB:=vH;clear Fb Ib Sb Ec Re Gf Yf tw vH;(try clear hb);(try clear Hi);(try clear hk);(try clear hi);(try clear Am);(try clear gL);obtain ⟨Jal,Pak,u9⟩:=Kd.De vE.out;(first|subst u9|(injection u9 with gR YY fR;have XY:=gR.symm;have WY:=fR.symm;clear gR YY fR;subst XY;subst WY));obtain ⟨Ial,Oak,r9⟩:=Kd.yt uE.out;(first|subst r9|(injection r9 with gR YY fR;have XY:=gR.symm;have WY:=fR.symm;clear gR YY fR;subst XY;subst WY));refine hK.out _ _ ⟨(ga Jf.out 0).trans rfl,(ga Jf.out 1).trans rfl,(ga Jf.out 2).trans rfl,(ga Jf.out 3).trans rfl,(ga Jf.out 4).trans rfl,(ga oa.out 0).trans rfl,(ga oa.out 1).trans rfl,(ga oa.out 2).trans rfl,(ga oa.out 3).trans rfl,(ga oa.out 4).trans rfl⟩ (fun hHeld=>?_);clear hK K;refine Eo (a':=?_) ?_ ?_;rotate_left
    ·show Act.put _ (some 24) _=_
     simp only [Act.put,List.setIfInBounds_toArray,List.set_cons_zero,List.set_cons_succ,Xb,Yb]
     rfl
    refine Qv (i:=3) (N:=some 25) #[true,true,true,true,false] rfl rfl (by kernel_rfl) (by decide) (fun K hK=>?_);refine Ko Try.func14 (by kernel_rfl) rfl #[.agg #[.slice wu t113.length Pt,.int .i64 t116,.int .i64 t117,.int .i64 t118,.slice Rz t119.length Uv],.agg #[.slice Jal t124.length Pak,.int .i64 t127,.int .i64 t128,.int .i64 t129,.slice Ial t130.length Oak]] (by rfl) rfl rfl (by (try simp only [List.map_toArray,List.map_cons,List.map_nil]);first|done|rfl|(simp only [List.length_drop,List.length_take];rfl)) ?_;with_reducible refine (bf.calls k _ _ t113 t116 t117 t118 _ _ t119 _ _ t124 t127 t128 t129 _ _ t130 true _ ?yc ?uc ?ud ?td ?Xt ?Wt ?B3 ?n3 nW.out).mono ?_
    (case yc=>repeat (first|exact (Kd.Lc Ij.out).2.2|(with_reducible refine Kd.Pb ?_ _)|(with_reducible refine Kd.Nb ?_ _)|(with_reducible refine Kd.Zb ?_)))
    (case uc=>exact (Kd.Lc Ij.out).2.1)
    (case ud=>repeat (first|exact (Kd.ef qj.out).2.2|(with_reducible refine Kd.Pb ?_ _)|(with_reducible refine Kd.Nb ?_ _)|(with_reducible refine Kd.Zb ?_)))
    (case td=>exact (Kd.ef qj.out).2.1)
    (case Xt=>repeat (first|exact (Kd.Lc vE.out).2.2|(with_reducible refine Kd.Pb ?_ _)|(with_reducible refine Kd.Nb ?_ _)|(with_reducible refine Kd.Zb ?_)))
    (case Wt=>exact (Kd.Lc vE.out).2.1)
    (case B3=>repeat (first|exact (Kd.ef uE.out).2.2|(with_reducible refine Kd.Pb ?_ _)|(with_reducible refine Kd.Nb ?_ _)|(with_reducible refine Kd.Zb ?_)))
    (case n3=>exact (Kd.ef uE.out).2.1)
    rintro e w35 ⟨rfl,hb⟩;refine ⟨_,rfl,?_⟩;have Fb:=ja.mk (Kd.dg (by (with_reducible repeat (first|apply Kd.Ab|apply Kd.zb|apply Kd.Rb));exact th.out) hb);have Ib:=ja.mk (Kd.jh (by (with_reducible repeat (first|apply Kd.Zc|apply Kd.Yc|apply Kd.Jd));exact zg.out) hb);have Sb:=ja.mk (Kd.dg (by (with_reducible repeat (first|apply Kd.Ab|apply Kd.zb|apply Kd.Rb));exact Ij.out) hb);have Ec:=ja.mk (Kd.jh (by (with_reducible repeat (first|apply Kd.Zc|apply Kd.Yc|apply Kd.Jd));exact qj.out) hb);have Re:=ja.mk (Kd.dg (by (with_reducible repeat (first|apply Kd.Ab|apply Kd.zb|apply Kd.Rb));exact vE.out) hb);have Gf:=ja.mk (Kd.jh (by (with_reducible repeat (first|apply Kd.Zc|apply Kd.Yc|apply Kd.Jd));exact uE.out) hb);have Yf:=ja.mk (Ua (g:=ya) (o:=.cells #[.slice Ya Pa.length Za,.int .i64 Ka,.int .i64 Ga,.int .i64 Ia,.slice Vb Da.length Jb] 25 (0,0)) (by (with_reducible repeat (first|refine Ba ?_ _|refine Ea ?_|refine Ca ?_ _));exact oa.out) hb);have tw:=ja.mk (Ua (g:=yf) (o:=.cells #[.slice wu t113.length Pt,.int .i64 t116,.int .i64 t117,.int .i64 t118,.slice Rz t119.length Uv] 30 (0,0)) (by (with_reducible repeat (first|refine Ba ?_ _|refine Ea ?_|refine Ca ?_ _));exact Jf.out) hb);have vH:=ja.mk (Qa (by repeat (first|(with_reducible first|exact HB.out|apply qa|apply ia|apply ta|refine ua ?_ Sa.out|refine ua ?_ wE.out)|exact HB.out)) hb);clear th zg Ij qj vE uE oa Jf HB;have th:=Fb;have zg:=Ib;have Ij:=Sb;have qj:=Ec;have vE:=Re;have uE:=Gf;have oa:=Yf;have Jf:=tw;have HB:=vH;clear Fb Ib Sb Ec Re Gf Yf tw vH;(try clear hb);(try clear Hi);(try clear hk);(try clear hi);refine hK.out _ _ ⟨(ga Jf.out 0).trans rfl,(ga Jf.out 1).trans rfl,(ga Jf.out 2).trans rfl,(ga Jf.out 3).trans rfl,(ga Jf.out 4).trans rfl,(ga oa.out 0).trans rfl,(ga oa.out 1).trans rfl,(ga oa.out 2).trans rfl,(ga oa.out 3).trans rfl,(ga oa.out 4).trans rfl⟩ (fun hHeld=>?_);clear hK K;refine Eo (a':=?_) ?_ ?_;rotate_left
    ·show Act.put _ (some 25) _=_
     simp only [Act.put,List.setIfInBounds_toArray,List.set_cons_zero,List.set_cons_succ,Xb,Yb]
     rfl
    refine Wc (i:=4) (N:=some 26) (v:=?_) (a':=?_) #[true,true,true,true,true] rfl rfl (by kernel_rfl) (fun _ _ _ h=>h) (Or.inl ⟨by rfl,?_⟩) ?_ ?_;rotate_left
    ·intro w';go_simp;with_reducible rfl
    rotate_left
    ·simp only [Act.put,List.setIfInBounds_toArray,List.set_cons_zero,List.set_cons_succ,Xb,Yb]
     rfl
    refine Tp (by kernel_rfl) ?_
    try go_wp2
    go_ret;exact ⟨by first|rfl|(simp [Ma,La] <;> rfl)|(simp [*,Ma,La] <;> rfl),by repeat (first|(with_reducible first|exact HB.out|apply qa|apply ia|apply ta|refine ua ?_ Sa.out|refine ua ?_ wE.out)|exact HB.out)⟩
   ·replace zR:=Bool.eq_false_iff.mpr zR;subst zR;have H1:(none)=some r:=by rw [if_neg (show ¬ (false=true) by decide)] at H;exact H
    clear H;have H:=H1;clear H1;exact absurd H (by simp)
  ·rw [if_neg Hz] at H;exact absurd H (by simp)
section
variable {l0:List Int} {p v s:Int} {l4:List Ce}
theorem Hy (h:Wl l0 p v s l4=true):wz l0 p v s l4.length=true∧(∀ b ∈ l4,Po l0 s l4 b=true)∧Ld l4 ≤ 1000:=by
 unfold Wl at h;simp only [Bool.and_eq_true,Bool.not_eq_true',List.any_eq_false,decide_eq_true_eq] at h;exact ⟨h.1,fun b hb=>by have:=h.2.1 b hb;simpa using this,h.2.2⟩
theorem QN (l:List Ce) (b:Ce) (hb:b ∈ l):b.f0.length ≤ Ld l:=by
 unfold Ld;exact DC (List.mem_map.mpr ⟨b,hb,rfl⟩)
end
end Go.Proofs.Ytkigbdceceeenaa.P
end
section
namespace Go.Proofs.Ytkigbdceceeenaa.P
open Go.RowKit Go.Proofs.Oa.Wb Go.Proofs.Oa.Vd Go.Proofs.Oa.Xe
set_option linter.unusedVariables false
set_option linter.unusedSimpArgs false
theorem aY {n0 n:Nat} {x:Rf} (h:ym n0 (n:Int) x=true):Xz n x:=by
 unfold ym ql at h;unfold Xz
 by_cases o0:x.f0=0
 ·rw [ew (by omega) (by omega) (by omega)];simp [o0,Fj] at h ⊢;omega
 by_cases o1:x.f0=1
 ·rw [xo (Or.inl o1)];simp [o1,Fj] at h ⊢;omega
 by_cases o2:x.f0=2
 ·rw [az o2];simp [o2,Fj] at h ⊢;omega
 by_cases o3:x.f0=3
 ·by_cases ha:0 ≤ x.f2
  ·rw [kC ha (Or.inl o3) (by omega)];simp [o3,Fj] at h ⊢;omega
  ·rw [iC ha (Or.inl o3) (by omega)];simp [o3,Fj] at h ⊢;omega
 by_cases o4:x.f0=4
 ·by_cases ha:0 ≤ x.f2
  ·rw [lC ha o4];simp [o4,Fj] at h ⊢;omega
  ·rw [jC ha o4];simp [o4,Fj] at h ⊢;omega
 by_cases o5:x.f0=5
 ·rw [ew (by omega) (by omega) (by omega)];simp [o5,Fj] at h ⊢;omega
 by_cases o6:x.f0=6
 ·rw [xo (Or.inr o6)];simp [o6,Fj] at h ⊢;omega
 simp [o0,o1,o2,o3,o4,o5,o6] at h
theorem DR {n0 n n4:Nat} {b:Ce} (h:jj n0 (n:Int) n4 b.f0 b.f1 b.f2 b.f3 b.f4=true) (hl:b.f0.length ≤ 1048576):ou n b:=by
 unfold jj at h;simp only [Bool.and_eq_true,Bool.not_eq_true',List.any_eq_false] at h;obtain ⟨⟨h1,_⟩,h2⟩:=h;refine ⟨hl,fun hf=>?_,fun x hx=>aY (n0:=n0) (by have:=h1 x hx;simpa using this)⟩;rw [if_neg hf] at h2
 by_cases h3:b.f1=1
 ·rw [if_pos h3] at h2;simp [Fj] at h2;omega
 ·rw [if_neg h3] at h2
  by_cases h4:b.f1=2
  ·rw [if_pos h4] at h2;simp [Fj] at h2;omega
  ·rw [if_neg h4] at h2;cases h2
theorem nT {l0:List Int} {p v:Int} {n:Nat} {bs:List Ce} (h:Wl l0 p v (n:Int) bs=true) (ht:Ld bs ≤ 1048576):jn bs n:=by
 obtain ⟨h1,h2,_⟩:=Hy h;have hh:=vz h1;exact ⟨aK h,by omega,fun b hb=>DR (h2 b hb) (Nat.le_trans (QN bs b hb) ht)⟩
end Go.Proofs.Ytkigbdceceeenaa.P
end
