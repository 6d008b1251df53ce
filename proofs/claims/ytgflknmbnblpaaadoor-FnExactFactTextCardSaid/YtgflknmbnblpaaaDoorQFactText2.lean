import Derived.Test.YtgflknmbnblpaaaDoorQFactText1
import Derived.Shelf.Abstract
import Derived.Outline
import Derived.Lib.ItoaNum
import Derived.Lib.ItoaLen
import Derived.Lib.Join
section
namespace Go.Proofs.YtgflknmbnblpaaaDoor.P
open Go.RowKit Go.Proofs.aa.Aa Go.Proofs.aa.Db Go.Proofs.aa.Dd
set_option linter.unusedVariables false
set_option linter.unusedSimpArgs false
attribute [local go_sem] Qf Nf Ag zg Te Re Pf Mf
theorem Ev.pos {α:Type} {c:Prop} [Decidable c] {f g:Nat→Option α} {r:α} (h:c) (k:Ev f r):Ev (fun n=>if c then f n else g n) r:=Ev.congr (fun n=>if_pos h) k
theorem Ev.neg {α:Type} {c:Prop} [Decidable c] {f g:Nat→Option α} {r:α} (h:¬ c) (k:Ev g r):Ev (fun n=>if c then f n else g n) r:=Ev.congr (fun n=>if_neg h) k
theorem Ev.val {α β:Type} {a:α} {f:Nat→α→Option β} {r:β} (k:Ev (fun n=>f n a) r):Ev (fun n=>(some a).bind (f n)) r:=Ev.congr (fun n=>rfl) k
theorem Zc {x:Int} (h:-9223372036854775808 ≤ x) (h':x ≤ 9223372036854775807):wrap64 x=x:=by
 unfold wrap64;omega
theorem Pd {i n:Nat} (h:i < n) (hn:n ≤ 9223372036854775807):wrap64 ((i:Int) + 1)=((i + 1:Nat):Int):=by
 rw [Zc (by omega) (by omega)];omega
theorem tf {ρ:Type} {n:Nat} {r:ρ} (P:Nat→Prop) (hend:P n) (hstep:∀ i,i < n→P (i + 1)→P i):∀ i,i ≤ n→P i:=by
 have key:∀ d i,i + d=n→P i:=by
  intro d
  induction d with
  | zero =>
   intro i hi;have:i=n:=by omega
   exact this ▸ hend
  | succ d ih =>
   intro i hi;exact hstep i (by omega) (ih (i + 1) (by omega))
 intro i hi;exact key (n - i) i (by omega)
theorem kj {α:Type} {m:List α} {z:α} {i:Nat} (h:i < m.length):(m.take i ++ List.replicate (m.length - i) z).set i (m.getD i z)=m.take (i + 1) ++ List.replicate (m.length - (i + 1)) z:=by
 rw [List.set_append_right _ _ (by rw [List.length_take];omega),List.length_take,Nat.min_eq_left (by omega),Nat.sub_self];rw [show m.length - i=(m.length - (i + 1)) + 1 from by omega,List.replicate_succ,List.set_cons_zero,List.take_succ_eq_append_getElem h,List.append_assoc];simp [List.getD_eq_getElem?_getD,List.getElem?_eq_getElem h]
theorem Hi {α:Type} {m:List α} {z:α}:m.take 0 ++ List.replicate (m.length - 0) z=List.replicate m.length z:=by simp
theorem mj {α:Type} {m:List α} {z:α}:m.take m.length ++ List.replicate (m.length - m.length) z=m:=by simp
def txt (l:List UInt8):ByteArray:=⟨l.toArray⟩
theorem fc (a b:List UInt8):txt a ++ txt b=txt (a ++ b):=by
 apply ByteArray.ext;simp [txt,ByteArray.data_append]
theorem gb (a:List UInt8):(txt a).size=a.length:=by simp [txt,ByteArray.size]
theorem Eg (d:Nat) (h:d < 10):(⟨#[48,49,50,51,52,53,54,55,56,57]⟩:ByteArray).extract d (d + 1)=txt [UInt8.ofNat (48 + d)]:=by
 rcases d with _ | _ | _ | _ | _ | _ | _ | _ | _ | _|d
 all_goals first|rfl|(exfalso;omega)
theorem xd (u:Nat) (h:u < 18446744073709551616):(Lib.decDigits u).length ≤ 20:=by
 rw [Lib.decDigits_length];exact Lib.nDigits_le20 u h
theorem uj (u:Nat) (h:0 < u):(if u / 10=0 then [] else Lib.decDigits (u / 10)) ++ [UInt8.ofNat (48 + u % 10)]=Lib.decDigits u:=by
 by_cases h1:u < 10
 ·rw [if_pos (by omega),Lib.decDigits_one h1,Nat.mod_eq_of_lt h1]
  rfl
 ·rw [if_neg (by omega)]
  conv=>rhs;rw [Lib.decDigits,dif_neg h1]
theorem Ti (n m:Int) (d q:Nat) (acc:List UInt8) (r:ByteArray) (hm:¬ m=0) (ht:Int.tmod m 10 = -(d:Int)) (hq:Int.tdiv m 10 = -(q:Int)) (hd:d < 10) (hb:q ≤ 9223372036854775807) (hl:acc.length ≤ 1000)
  (he:Ev (fun k=>qa.l0 k n (txt ([UInt8.ofNat (48 + d)] ++ acc)) (-(q:Int))) r):Ev (fun k=>qa.l0 k n (txt acc) m) r:=by
 have hw:wrap64 (-(q:Int)) = -(q:Int):=Zc (by omega) (by omega);refine Ev.step (fun k=>by rw [qa.l0]) ?_;refine Ev.neg hm ?_;rw [hq,hw,ht]
 rcases Nat.eq_zero_or_pos d with h0|h0
 ·subst h0;rw [show -((0:Nat):Int)=0 from rfl,show wrap64 ((0:Int) + 1)=1 from by rw [Zc (by omega) (by omega)];rfl];refine Ev.neg (by decide) (Ev.pos (by decide) (Ev.pos (by decide) (Ev.pos (by decide) ?_)));rw [show (0:Int).toNat=0 from rfl,show (1:Int).toNat=0 + 1 from rfl,Eg 0 (by decide)];refine Ev.pos (by rw [gb,gb,List.length_singleton];omega) ?_;rw [fc];exact he
 ·have e1:wrap64 (-(-(d:Int)))=(d:Int):=by rw [Zc (by omega) (by omega)];omega
  have e2:wrap64 ((d:Int) + 1)=((d + 1:Nat):Int):=by rw [Zc (by omega) (by omega)];omega
  rw [e1,e2];refine Ev.pos (by omega) (Ev.pos (by omega) (Ev.pos (by omega) (Ev.pos (by omega) ?_)));rw [Int.toNat_natCast,Int.toNat_natCast,Eg d hd];refine Ev.pos (by rw [gb,gb,List.length_singleton];omega) ?_;rw [fc];exact he
theorem Si (n m:Int) (d q:Nat) (acc:List UInt8) (r:ByteArray) (hm:¬ m=0) (ht:Int.tmod m 10=(d:Int)) (hq:Int.tdiv m 10=(q:Int)) (hd:d < 10) (hb:q ≤ 9223372036854775807) (hl:acc.length ≤ 1000)
  (he:Ev (fun k=>qa.l0 k n (txt ([UInt8.ofNat (48 + d)] ++ acc)) (q:Int)) r):Ev (fun k=>qa.l0 k n (txt acc) m) r:=by
 have hw:wrap64 (q:Int)=(q:Int):=Zc (by omega) (by omega);refine Ev.step (fun k=>by rw [qa.l0]) ?_;refine Ev.neg hm ?_;rw [hq,hw,ht];have e2:wrap64 ((d:Int) + 1)=((d + 1:Nat):Int):=by rw [Zc (by omega) (by omega)];omega
 rw [e2];refine Ev.neg (by omega) (Ev.pos (by omega) (Ev.pos (by omega) (Ev.pos (by omega) ?_)));rw [Int.toNat_natCast,Int.toNat_natCast,Eg d hd];refine Ev.pos (by rw [gb,gb,List.length_singleton];omega) ?_;rw [fc];exact he
theorem bl (n:Int) (r:ByteArray):∀ (u:Nat) (m:Int) (acc:List UInt8),m.natAbs=u→-9223372036854775808 ≤ m→m ≤ 9223372036854775807→acc.length + (if u=0 then [] else Lib.decDigits u).length ≤ 1000 →
  Ev (fun k=>qa.l0 k n (txt ((if u=0 then [] else Lib.decDigits u) ++ acc)) 0) r→Ev (fun k=>qa.l0 k n (txt acc) m) r:=by
 intro u
 induction u using Nat.strongRecOn with
 | ind u ih =>
  intro m acc hu hlo hhi hlen he
  by_cases h0:u=0
  ·have hm:m=0:=by omega
   rw [if_pos h0,List.nil_append] at he;rw [hm];exact he
  ·rw [if_neg h0] at he hlen;have hst:=uj u (by omega);have Pp:(Lib.decDigits u).length=(if u / 10=0 then [] else Lib.decDigits (u / 10)).length + 1:=by rw [← hst,List.length_append,List.length_singleton]
   have hd:u % 10 < 10:=Nat.mod_lt _ (by decide)
   have next:∀ m':Int,m'.natAbs=u / 10→-9223372036854775808 ≤ m'→m' ≤ 9223372036854775807→Ev (fun k=>qa.l0 k n (txt ([UInt8.ofNat (48 + u % 10)] ++ acc)) m') r:=by
    intro m' e1 e3 e4;refine ih (u / 10) (by omega) m' _ e1 e3 e4 (by rw [List.length_append,List.length_singleton];omega) ?_;rw [← List.append_assoc,hst];exact he
   by_cases hneg:m < 0
   ·have Sl:m = -(u:Int):=by omega
    refine Ti n m (u % 10) (u / 10) acc r (by omega) (by rw [Sl,Int.neg_tmod];rfl) (by rw [Sl,Int.neg_tdiv];rfl) hd (by omega) (by omega) (next _ (by omega) (by omega) (by omega))
   ·have Sl:m=(u:Int):=by omega
    refine Si n m (u % 10) (u / 10) acc r (by omega) (by rw [Sl];rfl) (by rw [Sl];rfl) hd (by omega) (by omega) (next _ (by omega) (by omega) (by omega))
theorem Cd (n:Int) (h0:-9223372036854775808 ≤ n) (h1:n ≤ 9223372036854775807):(Lib.itoa n).length ≤ 21:=by
 unfold Lib.itoa
 split
 ·rw [List.length_cons];have:=xd n.natAbs (by omega);omega
 ·have:=xd n.toNat (by omega);omega
theorem Ed (n:Int) (h0:-9223372036854775808 ≤ n) (h1:n ≤ 9223372036854775807):Ev (fun k=>qa.f k n) (txt (Lib.itoa n)):=by
 unfold qa.f
 by_cases hz:n=0
 ·refine Ev.pos hz ?_;rw [hz,show Lib.itoa 0=[48] from by unfold Lib.itoa;rw [if_neg (by decide)];exact Lib.decDigits_one (by decide)];exact Ev.now _
 ·refine Ev.neg hz ?_;have hl:=xd n.natAbs (by omega);refine bl n _ n.natAbs n [] rfl h0 h1 (by rw [if_neg (by omega),List.length_nil];omega) ?_;rw [if_neg (by omega),List.append_nil];refine Ev.step (fun k=>by rw [qa.l0]) ?_;refine Ev.pos rfl ?_
  by_cases hneg:n < 0
  ·rw [show Lib.itoa n=45 :: Lib.decDigits n.natAbs from by unfold Lib.itoa;rw [if_pos hneg]];refine Ev.pos hneg (Ev.pos (by rw [gb];omega) ?_);rw [show (⟨#[45]⟩:ByteArray)=txt [45] from rfl,fc];exact Ev.now _
  ·rw [show Lib.itoa n=Lib.decDigits n.natAbs from by unfold Lib.itoa;rw [if_neg hneg,show n.toNat=n.natAbs from by omega]];exact Ev.neg hneg (Ev.now _)
def Tc (x:Lg):Yc:=⟨x.f0,x.f1⟩
theorem Ch (l:List Lg) (hl:l.length ≤ 17592186044416):Ev (fun k=>za.f k l) (l.map Tc):=by
 refine Ev.congr (f:=fun k=>za.l0 k l (List.replicate l.length Mh) 0) (fun k=>?_) ?_
 ·unfold za.f;rw [if_pos (by omega),if_pos (by omega)]
  rfl
 ·have key:=tf (r:=l.map Tc) (n:=l.length) (fun i=>Ev (fun k=>za.l0 k l ((l.map Tc).take i ++ List.replicate ((l.map Tc).length - i) Mh) (i:Int)) (l.map Tc)) ?_ ?_ 0 (by omega)
  ·rw [Hi,List.length_map] at key;exact key
  ·refine Ev.step (fun k=>by rw [za.l0]) ?_;refine Ev.neg (by omega) ?_;have e:=mj (m:=l.map Tc) (z:=Mh);rw [List.length_map] at e;rw [List.length_map,e];exact Ev.now _
  ·intro i hi h;refine Ev.step (fun k=>by rw [za.l0]) ?_;refine Ev.pos (by omega) (Ev.pos (by omega) ?_);unfold Mc.f;refine Ev.val (Ev.pos (by simp;omega) ?_)
   have hc:Tc (td l (i:Int))=(l.map Tc).getD i Mh:=by
    simp [td,List.getD_eq_getElem?_getD,hi]
   have hf:=kj (m:=l.map Tc) (z:=Mh) (i:=i) (by rw [List.length_map];exact hi);rw [← hc] at hf;rw [Pd hi (by omega),Int.toNat_natCast];have e:=hf ▸ h;exact e
theorem Dh (l:List Yc) (hl:l.length ≤ 9223372036854775807):Ev (fun k=>ya.f k l l) true:=by
 refine Ev.congr (f:=fun k=>ya.l0 k l l 0) (fun k=>?_) ?_
 ·unfold ya.f;rw [if_pos rfl]
 ·refine tf (r:=true) (n:=l.length) (fun i=>Ev (fun k=>ya.l0 k l l (i:Int)) true) ?_ ?_ 0 (by omega)
  ·refine Ev.step (fun k=>by rw [ya.l0]) ?_;exact Ev.neg (by omega) (Ev.now _)
  ·intro i hi h;refine Ev.step (fun k=>by rw [ya.l0]) ?_;refine Ev.pos (by omega) (Ev.pos (by omega) (Ev.pos (by omega) ?_));unfold oc.f;simp only [if_true];refine Ev.val (Ev.pos rfl ?_);rw [Pd hi hl];exact h
def ie (x:Yc):List UInt8:=[115] ++ Lib.itoa x.f0 ++ [61] ++ Lib.itoa x.f1
def pg (x:Yc):Prop:=(-9223372036854775808 ≤ x.f0∧x.f0 ≤ 9223372036854775807)∧(-9223372036854775808 ≤ x.f1∧x.f1 ≤ 9223372036854775807)
theorem ji {x:Yc} (h:pg x):(ie x).length ≤ 44:=by
 have h0:=Cd x.f0 h.1.1 h.1.2;have h1:=Cd x.f1 h.2.1 h.2.2;unfold ie;simp only [List.length_append,List.length_singleton];omega
theorem Uh {n:Int} (h:-9223372036854775808 ≤ n∧n ≤ 9223372036854775807):Sa.f n=some (txt (Lib.itoa n)):=by
 unfold Sa.f;rw [if_pos h]
 rfl
theorem fk:∀ (l:List Yc),(∀ x ∈ l,pg x)→Lib.lens (l.map ie) ≤ 44 * l.length
 | [],_=>by simp [Lib.lens]
 | x :: l,h=>by
  have h1:=ji (h x (by simp));have h2:=fk l (fun y hy=>h y (by simp [hy]));simp only [Lib.lens,List.map_cons,List.sum_cons,List.length_cons] at h2 ⊢;omega
theorem ng (l:List Yc) (h:∀ x ∈ l,pg x):(Lib.join (l.map ie) [32]).length ≤ 45 * l.length:=by
 cases l with
 | nil=>simp [Lib.join_nil]
 | cons x l =>
  have h1:=ji (h x (by simp));have h2:=fk l (fun y hy=>h y (by simp [hy]));rw [List.map_cons,Lib.join_cons,List.length_append,Lib.joinTail_length];simp only [List.length_cons,List.length_nil,List.length_map];omega
theorem xh (l:List Yc) (i:Nat) (hi:i < l.length):Lib.join ((l.take (i + 1)).map ie) [32]=Lib.join ((l.take i).map ie) [32] ++ ((if i=0 then [] else [32]) ++ ie l[i]):=by
 cases l with
 | nil=>simp at hi
 | cons x l =>
  cases i with
  | zero=>simp [Lib.join_one,Lib.join_nil]
  | succ i =>
   have hi':i < l.length:=by simpa using hi
   rw [List.take_succ_cons,List.take_succ_cons,List.map_cons,List.map_cons,Lib.join_cons,Lib.join_cons,List.map_take,List.map_take,Lib.joinTail_take_succ [32] (l.map ie) i (ie l[i]) (by rw [List.getElem?_map,List.getElem?_eq_getElem hi'];rfl)];simp [List.append_assoc]
theorem Oh {l:List Yc} {i:Nat} (hi:i < l.length):Ba l (i:Int)=l[i]:=by simp [Ba,List.getD_eq_getElem?_getD,hi]
theorem sB:(⟨#[115]⟩:ByteArray)=txt [115]:=rfl
theorem eB:(⟨#[61]⟩:ByteArray)=txt [61]:=rfl
theorem wB:(⟨#[32]⟩:ByteArray)=txt [32]:=rfl
theorem Ue (l:List Yc) (hl:l.length ≤ 1048576) (hR:∀ x ∈ l,pg x):Ev (fun k=>Da.f k l) (if l=[] then txt [45] else txt (Lib.join (l.map ie) [32])):=by
 unfold Da.f;have key:=tf (r:=(if l=[] then txt [45] else txt (Lib.join (l.map ie) [32]))) (n:=l.length) (fun i=>Ev (fun k=>Da.l0 k l (txt (Lib.join ((l.take i).map ie) [32])) (i:Int)) (if l=[] then txt [45] else txt (Lib.join (l.map ie) [32]))) ?_ ?_ 0 (by omega)
 ·exact key
 ·refine Ev.step (fun k=>by rw [Da.l0]) (Ev.neg (by omega) ?_)
  by_cases h0:l=[]
  ·subst h0;exact Ev.pos rfl (Ev.now _)
  ·rw [if_neg h0,List.take_length];have:0 < l.length:=List.length_pos_iff.mpr h0;exact Ev.neg (by omega) (Ev.now _)
 ·intro i hi h;have hx:=hR _ (List.getElem_mem hi);have hj:=ng (l.take i) (fun x hx=>hR x (List.mem_of_mem_take hx));rw [List.length_take] at hj;have h0:=Cd l[i].f0 hx.1.1 hx.1.2;have h1:=Cd l[i].f1 hx.2.1 hx.2.2;have hs:=xh l i hi;have hz:=gb (Lib.join ((l.take i).map ie) [32]);refine Ev.step (fun k=>by rw [Da.l0]) (Ev.pos (by omega) ?_);rw [Oh hi,Pd hi (by omega),sB,eB,wB]
  by_cases hp:(i:Int) > 0
  ·rw [if_neg (by omega)] at hs;refine Ev.pos hp (Ev.pos (by omega) (Ev.pos (by rw [ByteArray.size_append,gb,gb];simp only [List.length_singleton];omega) (Ev.pos (by omega) (Ev.bind (Ed l[i].f0 hx.1.1 hx.1.2) ?_))));simp only [fc,gb,List.length_append,List.length_singleton];refine Ev.pos (by omega) (Ev.pos (by omega) (Ev.bind (Ed l[i].f1 hx.2.1 hx.2.2) ?_));simp only [fc,gb,List.length_append,List.length_singleton];refine Ev.pos (by omega) ?_;rw [hs] at h;have e:Lib.join ((l.take i).map ie) [32] ++ ([32] ++ ie l[i])=Lib.join ((l.take i).map ie) [32] ++ [32] ++ [115] ++ Lib.itoa l[i].f0 ++ [61] ++ Lib.itoa l[i].f1:=by simp [ie,List.append_assoc]
   rw [e] at h;exact h
  ·rw [if_pos (by omega)] at hs;refine Ev.neg hp (Ev.pos (by omega) (Ev.pos (by omega) (Ev.bind (Ed l[i].f0 hx.1.1 hx.1.2) ?_)));simp only [fc,gb,List.length_append,List.length_singleton];refine Ev.pos (by omega) (Ev.pos (by omega) (Ev.bind (Ed l[i].f1 hx.2.1 hx.2.2) ?_));simp only [fc,gb,List.length_append,List.length_singleton];refine Ev.pos (by omega) ?_;rw [hs] at h;have e:Lib.join ((l.take i).map ie) [32] ++ ([] ++ ie l[i])=Lib.join ((l.take i).map ie) [32] ++ [115] ++ Lib.itoa l[i].f0 ++ [61] ++ Lib.itoa l[i].f1:=by simp [ie,List.append_assoc]
   rw [e] at h;exact h
theorem Fi (l:List Yc):(l.map fun x=>txt (ie x)).map (·.data.toList)=l.map ie:=by
 rw [List.map_map];exact List.map_congr_left (fun x _=>rfl)
theorem Ve (l:List Yc) (hl:l.length ≤ 1048576) (hR:∀ x ∈ l,pg x):Ev (fun k=>ua.f k l) (if l=[] then txt [45] else txt (Lib.join (l.map ie) [32])):=by
 unfold ua.f;have key:=tf (r:=(if l=[] then txt [45] else txt (Lib.join (l.map ie) [32]))) (n:=l.length) (fun i=>Ev (fun k=>ua.l0 k ((l.take i).map fun x=>txt (ie x)) l (l.length:Int) (i:Int)) (if l=[] then txt [45] else txt (Lib.join (l.map ie) [32]))) ?_ ?_ 0 (by omega)
 ·exact key
 ·refine Ev.step (fun k=>by rw [ua.l0]) (Ev.neg (by omega) ?_);rw [List.take_length]
  by_cases h0:l=[]
  ·subst h0;exact Ev.pos rfl (Ev.now _)
  ·have:0 < l.length:=List.length_pos_iff.mpr h0;rw [if_neg h0];refine Ev.neg (by rw [List.length_map];omega) ?_;have hj:=ng l hR
   have e:strings_Join.f (l.map fun x=>txt (ie x)) (⟨#[32]⟩:ByteArray)=some (txt (Lib.join (l.map ie) [32])):=by
    unfold strings_Join.f nk;rw [Fi];rw [if_pos ⟨by rw [List.length_map];omega,by show (Lib.join (l.map ie) [32]).length ≤ _;omega⟩]
    rfl
   rw [e];exact Ev.now _
 ·intro i hi h;have hx:=hR _ (List.getElem_mem hi);have h0:=Cd l[i].f0 hx.1.1 hx.1.2;have h1:=Cd l[i].f1 hx.2.1 hx.2.2;refine Ev.step (fun k=>by rw [ua.l0]) (Ev.pos (by omega) (Ev.pos (by omega) (Ev.pos (by omega) ?_)));rw [Oh hi,Pd hi (by omega),eB]
  have es:Sc.f l[i].f0=some (txt ([115] ++ Lib.itoa l[i].f0)):=by
   unfold Sc.f;rw [Uh hx.1]
   show (if 1 + (txt (Lib.itoa l[i].f0)).size ≤ 9223372036854775807 then some ((⟨#[115]⟩:ByteArray) ++ txt (Lib.itoa l[i].f0)) else none)=_
   rw [if_pos (by rw [gb];omega),sB,fc]
  rw [es];refine Ev.val (Ev.pos (by rw [gb];simp only [List.length_append,List.length_singleton];omega) ?_);rw [Uh hx.2];refine Ev.val (Ev.pos (by rw [fc,gb,gb];simp only [List.length_append,List.length_singleton];omega) (Ev.pos (by rw [List.length_map,List.length_take];omega) ?_));rw [fc,fc];rw [List.take_succ_eq_append_getElem hi,List.map_append] at h;have e:ie l[i]=[115] ++ Lib.itoa l[i].f0 ++ [61] ++ Lib.itoa l[i].f1:=rfl;rw [List.map_singleton,e] at h;exact h
theorem Od (x:List Lg) (hf:x.length ≤ 9223372036854775807∧∀ a ∈ x,jj a):∃ k,Wa.f k x=some true:=by
 refine Ev.rounds (g:=fun k=>Wa.f k x) ?_;unfold Wa.f;have hw:wrap64 (1048576 - (x.length:Int))=1048576 - (x.length:Int):=Zc (by omega) (by omega)
 by_cases hl:x.length ≤ 1048576
 ·have e1:jb.f x 1048576=some (1048576 - (x.length:Int)):=by
   unfold jb.f;rw [hw,if_neg (by omega)]
  rw [e1];refine Ev.val (Ev.neg (by omega) ?_);have hT:=Ch x (by omega)
  have hR:∀ y ∈ x.map Tc,pg y:=fun y hy=>by
   obtain ⟨z,hz,rfl⟩:=List.mem_map.1 hy;exact hf.2 z hz
  have hm:(x.map Tc).length ≤ 1048576:=by rw [List.length_map];exact hl
  exact Ev.bind hT (Ev.bind (Ue _ hm hR) (Ev.bind hT (Ev.bind (Ve _ hm hR) (Ev.pos rfl (Ev.bind hT (Ev.bind (Dh _ (by omega)) (Ev.pos rfl (Ev.now _))))))))
 ·have e1:jb.f x 1048576=some (-1):=by
   unfold jb.f;rw [hw,if_pos (by omega)]
  rw [e1];exact Ev.val (Ev.pos (by decide) (Ev.now _))
end Go.Proofs.YtgflknmbnblpaaaDoor.P
end
