import Derived.Test.YtgflknmbnblpaaaDoorQShowCode1
import Derived.Shelf.Abstract
set_option maxHeartbeats 8000000
set_option maxRecDepth 100000
section
namespace Go.Proofs.YtgflknmbnblpaaaDoor.P
open Go.RowKit Go.Proofs.Aa.gb Go.Proofs.Aa.Wc Go.Proofs.Aa.ze
set_option linter.unusedVariables false
set_option linter.unusedSimpArgs false
attribute [local go_sem] Nh Lh qj nj Ng Mg Mh Kh
mutual
def Ma.l0:Nat→Int→List Int→Int→Int→List (Pd)→Option (Bool)
 | 0,_,_,_,_,_=>none
 | k + 1,x3,Lc,Oc,Nc,Ab=>if x3 < (Lc.length:Int) then (if 0 ≤ x3 then ((Va.f (rd Lc x3) 1 16).bind fun t103=>(if t103=true then (Ma.l0 k (wrap64 (x3 + 1)) Lc Oc Nc Ab) else (some false))) else (none)) else ((Va.f (Lc.length:Int) 1 4).bind fun t104=>(if t104=true then ((Va.f Oc 0 6).bind fun t105=>(if t105=true then ((Va.f Nc Oc 1000).bind fun t106=>(if t106=true then ((Va.f (Ab.length:Int) 1 6000).bind fun t107=>(Ma.j1 k (Ab.length:Int) (!t107) Lc Oc Nc Ab)) else (Ma.j1 k (Ab.length:Int) true Lc Oc Nc Ab))) else (Ma.j1 k (Ab.length:Int) true Lc Oc Nc Ab))) else (Ma.j1 k (Ab.length:Int) true Lc Oc Nc Ab)))
def Ma.j1:Nat→Int→Bool→List Int→Int→Int→List (Pd)→Option (Bool)
 | 0,_,_,_,_,_,_=>none
 | k + 1,x4,cL,Lc,Oc,Nc,Ab=>if cL=true then (some false) else (Ma.l1 k x4 0 Lc Oc Nc Ab)
def Ma.l1:Nat→Int→Int→List Int→Int→Int→List (Pd)→Option (Bool)
 | 0,_,_,_,_,_,_=>none
 | k + 1,x4,x5,Lc,Oc,Nc,Ab=>if x5 < x4 then (if 0 ≤ x5 then (if x5 < (Ab.length:Int) then ((Sa.f k Lc Oc Nc Ab ((za Ab x5).f0) ((za Ab x5).f1) ((za Ab x5).f2) ((za Ab x5).f3) ((za Ab x5).f4)).bind fun t109=>(if t109=true then (Ma.l1 k x4 (wrap64 (x5 + 1)) Lc Oc Nc Ab) else (some false))) else (none)) else (none)) else (if 0 ≤ (wrap64 (x4 - 1)) then (if (wrap64 (x4 - 1)) < (Ab.length:Int) then (if ((za Ab (wrap64 (x4 - 1))).f0)=10 then (some true) else (some (((za Ab (wrap64 (x4 - 1))).f0) == 8))) else (none)) else (none))
end
def Ma.f (k:Nat) (Qa:List Int) (Oa:Int) (Pa:Int) (Ba:List (Pd)):Option (Bool):=Ma.l0 k 0 Qa Oa Pa Ba
def Ma.QK:Bool × List (List Nat × List Nat):=(true,[([],[]),([],[]),([1],[1]),([],[]),([2,3],[2,3]),([4],[4]),([0,5],[0,5]),([6],[6])])
def Ma.cM:List Nat:=[0,0,2,0,14,30,63,127]
theorem Ma.Ay:Pf .any (opsOf Tryd.f23 12)=Ma.QK:=by kernel_rfl
theorem Ma.Bv:Bg Ma.QK.2 Ma.cM=true:=by kernel_rfl
theorem Ma.calls (k:Nat) (yb:Option Addr) (xb:Nat) (Qa:List Int) (Oa:Int) (Pa:Int) (Db:Option Addr) (zb:Nat) (Ba:List (Pd)) (r:Bool) (w:World) (xe:Kd.C (Kd.int .i64) w yb Qa.length Qa) (je:Qa.length ≤ xb) (we:Kd.C Si w Db Ba.length Ba) (ie:Ba.length ≤ zb) (h:Ma.f k Qa Oa Pa Ba=some r) :
  Calls Tryd.prog 23 #[.agg #[.slice yb Qa.length xb,.int .i64 Oa,.int .i64 Pa,.slice Db Ba.length zb]] w fun e w'=>e = .returned (.bool r)∧Below w.heap.size w w':=by
 have ju:=Tryd.underlying37;have Mq:=Tryd.underlying53;have Xd:=oa.mk xe;have qe:=oa.mk je;clear xe je;have Vd:=oa.mk we;have Qe:=oa.mk ie;clear we ie;have HB:=oa.mk (Below.refl w.heap.size w);have H:(Ma.l0 k 0 Qa Oa Pa Ba)=some r:=h;clear h;have H':=oa.mk H;clear H;go_enter Tryd.func23,Tryd.ntmps23;go_wp2_with (first|((with_reducible refine Nb (N:=1) rfl ?_);refine Jb ?hg (N:=1) ?hd (cs:=#[.slice yb Qa.length xb,.int .i64 Oa,.int .i64 Pa,.slice Db Ba.length zb]) (t:=37) ?hr ?_;(case hd=>rfl);(case hg=>rfl);(case hr=>first|(go_simp;done)|(go_simp;rfl));intro Fa hg w2 Rb hb;have Tb:=oa.mk (Ta (by repeat (first|(with_reducible first|exact HB.out|apply ia|apply aa|apply qa)|exact HB.out)) hb);have Xb:=oa.mk (Rb);have tc:=oa.mk ((by rw [hg];exact (Ka (by repeat (first|(with_reducible first|exact HB.out|apply ia|apply aa|apply qa)|exact HB.out))):w.heap.size ≤ Fa));have Ec:=oa.mk ((by rw [hg];exact (Ka (by repeat (first|(with_reducible first|exact HB.out|apply ia|apply aa|apply qa)|exact HB.out))):w.heap.size ≤ Fa));clear HB;have HB:=Tb;have ya:=Xb;have Re:=tc;have Ua:=Ec;clear Tb Xb tc Ec hb Rb hg))
 go_loopg [3] k (fun kq v3 w'=>∃ (mb:Int),v3 = .int .i64 mb∧oa (Ma.l0 kq mb Qa Oa Pa Ba=some r)∧oa (kq ≤ k)∧oa (w'.heap[Fa]? = some (.cells #[(.slice yb Qa.length xb),.int .i64 Oa,.int .i64 Pa,(.slice Db Ba.length zb)] 37 (0,0)))∧oa (Below w.heap.size w w'))
 case atStart=>exact ⟨(0),(by first|rfl|(simp;done)|(simp [*];done)),H',⟨Nat.le_refl _⟩,⟨by (with_reducible repeat (first|refine Ca ?_ _|refine Ea ?_|refine Da ?_ _));exact ya.out⟩,⟨by repeat (first|(with_reducible first|exact HB.out|apply ia|apply aa|apply qa|refine ua ?_ Ua.out)|exact HB.out)⟩⟩
 case round =>
  clear H'
  try clear c2
  try clear p2
  (try clear HA);(try clear Lg);(try clear ya);(try clear HB);obtain ⟨mb,rfl,HA,Lg,ya,HB⟩:=hrel;cases gk with
  | zero=>exact absurd HA.out (by simp [Ma.l0])
  | succ k1 =>
   have H:=HA.out;clear HA;simp only [Ma.l0] at H
   by_cases c3:mb < (Qa.length:Int)
   ·rw [if_pos c3] at H;have Ag:decide (mb < (Qa.length:Int))=true:=decide_eq_true c3;clear c3
    by_cases c4:0 ≤ mb
    ·rw [if_pos c4] at H;have Li:decide (0 ≤ mb)=true:=decide_eq_true c4;clear c4;replace H:=Option.bind_eq_some_iff.mp H;obtain ⟨t103,XK,H⟩:=H;replace H:(if t103=true then (Ma.l0 k1 (wrap64 (mb + 1)) Qa Oa Pa Ba) else (some false))=some r:=H;have A5:=oa.mk XK;clear XK
     by_cases c6:t103=true
     ·subst c6;have H1:(Ma.l0 k1 (wrap64 (mb + 1)) Qa Oa Pa Ba)=some r:=by rw [if_pos rfl] at H;exact H
      clear H;have H:=H1;clear H1;have H':=oa.mk H;clear H;have br:wr.cell? ⟨Fa,0,none⟩=some (.slice yb Qa.length xb):=(ja ya.out 0).trans rfl;have Zq:wr.cell? ⟨Fa,1,none⟩=some (.int .i64 Oa):=(ja ya.out 1).trans rfl;have Yq:wr.cell? ⟨Fa,2,none⟩=some (.int .i64 Pa):=(ja ya.out 2).trans rfl;have Xq:wr.cell? ⟨Fa,3,none⟩=some (.slice Db Ba.length zb):=(ja ya.out 3).trans rfl;have Rq:=ga ya.out 0;have Qq:=ga ya.out 1;have Pq:=ga ya.out 2;have Oq:=ga ya.out 3;have Nf:0 ≤ (mb:Int):=of_decide_eq_true (by first|(with_reducible assumption)|assumption);have Mf:mb < (Qa.length:Int):=of_decide_eq_true (by first|(with_reducible assumption)|assumption);obtain ⟨Fe,dm,Gd⟩:=Kd.Ch Xd.out mb Nf Mf;cases dm;replace Gd:=Ra HB.out Gd;replace Nf:=eq_true Nf;replace Mf:=eq_true Mf;go_wp2_with (first|((with_reducible refine Lb (f:=33) rfl ?_);refine Xc (some 18) rfl rfl Tryd.func33 (by kernel_rfl) rfl #[.int .i64 (rd Qa mb),.int .i64 1,.int .i64 16] rfl (by (try simp only [List.map_toArray,List.map_cons,List.map_nil]);first|done|rfl|(simp only [List.length_drop,List.length_take];rfl)) ?_;(with_reducible refine (Va.calls (rd Qa mb) 1 16 true _ A5.out).mono ?_);rintro e w' ⟨rfl,⟨nd,rfl⟩⟩;refine ⟨_,rfl,?_⟩))
      go_roundg k1
      case measure=>have:=Lg.out;omega
      case rel=>exact ⟨(wrap64 (mb + 1)),(by first|rfl|(simp;done)|(simp [*];done)),H',⟨by have:=Lg.out;omega⟩,⟨by (with_reducible repeat (first|refine Ca ?_ _|refine Ea ?_|refine Da ?_ _));exact ya.out⟩,⟨by repeat (first|(with_reducible first|exact HB.out|apply ia|apply aa|apply qa|refine ua ?_ Ua.out)|exact HB.out)⟩⟩
     ·replace c6:=Bool.eq_false_iff.mpr c6;subst c6;have H1:(some false)=some r:=by rw [if_neg (show ¬ (false=true) by decide)] at H;exact H
      clear H;have H:=H1;clear H1;obtain rfl:=Option.some.inj H;have vo:wr.cell? ⟨Fa,0,none⟩=some (.slice yb Qa.length xb):=(ja ya.out 0).trans rfl;have uo:wr.cell? ⟨Fa,1,none⟩=some (.int .i64 Oa):=(ja ya.out 1).trans rfl;have qo:wr.cell? ⟨Fa,2,none⟩=some (.int .i64 Pa):=(ja ya.out 2).trans rfl;have oo:wr.cell? ⟨Fa,3,none⟩=some (.slice Db Ba.length zb):=(ja ya.out 3).trans rfl;have Kn:=ga ya.out 0;have Jn:=ga ya.out 1;have Gn:=ga ya.out 2;have En:=ga ya.out 3;have Nf:0 ≤ (mb:Int):=of_decide_eq_true (by first|(with_reducible assumption)|assumption);have Mf:mb < (Qa.length:Int):=of_decide_eq_true (by first|(with_reducible assumption)|assumption);obtain ⟨Fe,dm,Gd⟩:=Kd.Ch Xd.out mb Nf Mf;cases dm;replace Gd:=Ra HB.out Gd;replace Nf:=eq_true Nf;replace Mf:=eq_true Mf;go_wp2_with (first|((with_reducible refine Lb (f:=33) rfl ?_);refine Xc (some 18) rfl rfl Tryd.func33 (by kernel_rfl) rfl #[.int .i64 (rd Qa mb),.int .i64 1,.int .i64 16] rfl (by (try simp only [List.map_toArray,List.map_cons,List.map_nil]);first|done|rfl|(simp only [List.length_drop,List.length_take];rfl)) ?_;(with_reducible refine (Va.calls (rd Qa mb) 1 16 false _ A5.out).mono ?_);rintro e w' ⟨rfl,⟨nd,rfl⟩⟩;refine ⟨_,rfl,?_⟩));go_ret;exact ⟨by first|rfl|(simp [Ja,Ia] <;> rfl)|(simp [*,Ja,Ia] <;> rfl),by repeat (first|(with_reducible first|exact HB.out|apply ia|apply aa|apply qa|refine ua ?_ Ua.out)|exact HB.out)⟩
    ·rw [if_neg c4] at H;exact absurd H (by simp)
   ·rw [if_neg c3] at H;have Ag:decide (mb < (Qa.length:Int))=false:=decide_eq_false c3;clear c3;have oI:=oa.mk H;clear H;have Hi:wr.cell? ⟨Fa,0,none⟩=some (.slice yb Qa.length xb):=(ja ya.out 0).trans rfl;have Gi:wr.cell? ⟨Fa,1,none⟩=some (.int .i64 Oa):=(ja ya.out 1).trans rfl;have Fi:wr.cell? ⟨Fa,2,none⟩=some (.int .i64 Pa):=(ja ya.out 2).trans rfl;have Ei:wr.cell? ⟨Fa,3,none⟩=some (.slice Db Ba.length zb):=(ja ya.out 3).trans rfl;have zi:=ga ya.out 0;have si:=ga ya.out 1;have qi:=ga ya.out 2;have ni:=ga ya.out 3
    go_upto_region 7 with (fail)
    go_cut [46] (fun v46 wc=>∃ (kq:Nat) (Kr:Bool),v46 = .bool Kr∧oa (Ma.j1 kq (Ba.length:Int) Kr Qa Oa Pa Ba=some r)∧oa (kq ≤ k1)∧oa (wc.heap[Fa]? = some (.cells #[(.slice yb Qa.length xb),.int .i64 Oa,.int .i64 Pa,(.slice Db Ba.length zb)] 37 (0,0)))∧oa (Below w.heap.size w wc))
    case first =>
     have H:=oI.out;clear oI;replace H:=Option.bind_eq_some_iff.mp H;obtain ⟨t104,jD,H⟩:=H;replace H:(if t104=true then ((Va.f Oa 0 6).bind fun t105=>(if t105=true then ((Va.f Pa Oa 1000).bind fun t106=>(if t106=true then ((Va.f (Ba.length:Int) 1 6000).bind fun t107=>(Ma.j1 k1 (Ba.length:Int) (!t107) Qa Oa Pa Ba)) else (Ma.j1 k1 (Ba.length:Int) true Qa Oa Pa Ba))) else (Ma.j1 k1 (Ba.length:Int) true Qa Oa Pa Ba))) else (Ma.j1 k1 (Ba.length:Int) true Qa Oa Pa Ba))=some r:=H;have dH:=oa.mk jD;clear jD
     by_cases c12:t104=true
     ·subst c12;have H1:((Va.f Oa 0 6).bind fun t105=>(if t105=true then ((Va.f Pa Oa 1000).bind fun t106=>(if t106=true then ((Va.f (Ba.length:Int) 1 6000).bind fun t107=>(Ma.j1 k1 (Ba.length:Int) (!t107) Qa Oa Pa Ba)) else (Ma.j1 k1 (Ba.length:Int) true Qa Oa Pa Ba))) else (Ma.j1 k1 (Ba.length:Int) true Qa Oa Pa Ba)))=some r:=by rw [if_pos rfl] at H;exact H
      clear H;have H:=H1;clear H1;replace H:=Option.bind_eq_some_iff.mp H;obtain ⟨t105,qq,H⟩:=H;replace H:(if t105=true then ((Va.f Pa Oa 1000).bind fun t106=>(if t106=true then ((Va.f (Ba.length:Int) 1 6000).bind fun t107=>(Ma.j1 k1 (Ba.length:Int) (!t107) Qa Oa Pa Ba)) else (Ma.j1 k1 (Ba.length:Int) true Qa Oa Pa Ba))) else (Ma.j1 k1 (Ba.length:Int) true Qa Oa Pa Ba))=some r:=H;have RA:=oa.mk qq;clear qq
      by_cases c14:t105=true
      ·subst c14;have H1:((Va.f Pa Oa 1000).bind fun t106=>(if t106=true then ((Va.f (Ba.length:Int) 1 6000).bind fun t107=>(Ma.j1 k1 (Ba.length:Int) (!t107) Qa Oa Pa Ba)) else (Ma.j1 k1 (Ba.length:Int) true Qa Oa Pa Ba)))=some r:=by rw [if_pos rfl] at H;exact H
       clear H;have H:=H1;clear H1;replace H:=Option.bind_eq_some_iff.mp H;obtain ⟨t106,fD,H⟩:=H;replace H:(if t106=true then ((Va.f (Ba.length:Int) 1 6000).bind fun t107=>(Ma.j1 k1 (Ba.length:Int) (!t107) Qa Oa Pa Ba)) else (Ma.j1 k1 (Ba.length:Int) true Qa Oa Pa Ba))=some r:=H;have bL:=oa.mk fD;clear fD
       by_cases c16:t106=true
       ·subst c16;have H1:((Va.f (Ba.length:Int) 1 6000).bind fun t107=>(Ma.j1 k1 (Ba.length:Int) (!t107) Qa Oa Pa Ba))=some r:=by rw [if_pos rfl] at H;exact H
        clear H;have H:=H1;clear H1;replace H:=Option.bind_eq_some_iff.mp H;obtain ⟨t107,eD,H⟩:=H;replace H:(Ma.j1 k1 (Ba.length:Int) (!t107) Qa Oa Pa Ba)=some r:=H;have pM:=oa.mk eD;clear eD;have H':=oa.mk H;clear H;have tg:wr.cell? ⟨Fa,0,none⟩=some (.slice yb Qa.length xb):=(ja ya.out 0).trans rfl;have sg:wr.cell? ⟨Fa,1,none⟩=some (.int .i64 Oa):=(ja ya.out 1).trans rfl;have qg:wr.cell? ⟨Fa,2,none⟩=some (.int .i64 Pa):=(ja ya.out 2).trans rfl;have pg:wr.cell? ⟨Fa,3,none⟩=some (.slice Db Ba.length zb):=(ja ya.out 3).trans rfl;have ng:=ga ya.out 0;have mg:=ga ya.out 1;have lg:=ga ya.out 2;have kg:=ga ya.out 3;go_wp2_with (first|((with_reducible refine Lb (f:=33) rfl ?_);refine Xc (some 26) rfl rfl Tryd.func33 (by kernel_rfl) rfl #[.int .i64 (Qa.length:Int),.int .i64 1,.int .i64 4] rfl (by (try simp only [List.map_toArray,List.map_cons,List.map_nil]);first|done|rfl|(simp only [List.length_drop,List.length_take];rfl)) ?_;(with_reducible refine (Va.calls (Qa.length:Int) 1 4 true _ dH.out).mono ?_);rintro e w' ⟨rfl,⟨nd,rfl⟩⟩;refine ⟨_,rfl,?_⟩)|(go_at_call 33;(with_reducible refine (Va.calls Oa 0 6 true _ RA.out).mono ?_);rintro e w' ⟨rfl,⟨nd,rfl⟩⟩)|(go_at_call 33;(with_reducible refine (Va.calls Pa Oa 1000 true _ bL.out).mono ?_);rintro e w' ⟨rfl,⟨nd,rfl⟩⟩)|(go_at_call 33;(with_reducible refine (Va.calls (Ba.length:Int) 1 6000 t107 _ pM.out).mono ?_);rintro e w' ⟨rfl,⟨nd,rfl⟩⟩))
        go_meet
        case rel=>exact ⟨_,(!t107),(by first|rfl|(simp;done)|(simp [*];done)),H',⟨by have:=Lg.out;first|omega|exact Nat.le_refl _⟩,⟨by (with_reducible repeat (first|refine Ca ?_ _|refine Ea ?_|refine Da ?_ _));exact ya.out⟩,⟨by repeat (first|(with_reducible first|exact HB.out|apply ia|apply aa|apply qa|refine ua ?_ Ua.out)|exact HB.out)⟩⟩
       ·replace c16:=Bool.eq_false_iff.mpr c16;subst c16;have H1:(Ma.j1 k1 (Ba.length:Int) true Qa Oa Pa Ba)=some r:=by rw [if_neg (show ¬ (false=true) by decide)] at H;exact H
        clear H;have H:=H1;clear H1;have H':=oa.mk H;clear H;have Qo:wr.cell? ⟨Fa,0,none⟩=some (.slice yb Qa.length xb):=(ja ya.out 0).trans rfl;have Po:wr.cell? ⟨Fa,1,none⟩=some (.int .i64 Oa):=(ja ya.out 1).trans rfl;have Oo:wr.cell? ⟨Fa,2,none⟩=some (.int .i64 Pa):=(ja ya.out 2).trans rfl;have Mo:wr.cell? ⟨Fa,3,none⟩=some (.slice Db Ba.length zb):=(ja ya.out 3).trans rfl;have ko:=ga ya.out 0;have jo:=ga ya.out 1;have fo:=ga ya.out 2;have eo:=ga ya.out 3;go_wp2_with (first|((with_reducible refine Lb (f:=33) rfl ?_);refine Xc (some 26) rfl rfl Tryd.func33 (by kernel_rfl) rfl #[.int .i64 (Qa.length:Int),.int .i64 1,.int .i64 4] rfl (by (try simp only [List.map_toArray,List.map_cons,List.map_nil]);first|done|rfl|(simp only [List.length_drop,List.length_take];rfl)) ?_;(with_reducible refine (Va.calls (Qa.length:Int) 1 4 true _ dH.out).mono ?_);rintro e w' ⟨rfl,⟨nd,rfl⟩⟩;refine ⟨_,rfl,?_⟩)|(go_at_call 33;(with_reducible refine (Va.calls Oa 0 6 true _ RA.out).mono ?_);rintro e w' ⟨rfl,⟨nd,rfl⟩⟩)|(go_at_call 33;(with_reducible refine (Va.calls Pa Oa 1000 false _ bL.out).mono ?_);rintro e w' ⟨rfl,⟨nd,rfl⟩⟩))
        go_meet
        case rel=>exact ⟨_,(true),(by first|rfl|(simp;done)|(simp [*];done)),H',⟨by have:=Lg.out;first|omega|exact Nat.le_refl _⟩,⟨by (with_reducible repeat (first|refine Ca ?_ _|refine Ea ?_|refine Da ?_ _));exact ya.out⟩,⟨by repeat (first|(with_reducible first|exact HB.out|apply ia|apply aa|apply qa|refine ua ?_ Ua.out)|exact HB.out)⟩⟩
      ·replace c14:=Bool.eq_false_iff.mpr c14;subst c14;have H1:(Ma.j1 k1 (Ba.length:Int) true Qa Oa Pa Ba)=some r:=by rw [if_neg (show ¬ (false=true) by decide)] at H;exact H
       clear H;have H:=H1;clear H1;have H':=oa.mk H;clear H;have Di:wr.cell? ⟨Fa,0,none⟩=some (.slice yb Qa.length xb):=(ja ya.out 0).trans rfl;have Ci:wr.cell? ⟨Fa,1,none⟩=some (.int .i64 Oa):=(ja ya.out 1).trans rfl;have Bi:wr.cell? ⟨Fa,2,none⟩=some (.int .i64 Pa):=(ja ya.out 2).trans rfl;have Ai:wr.cell? ⟨Fa,3,none⟩=some (.slice Db Ba.length zb):=(ja ya.out 3).trans rfl;have ki:=ga ya.out 0;have ji:=ga ya.out 1;have ei:=ga ya.out 2;have di:=ga ya.out 3;go_wp2_with (first|((with_reducible refine Lb (f:=33) rfl ?_);refine Xc (some 26) rfl rfl Tryd.func33 (by kernel_rfl) rfl #[.int .i64 (Qa.length:Int),.int .i64 1,.int .i64 4] rfl (by (try simp only [List.map_toArray,List.map_cons,List.map_nil]);first|done|rfl|(simp only [List.length_drop,List.length_take];rfl)) ?_;(with_reducible refine (Va.calls (Qa.length:Int) 1 4 true _ dH.out).mono ?_);rintro e w' ⟨rfl,⟨nd,rfl⟩⟩;refine ⟨_,rfl,?_⟩)|(go_at_call 33;(with_reducible refine (Va.calls Oa 0 6 false _ RA.out).mono ?_);rintro e w' ⟨rfl,⟨nd,rfl⟩⟩))
       go_meet
       case rel=>exact ⟨_,(true),(by first|rfl|(simp;done)|(simp [*];done)),H',⟨by have:=Lg.out;first|omega|exact Nat.le_refl _⟩,⟨by (with_reducible repeat (first|refine Ca ?_ _|refine Ea ?_|refine Da ?_ _));exact ya.out⟩,⟨by repeat (first|(with_reducible first|exact HB.out|apply ia|apply aa|apply qa|refine ua ?_ Ua.out)|exact HB.out)⟩⟩
     ·replace c12:=Bool.eq_false_iff.mpr c12;subst c12;have H1:(Ma.j1 k1 (Ba.length:Int) true Qa Oa Pa Ba)=some r:=by rw [if_neg (show ¬ (false=true) by decide)] at H;exact H
      clear H;have H:=H1;clear H1;have H':=oa.mk H;clear H;have ek:wr.cell? ⟨Fa,0,none⟩=some (.slice yb Qa.length xb):=(ja ya.out 0).trans rfl;have ck:wr.cell? ⟨Fa,1,none⟩=some (.int .i64 Oa):=(ja ya.out 1).trans rfl;have ak:wr.cell? ⟨Fa,2,none⟩=some (.int .i64 Pa):=(ja ya.out 2).trans rfl;have Zj:wr.cell? ⟨Fa,3,none⟩=some (.slice Db Ba.length zb):=(ja ya.out 3).trans rfl;have Tj:=ga ya.out 0;have Sj:=ga ya.out 1;have Rj:=ga ya.out 2;have Qj:=ga ya.out 3;go_wp2_with (first|((with_reducible refine Lb (f:=33) rfl ?_);refine Xc (some 26) rfl rfl Tryd.func33 (by kernel_rfl) rfl #[.int .i64 (Qa.length:Int),.int .i64 1,.int .i64 4] rfl (by (try simp only [List.map_toArray,List.map_cons,List.map_nil]);first|done|rfl|(simp only [List.length_drop,List.length_take];rfl)) ?_;(with_reducible refine (Va.calls (Qa.length:Int) 1 4 false _ dH.out).mono ?_);rintro e w' ⟨rfl,⟨nd,rfl⟩⟩;refine ⟨_,rfl,?_⟩))
      go_meet
      case rel=>exact ⟨_,(true),(by first|rfl|(simp;done)|(simp [*];done)),H',⟨by have:=Lg.out;first|omega|exact Nat.le_refl _⟩,⟨by (with_reducible repeat (first|refine Ca ?_ _|refine Ea ?_|refine Da ?_ _));exact ya.out⟩,⟨by repeat (first|(with_reducible first|exact HB.out|apply ia|apply aa|apply qa|refine ua ?_ Ua.out)|exact HB.out)⟩⟩
    case rest =>
     clear oI
     try clear c1
     try clear p1
     try clear q1
     try clear hx1
     try clear c2
     try clear p2
     try clear c3
     try clear Ag
     try clear c4
     try clear Li
     try clear c6
     try clear p6
     try clear Rz
     try clear Oz
     try clear iB
     try clear c12
     try clear c14
     try clear c16
     try clear Hi
     try clear Gi
     try clear Fi
     try clear Ei
     try clear tg
     try clear sg
     try clear qg
     try clear pg
     try clear Qo
     try clear Po
     try clear Oo
     try clear Mo
     try clear Di
     try clear Ci
     try clear Bi
     try clear Ai
     try clear ek
     try clear ck
     try clear ak
     try clear Zj
     try clear br
     try clear Zq
     try clear Yq
     try clear Xq
     try clear vo
     try clear uo
     try clear qo
     try clear oo
     try clear zi
     try clear si
     try clear qi
     try clear ni
     try clear ng
     try clear mg
     try clear lg
     try clear kg
     try clear ko
     try clear jo
     try clear fo
     try clear eo
     try clear ki
     try clear ji
     try clear ei
     try clear di
     try clear Tj
     try clear Sj
     try clear Rj
     try clear Qj
     try clear Rq
     try clear Qq
     try clear Pq
     try clear Oq
     try clear Kn
     try clear Jn
     try clear Gn
     try clear En
     try clear Gd
     try clear Nf
     try clear p2
     try clear Mf
     obtain ⟨kq,Kr,rfl,HA,RK,ya,HB⟩:=hcut;cases kq with
     | zero=>exact absurd HA.out (by simp [Ma.j1])
     | succ lH =>
      have H:=HA.out;clear HA;simp only [Ma.j1] at H
      by_cases Cr:Kr=true
      ·subst Cr;have H1:(some false)=some r:=by rw [if_pos rfl] at H;exact H
       clear H;have H:=H1;clear H1;obtain rfl:=Option.some.inj H;go_wp2;go_ret;exact ⟨by first|rfl|(simp [Ja,Ia] <;> rfl)|(simp [*,Ja,Ia] <;> rfl),by repeat (first|(with_reducible first|exact HB.out|apply ia|apply aa|apply qa|refine ua ?_ Ua.out)|exact HB.out)⟩
      ·replace Cr:=Bool.eq_false_iff.mpr Cr;subst Cr;have H1:(Ma.l1 lH (Ba.length:Int) 0 Qa Oa Pa Ba)=some r:=by rw [if_neg (show ¬ (false=true) by decide)] at H;exact H
       clear H;have H:=H1;clear H1;have H':=oa.mk H;clear H;go_wp2
       go_loopg [5] lH (fun kq v5 w'=>∃ (Sc:Int),v5 = .int .i64 Sc∧oa (Ma.l1 kq (Ba.length:Int) Sc Qa Oa Pa Ba=some r)∧oa (kq ≤ lH)∧oa (w'.heap[Fa]? = some (.cells #[(.slice yb Qa.length xb),.int .i64 Oa,.int .i64 Pa,(.slice Db Ba.length zb)] 37 (0,0)))∧oa (Below w.heap.size w w'))
       case atStart=>exact ⟨(0),(by first|rfl|(simp;done)|(simp [*];done)),H',⟨Nat.le_refl _⟩,⟨by (with_reducible repeat (first|refine Ca ?_ _|refine Ea ?_|refine Da ?_ _));exact ya.out⟩,⟨by repeat (first|(with_reducible first|exact HB.out|apply ia|apply aa|apply qa|refine ua ?_ Ua.out)|exact HB.out)⟩⟩
       case round =>
        clear H'
        try clear c1
        try clear p1
        try clear q1
        try clear hx1
        try clear c2
        try clear p2
        try clear c3
        try clear Ag
        try clear c4
        try clear Li
        try clear c6
        try clear p6
        try clear Rz
        try clear Oz
        try clear iB
        try clear c12
        try clear c14
        try clear c16
        try clear Cr
        try clear Hi
        try clear Gi
        try clear Fi
        try clear Ei
        try clear tg
        try clear sg
        try clear qg
        try clear pg
        try clear Qo
        try clear Po
        try clear Oo
        try clear Mo
        try clear Di
        try clear Ci
        try clear Bi
        try clear Ai
        try clear ek
        try clear ck
        try clear ak
        try clear Zj
        try clear br
        try clear Zq
        try clear Yq
        try clear Xq
        try clear vo
        try clear uo
        try clear qo
        try clear oo
        try clear zi
        try clear si
        try clear qi
        try clear ni
        try clear ng
        try clear mg
        try clear lg
        try clear kg
        try clear ko
        try clear jo
        try clear fo
        try clear eo
        try clear ki
        try clear ji
        try clear ei
        try clear di
        try clear Tj
        try clear Sj
        try clear Rj
        try clear Qj
        try clear Rq
        try clear Qq
        try clear Pq
        try clear Oq
        try clear Kn
        try clear Jn
        try clear Gn
        try clear En
        try clear Gd
        try clear p1
        try clear Rz
        try clear Nf
        try clear p2
        try clear p6
        try clear q1
        try clear Oz
        try clear Mf
        (try clear HA);(try clear nI);(try clear ya);(try clear HB);obtain ⟨Sc,rfl,HA,nI,ya,HB⟩:=hrel;cases gk with
        | zero=>exact absurd HA.out (by simp [Ma.l1])
        | succ k3 =>
         have H:=HA.out;clear HA;simp only [Ma.l1] at H
         by_cases vu:Sc < (Ba.length:Int)
         ·rw [if_pos vu] at H;have iz:decide (Sc < (Ba.length:Int))=true:=decide_eq_true vu;clear vu
          by_cases Br:0 ≤ Sc
          ·rw [if_pos Br] at H;have xk:decide (0 ≤ Sc)=true:=decide_eq_true Br;clear Br
           by_cases yp:Sc < (Ba.length:Int)
           ·rw [if_pos yp] at H;have mC:decide (Sc < (Ba.length:Int))=true:=decide_eq_true yp;clear yp;replace H:=Option.bind_eq_some_iff.mp H;obtain ⟨t109,bD,H⟩:=H;replace H:(if t109=true then (Ma.l1 k3 (Ba.length:Int) (wrap64 (Sc + 1)) Qa Oa Pa Ba) else (some false))=some r:=H;have aL:=oa.mk bD;clear bD
            by_cases vv:t109=true
            ·subst vv;have H1:(Ma.l1 k3 (Ba.length:Int) (wrap64 (Sc + 1)) Qa Oa Pa Ba)=some r:=by rw [if_pos rfl] at H;exact H
             clear H;have H:=H1;clear H1;have H':=oa.mk H;clear H
             try go_wp2
             have Tb:=oa.mk (Ea ya.out);have Xb:=oa.mk (qa HB.out);clear ya HB;have ya:=Tb;have HB:=Xb;clear Tb Xb;have yq:0 ≤ (Sc:Int):=of_decide_eq_true (by first|(with_reducible assumption)|assumption);have vq:Sc < (Ba.length:Int):=of_decide_eq_true (by first|(with_reducible assumption)|assumption);obtain ⟨ye,tA,Wf,Vf,Uf,Tf,Rf⟩:=Df Vd.out Sc yq vq;have Aj:=Rf;have Bj:=Tf;have Cj:=Uf;have Dj:=Vf;have Ej:=Wf;cases tA;replace Wf:=Ra HB.out Wf;replace Vf:=Ra HB.out Vf;replace Uf:=Ra HB.out Uf;replace Tf:=Ra HB.out Tf;replace Rf:=Ra HB.out Rf;replace yq:=eq_true yq;replace vq:=eq_true vq;refine Ui (n:=8) (S:=fun w'=>w'.cell? ⟨Fa,0,none⟩=some (.slice yb Qa.length xb)∧w'.cell? ⟨Fa,1,none⟩=some (.int .i64 Oa)∧w'.cell? ⟨Fa,2,none⟩=some (.int .i64 Pa)∧w'.cell? ⟨Fa,3,none⟩=some (.slice (some ye) Ba.length zb)∧w'.cell? (ye.add ((Sc).toNat * 5))=some (.int .i64 ((za Ba Sc).f0))∧w'.cell? ⟨(ye.add ((Sc).toNat * 5)).block,(ye.add ((Sc).toNat * 5)).off + 1,none⟩=some (.int .i64 ((za Ba Sc).f1))∧w'.cell? ⟨(ye.add ((Sc).toNat * 5)).block,(ye.add ((Sc).toNat * 5)).off + 2,none⟩=some (.int .i64 ((za Ba Sc).f2))∧w'.cell? ⟨(ye.add ((Sc).toNat * 5)).block,(ye.add ((Sc).toNat * 5)).off + 3,none⟩=some (.int .i64 ((za Ba Sc).f3))∧w'.cell? ⟨(ye.add ((Sc).toNat * 5)).block,(ye.add ((Sc).toNat * 5)).off + 4,none⟩=some (.int .i64 ((za Ba Sc).f4))) (ds:=[]) #[false,false,false,false,false,false,false,false] (by kernel_rfl) rfl rfl ⟨(ja ya.out 0).trans rfl,(ja ya.out 1).trans rfl,(ja ya.out 2).trans rfl,(ja ya.out 3).trans rfl,(Ra HB.out Ej),(Ra HB.out Dj),(Ra HB.out Cj),(Ra HB.out Bj),(Ra HB.out Aj)⟩ (fun hHeld=>?_);refine ug Ma.Ay Ma.Bv (fun Md um=>?_);generalize wr.drew=eL at ya HB Wf Vf Uf Tf Rf hHeld ⊢;refine Gc (i:=1) (N:=some 53) (v:=?_) (a':=?_) #[false,true,false,false,false,false,false,false] rfl rfl (fc Md.out (by kernel_rfl)) (fun _ _ _ h=>h) (Or.inl ⟨by rfl,?_⟩) ?_ ?_;rotate_left
             ·intro w';go_simp;with_reducible rfl
             rotate_left
             ·simp only [Act.put,List.setIfInBounds_toArray,List.set_cons_zero,List.set_cons_succ,Kb,Mb]
              rfl
             refine Gc (i:=3) (N:=some 55) (v:=?_) (a':=?_) #[false,true,false,true,false,false,false,false] rfl rfl (fc Md.out (by kernel_rfl)) (fun _ _ _ h=>h) (Or.inl ⟨by rfl,?_⟩) ?_ ?_;rotate_left
             ·intro w';go_simp;with_reducible rfl
             rotate_left
             ·simp only [Act.put,List.setIfInBounds_toArray,List.set_cons_zero,List.set_cons_succ,Kb,Mb]
              rfl
             refine Le (i:=0) (N:=some 52) (v:=?_) (a':=?_) #[true,true,false,true,false,false,false,false] rfl rfl (ud Md.out um.out (by kernel_rfl)) (fun _ _ _ h=>h) (Or.inl ⟨by rfl,?_⟩) hHeld ?_ ?_;rotate_left
             ·rintro w' ⟨s0,s1,s2,s3,s4,s5,s6,s7,s8⟩;go_simp;with_reducible rfl
             rotate_left
             ·simp only [Act.put,List.setIfInBounds_toArray,List.set_cons_zero,List.set_cons_succ,Kb,Mb]
              rfl
             refine Le (i:=2) (N:=some 54) (v:=?_) (a':=?_) #[true,true,true,true,false,false,false,false] rfl rfl (ud Md.out um.out (by kernel_rfl)) (fun _ _ _ h=>h) (Or.inl ⟨by rfl,?_⟩) hHeld ?_ ?_;rotate_left
             ·rintro w' ⟨s0,s1,s2,s3,s4,s5,s6,s7,s8⟩;go_simp;with_reducible rfl
             rotate_left
             ·simp only [Act.put,List.setIfInBounds_toArray,List.set_cons_zero,List.set_cons_succ,Kb,Mb]
              rfl
             refine Gc (i:=4) (N:=some 56) (v:=?_) (a':=?_) #[true,true,true,true,true,false,false,false] rfl rfl (fc Md.out (by kernel_rfl)) (fun _ _ _ h=>h) (Or.inl ⟨by rfl,?_⟩) ?_ ?_;rotate_left
             ·intro w';go_simp;with_reducible rfl
             rotate_left
             ·simp only [Act.put,List.setIfInBounds_toArray,List.set_cons_zero,List.set_cons_succ,Kb,Mb]
              rfl
             refine Le (i:=5) (N:=some 57) (v:=?_) (a':=?_) #[true,true,true,true,true,true,false,false] rfl rfl (ud Md.out um.out (by kernel_rfl)) (fun _ _ _ h=>h) (Or.inl ⟨by rfl,?_⟩) hHeld ?_ ?_;rotate_left
             ·rintro w' ⟨s0,s1,s2,s3,s4,s5,s6,s7,s8⟩;go_simp;with_reducible rfl
             rotate_left
             ·simp only [Act.put,List.setIfInBounds_toArray,List.set_cons_zero,List.set_cons_succ,Kb,Mb]
              rfl
             refine Zk (i:=6) (N:=some 58) #[true,true,true,true,true,true,true,false] rfl rfl (Ig Md.out (by kernel_rfl)) (by decide) (fun K hK=>?_);refine Gh Tryd.func34 (by kernel_rfl) rfl #[.agg #[.slice yb Qa.length xb,.int .i64 Oa,.int .i64 Pa,.slice (some ye) Ba.length zb],.agg #[.int .i64 ((za Ba Sc).f0),.int .i64 ((za Ba Sc).f1),.int .i64 ((za Ba Sc).f2),.int .i64 ((za Ba Sc).f3),.int .i64 ((za Ba Sc).f4)]] (by rfl) rfl rfl (by (try simp only [List.map_toArray,List.map_cons,List.map_nil]);first|done|rfl|(simp only [List.length_drop,List.length_take];rfl)) ?_;with_reducible refine (Sa.calls k3 _ _ Qa Oa Pa _ _ Ba ((za Ba Sc).f0) ((za Ba Sc).f1) ((za Ba Sc).f2) ((za Ba Sc).f3) ((za Ba Sc).f4) true _ ?Jc ?Ic ?ld ?jd aL.out).mono ?_
             (case Jc=>repeat (first|exact (Kd.Sb Xd.out HB.out)|(with_reducible refine Kd.Wb ?_ _)|(with_reducible refine Kd.Vb ?_ _)|(with_reducible refine Kd.Bc ?_)))
             (case Ic=>exact qe.out)
             (case ld=>repeat (first|exact (Kd.Sb Vd.out HB.out)|(with_reducible refine Kd.Wb ?_ _)|(with_reducible refine Kd.Vb ?_ _)|(with_reducible refine Kd.Bc ?_)))
             (case jd=>exact Qe.out)
             rintro e Du ⟨rfl,hb⟩;refine ⟨_,rfl,?_⟩;have Tb:=oa.mk (jb (g:=Fa) (o:=.cells #[.slice yb Qa.length xb,.int .i64 Oa,.int .i64 Pa,.slice (some ye) Ba.length zb] 37 (0,0)) (by (with_reducible repeat (first|refine Ca ?_ _|refine Ea ?_|refine Da ?_ _));exact ya.out) hb);have Xb:=oa.mk (Ta (by repeat (first|(with_reducible first|exact HB.out|apply ia|apply aa|apply qa|refine ua ?_ Ua.out)|exact HB.out)) hb);clear ya HB;have ya:=Tb;have HB:=Xb;clear Tb Xb;(try clear hb);(try clear hb2);(try clear hk);(try clear hi);refine hK.out _ _ ⟨(ja ya.out 0).trans rfl,(ja ya.out 1).trans rfl,(ja ya.out 2).trans rfl,(ja ya.out 3).trans rfl,(Ra HB.out Ej),(Ra HB.out Dj),(Ra HB.out Cj),(Ra HB.out Bj),(Ra HB.out Aj)⟩ (fun hHeld=>?_);clear hK K;refine Fh (a':=?_) ?_ ?_;rotate_left
             ·show Act.put _ (some 58) _=_
              simp only [Act.put,List.setIfInBounds_toArray,List.set_cons_zero,List.set_cons_succ,Kb,Mb]
              rfl
             refine Gc (i:=7) (N:=some 59) (v:=?_) (a':=?_) #[true,true,true,true,true,true,true,true] rfl rfl (fc Md.out (by kernel_rfl)) (fun _ _ _ h=>h) (Or.inl ⟨by rfl,?_⟩) ?_ ?_;rotate_left
             ·intro w';go_simp;with_reducible rfl
             rotate_left
             ·simp only [Act.put,List.setIfInBounds_toArray,List.set_cons_zero,List.set_cons_succ,Kb,Mb]
              rfl
             refine gm (Ji Md.out (by kernel_rfl)) ?_
             try go_wp2
             go_roundg k3
             case measure=>have:=Lg.out;have:=RK.out;have:=nI.out;omega
             case rel=>exact ⟨(wrap64 (Sc + 1)),(by first|rfl|(simp;done)|(simp [*];done)),H',⟨by have:=Lg.out;have:=RK.out;have:=nI.out;omega⟩,⟨by (with_reducible repeat (first|refine Ca ?_ _|refine Ea ?_|refine Da ?_ _));exact ya.out⟩,⟨by repeat (first|(with_reducible first|exact HB.out|apply ia|apply aa|apply qa|refine ua ?_ Ua.out)|exact HB.out)⟩⟩
            ·replace vv:=Bool.eq_false_iff.mpr vv;subst vv;have H1:(some false)=some r:=by rw [if_neg (show ¬ (false=true) by decide)] at H;exact H
             clear H;have H:=H1;clear H1;obtain rfl:=Option.some.inj H
             try go_wp2
             have Tb:=oa.mk (Ea ya.out);have Xb:=oa.mk (qa HB.out);clear ya HB;have ya:=Tb;have HB:=Xb;clear Tb Xb;have yq:0 ≤ (Sc:Int):=of_decide_eq_true (by first|(with_reducible assumption)|assumption);have vq:Sc < (Ba.length:Int):=of_decide_eq_true (by first|(with_reducible assumption)|assumption);obtain ⟨ye,tA,Wf,Vf,Uf,Tf,Rf⟩:=Df Vd.out Sc yq vq;have Aj:=Rf;have Bj:=Tf;have Cj:=Uf;have Dj:=Vf;have Ej:=Wf;cases tA;replace Wf:=Ra HB.out Wf;replace Vf:=Ra HB.out Vf;replace Uf:=Ra HB.out Uf;replace Tf:=Ra HB.out Tf;replace Rf:=Ra HB.out Rf;replace yq:=eq_true yq;replace vq:=eq_true vq;refine Ui (n:=8) (S:=fun w'=>w'.cell? ⟨Fa,0,none⟩=some (.slice yb Qa.length xb)∧w'.cell? ⟨Fa,1,none⟩=some (.int .i64 Oa)∧w'.cell? ⟨Fa,2,none⟩=some (.int .i64 Pa)∧w'.cell? ⟨Fa,3,none⟩=some (.slice (some ye) Ba.length zb)∧w'.cell? (ye.add ((Sc).toNat * 5))=some (.int .i64 ((za Ba Sc).f0))∧w'.cell? ⟨(ye.add ((Sc).toNat * 5)).block,(ye.add ((Sc).toNat * 5)).off + 1,none⟩=some (.int .i64 ((za Ba Sc).f1))∧w'.cell? ⟨(ye.add ((Sc).toNat * 5)).block,(ye.add ((Sc).toNat * 5)).off + 2,none⟩=some (.int .i64 ((za Ba Sc).f2))∧w'.cell? ⟨(ye.add ((Sc).toNat * 5)).block,(ye.add ((Sc).toNat * 5)).off + 3,none⟩=some (.int .i64 ((za Ba Sc).f3))∧w'.cell? ⟨(ye.add ((Sc).toNat * 5)).block,(ye.add ((Sc).toNat * 5)).off + 4,none⟩=some (.int .i64 ((za Ba Sc).f4))) (ds:=[]) #[false,false,false,false,false,false,false,false] (by kernel_rfl) rfl rfl ⟨(ja ya.out 0).trans rfl,(ja ya.out 1).trans rfl,(ja ya.out 2).trans rfl,(ja ya.out 3).trans rfl,(Ra HB.out Ej),(Ra HB.out Dj),(Ra HB.out Cj),(Ra HB.out Bj),(Ra HB.out Aj)⟩ (fun hHeld=>?_);refine ug Ma.Ay Ma.Bv (fun Md um=>?_);generalize wr.drew=vI at ya HB Wf Vf Uf Tf Rf hHeld ⊢;refine Gc (i:=1) (N:=some 53) (v:=?_) (a':=?_) #[false,true,false,false,false,false,false,false] rfl rfl (fc Md.out (by kernel_rfl)) (fun _ _ _ h=>h) (Or.inl ⟨by rfl,?_⟩) ?_ ?_;rotate_left
             ·intro w';go_simp;with_reducible rfl
             rotate_left
             ·simp only [Act.put,List.setIfInBounds_toArray,List.set_cons_zero,List.set_cons_succ,Kb,Mb]
              rfl
             refine Gc (i:=3) (N:=some 55) (v:=?_) (a':=?_) #[false,true,false,true,false,false,false,false] rfl rfl (fc Md.out (by kernel_rfl)) (fun _ _ _ h=>h) (Or.inl ⟨by rfl,?_⟩) ?_ ?_;rotate_left
             ·intro w';go_simp;with_reducible rfl
             rotate_left
             ·simp only [Act.put,List.setIfInBounds_toArray,List.set_cons_zero,List.set_cons_succ,Kb,Mb]
              rfl
             refine Le (i:=0) (N:=some 52) (v:=?_) (a':=?_) #[true,true,false,true,false,false,false,false] rfl rfl (ud Md.out um.out (by kernel_rfl)) (fun _ _ _ h=>h) (Or.inl ⟨by rfl,?_⟩) hHeld ?_ ?_;rotate_left
             ·rintro w' ⟨s0,s1,s2,s3,s4,s5,s6,s7,s8⟩;go_simp;with_reducible rfl
             rotate_left
             ·simp only [Act.put,List.setIfInBounds_toArray,List.set_cons_zero,List.set_cons_succ,Kb,Mb]
              rfl
             refine Le (i:=2) (N:=some 54) (v:=?_) (a':=?_) #[true,true,true,true,false,false,false,false] rfl rfl (ud Md.out um.out (by kernel_rfl)) (fun _ _ _ h=>h) (Or.inl ⟨by rfl,?_⟩) hHeld ?_ ?_;rotate_left
             ·rintro w' ⟨s0,s1,s2,s3,s4,s5,s6,s7,s8⟩;go_simp;with_reducible rfl
             rotate_left
             ·simp only [Act.put,List.setIfInBounds_toArray,List.set_cons_zero,List.set_cons_succ,Kb,Mb]
              rfl
             refine Gc (i:=4) (N:=some 56) (v:=?_) (a':=?_) #[true,true,true,true,true,false,false,false] rfl rfl (fc Md.out (by kernel_rfl)) (fun _ _ _ h=>h) (Or.inl ⟨by rfl,?_⟩) ?_ ?_;rotate_left
             ·intro w';go_simp;with_reducible rfl
             rotate_left
             ·simp only [Act.put,List.setIfInBounds_toArray,List.set_cons_zero,List.set_cons_succ,Kb,Mb]
              rfl
             refine Le (i:=5) (N:=some 57) (v:=?_) (a':=?_) #[true,true,true,true,true,true,false,false] rfl rfl (ud Md.out um.out (by kernel_rfl)) (fun _ _ _ h=>h) (Or.inl ⟨by rfl,?_⟩) hHeld ?_ ?_;rotate_left
             ·rintro w' ⟨s0,s1,s2,s3,s4,s5,s6,s7,s8⟩;go_simp;with_reducible rfl
             rotate_left
             ·simp only [Act.put,List.setIfInBounds_toArray,List.set_cons_zero,List.set_cons_succ,Kb,Mb]
              rfl
             refine Zk (i:=6) (N:=some 58) #[true,true,true,true,true,true,true,false] rfl rfl (Ig Md.out (by kernel_rfl)) (by decide) (fun K hK=>?_);refine Gh Tryd.func34 (by kernel_rfl) rfl #[.agg #[.slice yb Qa.length xb,.int .i64 Oa,.int .i64 Pa,.slice (some ye) Ba.length zb],.agg #[.int .i64 ((za Ba Sc).f0),.int .i64 ((za Ba Sc).f1),.int .i64 ((za Ba Sc).f2),.int .i64 ((za Ba Sc).f3),.int .i64 ((za Ba Sc).f4)]] (by rfl) rfl rfl (by (try simp only [List.map_toArray,List.map_cons,List.map_nil]);first|done|rfl|(simp only [List.length_drop,List.length_take];rfl)) ?_;with_reducible refine (Sa.calls k3 _ _ Qa Oa Pa _ _ Ba ((za Ba Sc).f0) ((za Ba Sc).f1) ((za Ba Sc).f2) ((za Ba Sc).f3) ((za Ba Sc).f4) false _ ?Jc ?Ic ?ld ?jd aL.out).mono ?_
             (case Jc=>repeat (first|exact (Kd.Sb Xd.out HB.out)|(with_reducible refine Kd.Wb ?_ _)|(with_reducible refine Kd.Vb ?_ _)|(with_reducible refine Kd.Bc ?_)))
             (case Ic=>exact qe.out)
             (case ld=>repeat (first|exact (Kd.Sb Vd.out HB.out)|(with_reducible refine Kd.Wb ?_ _)|(with_reducible refine Kd.Vb ?_ _)|(with_reducible refine Kd.Bc ?_)))
             (case jd=>exact Qe.out)
             rintro e uI ⟨rfl,hb⟩;refine ⟨_,rfl,?_⟩;have Tb:=oa.mk (jb (g:=Fa) (o:=.cells #[.slice yb Qa.length xb,.int .i64 Oa,.int .i64 Pa,.slice (some ye) Ba.length zb] 37 (0,0)) (by (with_reducible repeat (first|refine Ca ?_ _|refine Ea ?_|refine Da ?_ _));exact ya.out) hb);have Xb:=oa.mk (Ta (by repeat (first|(with_reducible first|exact HB.out|apply ia|apply aa|apply qa|refine ua ?_ Ua.out)|exact HB.out)) hb);clear ya HB;have ya:=Tb;have HB:=Xb;clear Tb Xb;(try clear hb);(try clear hb2);(try clear hk);(try clear hi);refine hK.out _ _ ⟨(ja ya.out 0).trans rfl,(ja ya.out 1).trans rfl,(ja ya.out 2).trans rfl,(ja ya.out 3).trans rfl,(Ra HB.out Ej),(Ra HB.out Dj),(Ra HB.out Cj),(Ra HB.out Bj),(Ra HB.out Aj)⟩ (fun hHeld=>?_);clear hK K;refine Fh (a':=?_) ?_ ?_;rotate_left
             ·show Act.put _ (some 58) _=_
              simp only [Act.put,List.setIfInBounds_toArray,List.set_cons_zero,List.set_cons_succ,Kb,Mb]
              rfl
             refine Gc (i:=7) (N:=some 59) (v:=?_) (a':=?_) #[true,true,true,true,true,true,true,true] rfl rfl (fc Md.out (by kernel_rfl)) (fun _ _ _ h=>h) (Or.inl ⟨by rfl,?_⟩) ?_ ?_;rotate_left
             ·intro w';go_simp;with_reducible rfl
             rotate_left
             ·simp only [Act.put,List.setIfInBounds_toArray,List.set_cons_zero,List.set_cons_succ,Kb,Mb]
              rfl
             refine gm (Ji Md.out (by kernel_rfl)) ?_
             try go_wp2
             go_ret;exact ⟨by first|rfl|(simp [Ja,Ia] <;> rfl)|(simp [*,Ja,Ia] <;> rfl),by repeat (first|(with_reducible first|exact HB.out|apply ia|apply aa|apply qa|refine ua ?_ Ua.out)|exact HB.out)⟩
           ·rw [if_neg yp] at H;exact absurd H (by simp)
          ·rw [if_neg Br] at H;exact absurd H (by simp)
         ·rw [if_neg vu] at H;have iz:decide (Sc < (Ba.length:Int))=false:=decide_eq_false vu;clear vu;obtain ⟨yg,Xp⟩:∃ j_:Int,(wrap64 ((Ba.length:Int) - 1))=j_:=⟨_,rfl⟩;replace H:(if 0 ≤ (yg) then (if (yg) < (Ba.length:Int) then (if ((za Ba (yg)).f0)=10 then (some true) else (some (((za Ba (yg)).f0) == 8))) else (none)) else (none))=some r:=by first|(rw [Xp] at H;exact H)|(simp only [Xp] at H ⊢;exact H)
          have yH:(IntKind.i64.wrap ((Ba.length:Int) - 1))=yg:=(Kb _).trans Xp
          by_cases tv:0 ≤ (yg)
          ·rw [if_pos tv] at H;have WJ:decide (0 ≤ (yg))=true:=decide_eq_true tv;clear tv
           by_cases fq:(yg) < (Ba.length:Int)
           ·rw [if_pos fq] at H;have jC:decide ((yg) < (Ba.length:Int))=true:=decide_eq_true fq;clear fq
            by_cases Pt:((za Ba (yg)).f0)=10
            ·rw [if_pos Pt] at H;have ez:(((za Ba (yg)).f0) == 10)=true:=beq_iff_eq.mpr Pt;have dz:(((za Ba (yg)).f0) != 10)=false:=bne_eq_false_iff_eq.mpr Pt;clear Pt;obtain rfl:=Option.some.inj H;have Et:wr.cell? ⟨Fa,0,none⟩=some (.slice yb Qa.length xb):=(ja ya.out 0).trans rfl;have Dt:wr.cell? ⟨Fa,1,none⟩=some (.int .i64 Oa):=(ja ya.out 1).trans rfl;have Ct:wr.cell? ⟨Fa,2,none⟩=some (.int .i64 Pa):=(ja ya.out 2).trans rfl;have Bt:wr.cell? ⟨Fa,3,none⟩=some (.slice Db Ba.length zb):=(ja ya.out 3).trans rfl;have Ss:=ga ya.out 0;have Rs:=ga ya.out 1;have Qs:=ga ya.out 2;have Ns:=ga ya.out 3;have xq:0 ≤ ((yg):Int):=of_decide_eq_true (by first|(with_reducible assumption)|assumption);have uq:(yg) < (Ba.length:Int):=of_decide_eq_true (by first|(with_reducible assumption)|assumption);obtain ⟨rz,rA,yj,xj,wj,uj,tj⟩:=Df Vd.out (yg) xq uq;cases rA;replace yj:=Ra HB.out yj;replace xj:=Ra HB.out xj;replace wj:=Ra HB.out wj;replace uj:=Ra HB.out uj;replace tj:=Ra HB.out tj;replace xq:=eq_true xq;replace uq:=eq_true uq;go_wp2;go_ret;exact ⟨by first|rfl|(simp [Ja,Ia] <;> rfl)|(simp only [← Xp];first|rfl|(simp [Ja,Ia] <;> rfl))|(simp [*,Ja,Ia] <;> rfl),by repeat (first|(with_reducible first|exact HB.out|apply ia|apply aa|apply qa|refine ua ?_ Ua.out)|exact HB.out)⟩
            ·rw [if_neg Pt] at H;have ez:(((za Ba (yg)).f0) == 10)=false:=beq_eq_false_iff_ne.mpr Pt;have dz:(((za Ba (yg)).f0) != 10)=true:=bne_iff_ne.mpr Pt;obtain rfl:=Option.some.inj H;have Ox:wr.cell? ⟨Fa,0,none⟩=some (.slice yb Qa.length xb):=(ja ya.out 0).trans rfl;have Nx:wr.cell? ⟨Fa,1,none⟩=some (.int .i64 Oa):=(ja ya.out 1).trans rfl;have Mx:wr.cell? ⟨Fa,2,none⟩=some (.int .i64 Pa):=(ja ya.out 2).trans rfl;have Lx:wr.cell? ⟨Fa,3,none⟩=some (.slice Db Ba.length zb):=(ja ya.out 3).trans rfl;have Mw:=ga ya.out 0;have Lw:=ga ya.out 1;have Kw:=ga ya.out 2;have Jw:=ga ya.out 3;have xq:0 ≤ ((yg):Int):=of_decide_eq_true (by first|(with_reducible assumption)|assumption);have uq:(yg) < (Ba.length:Int):=of_decide_eq_true (by first|(with_reducible assumption)|assumption);obtain ⟨rz,rA,yj,xj,wj,uj,tj⟩:=Df Vd.out (yg) xq uq;cases rA;replace yj:=Ra HB.out yj;replace xj:=Ra HB.out xj;replace wj:=Ra HB.out wj;replace uj:=Ra HB.out uj;replace tj:=Ra HB.out tj;replace xq:=eq_true xq;replace uq:=eq_true uq;have Qz:0 ≤ ((yg):Int):=of_decide_eq_true (by first|(with_reducible assumption)|assumption);have Nz:(yg) < (Ba.length:Int):=of_decide_eq_true (by first|(with_reducible assumption)|assumption);obtain ⟨BC,eI,qs,js,Zr,Yr,Xr⟩:=Df Vd.out (yg) Qz Nz;obtain rfl:rz=BC:=(by injection eI);replace qs:=Ra HB.out qs;replace js:=Ra HB.out js;replace Zr:=Ra HB.out Zr;replace Yr:=Ra HB.out Yr;replace Xr:=Ra HB.out Xr;replace Qz:=eq_true Qz;replace Nz:=eq_true Nz;go_wp2;go_ret;exact ⟨by first|rfl|(simp [Ja,Ia] <;> rfl)|(simp only [← Xp];first|rfl|(simp [Ja,Ia] <;> rfl))|(simp [*,Ja,Ia] <;> rfl),by repeat (first|(with_reducible first|exact HB.out|apply ia|apply aa|apply qa|refine ua ?_ Ua.out)|exact HB.out)⟩
           ·rw [if_neg fq] at H;exact absurd H (by simp)
          ·rw [if_neg tv] at H;exact absurd H (by simp)
mutual
def Wa.l0:Nat→ByteArray→List ByteArray→Int→List Int→Int→Int→List (Pd)→Option (ByteArray)
 | 0,_,_,_,_,_,_,_=>none
 | k + 1,x3,x4,x5,Lc,Oc,Nc,Ab=>if x5 < (Ab.length:Int) then ((Ma.f k Lc Oc Nc Ab).bind fun t105=>(Wa.j1 k x3 x4 x5 t105 Lc Oc Nc Ab)) else (Wa.j1 k x3 x4 x5 false Lc Oc Nc Ab)
def Wa.j1:Nat→ByteArray→List ByteArray→Int→Bool→List Int→Int→Int→List (Pd)→Option (ByteArray)
 | 0,_,_,_,_,_,_,_,_=>none
 | k + 1,x3,x4,x5,sn,Lc,Oc,Nc,Ab=>if sn=true then (if 0 ≤ x5 then (if x5 < (Ab.length:Int) then ((Ya.f k x5).bind fun t108=>(if x3.size + t108.size ≤ 9223372036854775807 then (if (x3 ++ t108).size + 2 ≤ 9223372036854775807 then (if 0 ≤ ((za Ab x5).f0) then (if ((za Ab x5).f0) < (x4.length:Int) then (if ((x3 ++ t108) ++ (⟨#[58,32]⟩:ByteArray)).size + (Ob ByteArray.empty x4 ((za Ab x5).f0)).size ≤ 9223372036854775807 then (if (((x3 ++ t108) ++ (⟨#[58,32]⟩:ByteArray)) ++ (Ob ByteArray.empty x4 ((za Ab x5).f0))).size + 1 ≤ 9223372036854775807 then ((Ya.f k ((za Ab x5).f1)).bind fun t110=>(if ((((x3 ++ t108) ++ (⟨#[58,32]⟩:ByteArray)) ++ (Ob ByteArray.empty x4 ((za Ab x5).f0))) ++ (⟨#[32]⟩:ByteArray)).size + t110.size ≤ 9223372036854775807 then (if (((((x3 ++ t108) ++ (⟨#[58,32]⟩:ByteArray)) ++ (Ob ByteArray.empty x4 ((za Ab x5).f0))) ++ (⟨#[32]⟩:ByteArray)) ++ t110).size + 1 ≤ 9223372036854775807 then ((Ya.f k ((za Ab x5).f2)).bind fun t111=>(if ((((((x3 ++ t108) ++ (⟨#[58,32]⟩:ByteArray)) ++ (Ob ByteArray.empty x4 ((za Ab x5).f0))) ++ (⟨#[32]⟩:ByteArray)) ++ t110) ++ (⟨#[32]⟩:ByteArray)).size + t111.size ≤ 9223372036854775807 then (if (((((((x3 ++ t108) ++ (⟨#[58,32]⟩:ByteArray)) ++ (Ob ByteArray.empty x4 ((za Ab x5).f0))) ++ (⟨#[32]⟩:ByteArray)) ++ t110) ++ (⟨#[32]⟩:ByteArray)) ++ t111).size + 1 ≤ 9223372036854775807 then ((Ya.f k ((za Ab x5).f3)).bind fun t112=>(if ((((((((x3 ++ t108) ++ (⟨#[58,32]⟩:ByteArray)) ++ (Ob ByteArray.empty x4 ((za Ab x5).f0))) ++ (⟨#[32]⟩:ByteArray)) ++ t110) ++ (⟨#[32]⟩:ByteArray)) ++ t111) ++ (⟨#[32]⟩:ByteArray)).size + t112.size ≤ 9223372036854775807 then (if (((((((((x3 ++ t108) ++ (⟨#[58,32]⟩:ByteArray)) ++ (Ob ByteArray.empty x4 ((za Ab x5).f0))) ++ (⟨#[32]⟩:ByteArray)) ++ t110) ++ (⟨#[32]⟩:ByteArray)) ++ t111) ++ (⟨#[32]⟩:ByteArray)) ++ t112).size + 1 ≤ 9223372036854775807 then ((Ya.f k ((za Ab x5).f4)).bind fun t113=>(if ((((((((((x3 ++ t108) ++ (⟨#[58,32]⟩:ByteArray)) ++ (Ob ByteArray.empty x4 ((za Ab x5).f0))) ++ (⟨#[32]⟩:ByteArray)) ++ t110) ++ (⟨#[32]⟩:ByteArray)) ++ t111) ++ (⟨#[32]⟩:ByteArray)) ++ t112) ++ (⟨#[32]⟩:ByteArray)).size + t113.size ≤ 9223372036854775807 then (if (((((((((((x3 ++ t108) ++ (⟨#[58,32]⟩:ByteArray)) ++ (Ob ByteArray.empty x4 ((za Ab x5).f0))) ++ (⟨#[32]⟩:ByteArray)) ++ t110) ++ (⟨#[32]⟩:ByteArray)) ++ t111) ++ (⟨#[32]⟩:ByteArray)) ++ t112) ++ (⟨#[32]⟩:ByteArray)) ++ t113).size + 1 ≤ 9223372036854775807 then (Wa.l0 k ((((((((((((x3 ++ t108) ++ (⟨#[58,32]⟩:ByteArray)) ++ (Ob ByteArray.empty x4 ((za Ab x5).f0))) ++ (⟨#[32]⟩:ByteArray)) ++ t110) ++ (⟨#[32]⟩:ByteArray)) ++ t111) ++ (⟨#[32]⟩:ByteArray)) ++ t112) ++ (⟨#[32]⟩:ByteArray)) ++ t113) ++ (⟨#[10]⟩:ByteArray)) x4 (wrap64 (x5 + 1)) Lc Oc Nc Ab) else (none)) else (none))) else (none)) else (none))) else (none)) else (none))) else (none)) else (none))) else (none)) else (none)) else (none)) else (none)) else (none)) else (none))) else (none)) else (none)) else (some x3)
end
def Wa.f (k:Nat) (Qa:List Int) (Oa:Int) (Pa:Int) (Ba:List (Pd)):Option (ByteArray):=Wa.l0 k (⟨#[]⟩:ByteArray) (([(⟨#[108,105]⟩:ByteArray),(⟨#[108,100]⟩:ByteArray),(⟨#[115,100]⟩:ByteArray),(⟨#[97,108,117]⟩:ByteArray),(⟨#[108,120]⟩:ByteArray),(⟨#[115,120]⟩:ByteArray),(⟨#[105,110]⟩:ByteArray),(⟨#[111,117,116]⟩:ByteArray),(⟨#[106,109,112]⟩:ByteArray),(⟨#[106,122]⟩:ByteArray),(⟨#[114,101,116]⟩:ByteArray),(⟨#[109,118]⟩:ByteArray)]:List ByteArray)) 0 Qa Oa Pa Ba
def Wa.T7:Bool × List (List Nat × List Nat):=(true,[([],[]),([],[]),([1],[1]),([0,2],[0,2]),([3],[3]),([],[]),([],[]),([6],[6]),([5,7],[5,7]),([8],[8]),([4,9],[4,9]),([10],[10]),([],[]),([12],[12]),([13,2],[13]),([11,14],[11,14]),([15],[15]),([],[]),([17],[17]),([18,14],[18]),([16,19],[16,19]),([20],[20]),([],[]),([22],[22]),([23,19],[23]),([21,24],[21,24]),([25],[25]),([],[]),([27],[27]),([28,24],[28]),([26,29],[26,29]),([30],[30]),([31,29,0,1,2,3,4,5,6,7,8,9,10,11,12,13,14,15,16,17,18,19,20,21,22,23,24,25,26,27,28,29,30,31],[0,31])])
def Wa.B7:List Nat:=[0,0,2,7,15,0,0,64,224,480,1023,2047,0,4096,12294,32767,65535,0,131072,421894,1048575,2097151,0,4194304,13529094,33554431,67108863,0,134217728,432959494,1073741823,2147483647,4294967295]
theorem Wa.kH:Pf .any (opsOf Tryd.f11 7)=Wa.T7:=by kernel_rfl
theorem Wa.yC:Bg Wa.T7.2 Wa.B7=true:=by kernel_rfl
theorem Wa.calls (k:Nat) (yb:Option Addr) (xb:Nat) (Qa:List Int) (Oa:Int) (Pa:Int) (Db:Option Addr) (zb:Nat) (Ba:List (Pd)) (r:ByteArray) (w:World) (xe:Kd.C (Kd.int .i64) w yb Qa.length Qa) (je:Qa.length ≤ xb) (we:Kd.C Si w Db Ba.length Ba) (ie:Ba.length ≤ zb) (h:Wa.f k Qa Oa Pa Ba=some r) :
  Calls Tryd.prog 11 #[.agg #[.slice yb Qa.length xb,.int .i64 Oa,.int .i64 Pa,.slice Db Ba.length zb]] w fun e w'=>e = .returned (.string r)∧Below w.heap.size w w':=by
 have ju:=Tryd.underlying37;have Mq:=Tryd.underlying53;have Xd:=oa.mk xe;have qe:=oa.mk je;clear xe je;have Vd:=oa.mk we;have Qe:=oa.mk ie;clear we ie;have HB:=oa.mk (Below.refl w.heap.size w);have H:(Wa.l0 k (⟨#[]⟩:ByteArray) (([(⟨#[108,105]⟩:ByteArray),(⟨#[108,100]⟩:ByteArray),(⟨#[115,100]⟩:ByteArray),(⟨#[97,108,117]⟩:ByteArray),(⟨#[108,120]⟩:ByteArray),(⟨#[115,120]⟩:ByteArray),(⟨#[105,110]⟩:ByteArray),(⟨#[111,117,116]⟩:ByteArray),(⟨#[106,109,112]⟩:ByteArray),(⟨#[106,122]⟩:ByteArray),(⟨#[114,101,116]⟩:ByteArray),(⟨#[109,118]⟩:ByteArray)]:List ByteArray)) 0 Qa Oa Pa Ba)=some r:=h;clear h;obtain ⟨ic,Vp⟩:∃ y_:List ByteArray,y_=(([(⟨#[108,105]⟩:ByteArray),(⟨#[108,100]⟩:ByteArray),(⟨#[115,100]⟩:ByteArray),(⟨#[97,108,117]⟩:ByteArray),(⟨#[108,120]⟩:ByteArray),(⟨#[115,120]⟩:ByteArray),(⟨#[105,110]⟩:ByteArray),(⟨#[111,117,116]⟩:ByteArray),(⟨#[106,109,112]⟩:ByteArray),(⟨#[106,122]⟩:ByteArray),(⟨#[114,101,116]⟩:ByteArray),(⟨#[109,118]⟩:ByteArray)]:List ByteArray)):=⟨_,rfl⟩;replace H:(Wa.l0 k (⟨#[]⟩:ByteArray) ic 0 Qa Oa Pa Ba)=some r:=by first|(rw [Vp];with_reducible exact H)|(have Ok:=(Option.bind_some _ _).symm.trans H;rw [Vp];with_reducible exact Ok)|(have Ok:=(Option.bind_some _ _).symm.trans H;with_reducible exact Ok)|with_reducible exact H|(rw [Vp];exact H)|exact H
 have vz:=oa.mk Vp;clear Vp;have H':=oa.mk H;clear H;go_enter Tryd.func11,Tryd.ntmps11;go_wp2_with (first|((with_reducible refine Nb (N:=1) rfl ?_);refine Jb ?hg (N:=1) ?hd (cs:=#[.slice yb Qa.length xb,.int .i64 Oa,.int .i64 Pa,.slice Db Ba.length zb]) (t:=37) ?hr ?_;(case hd=>rfl);(case hg=>rfl);(case hr=>first|(go_simp;done)|(go_simp;rfl));intro Fa hg w2 Rb hb;have Tb:=oa.mk (Ta (by repeat (first|(with_reducible first|exact HB.out|apply ia|apply aa|apply qa)|exact HB.out)) hb);have Xb:=oa.mk (Rb);have tc:=oa.mk ((by rw [hg];exact (Ka (by repeat (first|(with_reducible first|exact HB.out|apply ia|apply aa|apply qa)|exact HB.out))):w.heap.size ≤ Fa));have Ec:=oa.mk ((by rw [hg];exact (Ka (by repeat (first|(with_reducible first|exact HB.out|apply ia|apply aa|apply qa)|exact HB.out))):w.heap.size ≤ Fa));clear HB;have HB:=Tb;have ya:=Xb;have Re:=tc;have Ua:=Ec;clear Tb Xb tc Ec hb Rb hg)|((with_reducible refine Nb (N:=7) rfl ?_);refine Kd.Wt Kd.string _ 9 ?hg (N:=7) ?hd (xs:=([(⟨#[108,105]⟩:ByteArray),(⟨#[108,100]⟩:ByteArray),(⟨#[115,100]⟩:ByteArray),(⟨#[97,108,117]⟩:ByteArray),(⟨#[108,120]⟩:ByteArray),(⟨#[115,120]⟩:ByteArray),(⟨#[105,110]⟩:ByteArray),(⟨#[111,117,116]⟩:ByteArray),(⟨#[106,109,112]⟩:ByteArray),(⟨#[106,122]⟩:ByteArray),(⟨#[114,101,116]⟩:ByteArray),(⟨#[109,118]⟩:ByteArray)]:List ByteArray)) (inner:=[.string (⟨#[108,105]⟩:ByteArray),.string (⟨#[108,100]⟩:ByteArray),.string (⟨#[115,100]⟩:ByteArray),.string (⟨#[97,108,117]⟩:ByteArray),.string (⟨#[108,120]⟩:ByteArray),.string (⟨#[115,120]⟩:ByteArray),.string (⟨#[105,110]⟩:ByteArray),.string (⟨#[111,117,116]⟩:ByteArray),.string (⟨#[106,109,112]⟩:ByteArray),.string (⟨#[106,122]⟩:ByteArray),.string (⟨#[114,101,116]⟩:ByteArray),.string (⟨#[109,118]⟩:ByteArray)]) (ok:=fun _=>True) (Bm:=fun _=>True) ?hr ?hp (fun _ hk=>hk) trivial (Below.refl _ _) (Nat.le_refl _) (by simp) ?_;(case hd=>rfl);(case hg=>rfl);(case hr=>first|(go_simp;done)|(go_simp;rfl));(case hp=>exact (Fc.one (show Kd.M Kd.string _ _ _ (⟨#[108,105]⟩:ByteArray) [.string (⟨#[108,105]⟩:ByteArray)] from rfl) (Fc.one (show Kd.M Kd.string _ _ _ (⟨#[108,100]⟩:ByteArray) [.string (⟨#[108,100]⟩:ByteArray)] from rfl) (Fc.one (show Kd.M Kd.string _ _ _ (⟨#[115,100]⟩:ByteArray) [.string (⟨#[115,100]⟩:ByteArray)] from rfl) (Fc.one (show Kd.M Kd.string _ _ _ (⟨#[97,108,117]⟩:ByteArray) [.string (⟨#[97,108,117]⟩:ByteArray)] from rfl) (Fc.one (show Kd.M Kd.string _ _ _ (⟨#[108,120]⟩:ByteArray) [.string (⟨#[108,120]⟩:ByteArray)] from rfl) (Fc.one (show Kd.M Kd.string _ _ _ (⟨#[115,120]⟩:ByteArray) [.string (⟨#[115,120]⟩:ByteArray)] from rfl) (Fc.one (show Kd.M Kd.string _ _ _ (⟨#[105,110]⟩:ByteArray) [.string (⟨#[105,110]⟩:ByteArray)] from rfl) (Fc.one (show Kd.M Kd.string _ _ _ (⟨#[111,117,116]⟩:ByteArray) [.string (⟨#[111,117,116]⟩:ByteArray)] from rfl) (Fc.one (show Kd.M Kd.string _ _ _ (⟨#[106,109,112]⟩:ByteArray) [.string (⟨#[106,109,112]⟩:ByteArray)] from rfl) (Fc.one (show Kd.M Kd.string _ _ _ (⟨#[106,122]⟩:ByteArray) [.string (⟨#[106,122]⟩:ByteArray)] from rfl) (Fc.one (show Kd.M Kd.string _ _ _ (⟨#[114,101,116]⟩:ByteArray) [.string (⟨#[114,101,116]⟩:ByteArray)] from rfl) (Fc.one (show Kd.M Kd.string _ _ _ (⟨#[109,118]⟩:ByteArray) [.string (⟨#[109,118]⟩:ByteArray)] from rfl) (Fc.none _ _))))))))))))));intro Hz w3 nB hb cw Pj;clear cw Pj;(first|rw [← vz.out] at nB|(simp only [Int.reduceToNat] at nB;rw [← vz.out] at nB));have Tb:=oa.mk (Kd.Be nB (Ka (by repeat (first|(with_reducible first|exact HB.out|apply ia|apply aa|apply qa|refine ua ?_ Ua.out)|exact HB.out))));have Xb:=oa.mk (jb (g:=Fa) (o:=.cells #[.slice yb Qa.length xb,.int .i64 Oa,.int .i64 Pa,.slice Db Ba.length zb] 37 (0,0)) (by (with_reducible repeat (first|refine Ca ?_ _|refine Ea ?_|refine Da ?_ _));exact ya.out) hb);have tc:=oa.mk (Ta (by repeat (first|(with_reducible first|exact HB.out|apply ia|apply aa|apply qa|refine ua ?_ Ua.out)|exact HB.out)) hb);clear ya HB;have KC:=Tb;have ya:=Xb;have HB:=tc;clear Tb Xb tc hb nB))
 go_loopg [3,5] k (fun kq v3 v5 w'=>∃ (mb:ByteArray) (Na:Int),v3 = .string mb∧v5 = .int .i64 Na∧oa (Wa.l0 kq mb ic Na Qa Oa Pa Ba=some r)∧oa (kq ≤ k)∧oa (Kd.R Kd.string 9 w' w.heap.size (fun _=>True) Hz ic)∧oa (w'.heap[Fa]? = some (.cells #[(.slice yb Qa.length xb),.int .i64 Oa,.int .i64 Pa,(.slice Db Ba.length zb)] 37 (0,0)))∧oa (Below w.heap.size w w'))
 case atStart=>exact ⟨((⟨#[]⟩:ByteArray)),(0),(by first|rfl|(simp;done)|(simp [*];done)),(by first|rfl|(simp;done)|(simp [*];done)),H',⟨Nat.le_refl _⟩,⟨by (with_reducible repeat (first|apply Kd.Fb|apply Kd.Eb|apply Kd.Qb));exact KC.out⟩,⟨by (with_reducible repeat (first|refine Ca ?_ _|refine Ea ?_|refine Da ?_ _));exact ya.out⟩,⟨by repeat (first|(with_reducible first|exact HB.out|apply ia|apply aa|apply qa|refine ua ?_ Ua.out)|exact HB.out)⟩⟩
 case round =>
  clear H'
  try clear c1
  try clear p2
  (try clear HA);(try clear Lg);(try clear Wg);(try clear ya);(try clear HB);obtain ⟨mb,Na,rfl,rfl,HA,Lg,Wg,ya,HB⟩:=hrel;cases gk with
  | zero=>exact absurd HA.out (by simp [Wa.l0])
  | succ k1 =>
   have H:=HA.out;clear HA;simp only [Wa.l0] at H;have NA:=oa.mk H;clear H
   go_upto_region 4 with (fail)
   go_cut [16] (fun iH wc=>∃ (kq:Nat) (Lr:Bool),iH = .bool Lr∧oa (Wa.j1 kq mb ic Na Lr Qa Oa Pa Ba=some r)∧oa (kq ≤ k1)∧oa (Kd.R Kd.string 9 wc w.heap.size (fun _=>True) Hz ic)∧oa (wc.heap[Fa]? = some (.cells #[(.slice yb Qa.length xb),.int .i64 Oa,.int .i64 Pa,(.slice Db Ba.length zb)] 37 (0,0)))∧oa (Below w.heap.size w wc))
   case first =>
    have H:=NA.out;clear NA
    by_cases c6:Na < (Ba.length:Int)
    ·rw [if_pos c6] at H;have Ah:decide (Na < (Ba.length:Int))=true:=decide_eq_true c6;clear c6;(first|rw [Ah]|(simp only [Kb,Mb];rw [Ah])|skip);replace H:=Option.bind_eq_some_iff.mp H;obtain ⟨t105,Yt,H⟩:=H;replace H:(Wa.j1 k1 mb ic Na t105 Qa Oa Pa Ba)=some r:=H;have A7:=oa.mk Yt;clear Yt;have H':=oa.mk H;clear H;have vo:wr.cell? ⟨Fa,0,none⟩=some (.slice yb Qa.length xb):=(ja ya.out 0).trans rfl;have uo:wr.cell? ⟨Fa,1,none⟩=some (.int .i64 Oa):=(ja ya.out 1).trans rfl;have qo:wr.cell? ⟨Fa,2,none⟩=some (.int .i64 Pa):=(ja ya.out 2).trans rfl;have oo:wr.cell? ⟨Fa,3,none⟩=some (.slice Db Ba.length zb):=(ja ya.out 3).trans rfl;have Kn:=ga ya.out 0;have Jn:=ga ya.out 1;have Gn:=ga ya.out 2;have En:=ga ya.out 3;go_wp2_with (first|(go_at_call 23;(with_reducible refine (Ma.calls k1 _ _ Qa Oa Pa _ _ Ba t105 _ ?Jc ?Ic ?ld ?jd A7.out).mono ?_);(case Jc=>repeat (first|exact (Kd.Sb Xd.out HB.out)|(with_reducible refine Kd.Wb ?_ _)|(with_reducible refine Kd.Vb ?_ _)|(with_reducible refine Kd.Bc ?_)));(case Ic=>exact qe.out);(case ld=>repeat (first|exact (Kd.Sb Vd.out HB.out)|(with_reducible refine Kd.Wb ?_ _)|(with_reducible refine Kd.Vb ?_ _)|(with_reducible refine Kd.Bc ?_)));(case jd=>exact Qe.out);rintro e w9 ⟨rfl,hb⟩;have Tb:=oa.mk (Kd.Pc (by (with_reducible repeat (first|apply Kd.Fb|apply Kd.Eb|apply Kd.Qb));exact Wg.out) hb);have Xb:=oa.mk (jb (g:=Fa) (o:=.cells #[.slice yb Qa.length xb,.int .i64 Oa,.int .i64 Pa,.slice Db Ba.length zb] 37 (0,0)) (by (with_reducible repeat (first|refine Ca ?_ _|refine Ea ?_|refine Da ?_ _));exact ya.out) hb);have tc:=oa.mk (Ta (by repeat (first|(with_reducible first|exact HB.out|apply ia|apply aa|apply qa|refine ua ?_ Ua.out)|exact HB.out)) hb);clear Wg ya HB;have Wg:=Tb;have ya:=Xb;have HB:=tc;clear Tb Xb tc;(try clear hb);(try clear hb2);(try clear hk);(try clear hi)))
     go_meet
     case rel=>exact ⟨_,(t105),(by first|rfl|(simp;done)|(simp [*];done)),H',⟨by have:=Lg.out;first|omega|exact Nat.le_refl _⟩,⟨by (with_reducible repeat (first|apply Kd.Fb|apply Kd.Eb|apply Kd.Qb));exact Wg.out⟩,⟨by (with_reducible repeat (first|refine Ca ?_ _|refine Ea ?_|refine Da ?_ _));exact ya.out⟩,⟨by repeat (first|(with_reducible first|exact HB.out|apply ia|apply aa|apply qa|refine ua ?_ Ua.out)|exact HB.out)⟩⟩
    ·rw [if_neg c6] at H;have Ah:decide (Na < (Ba.length:Int))=false:=decide_eq_false c6;clear c6;(first|rw [Ah]|(simp only [Kb,Mb];rw [Ah])|skip);have H':=oa.mk H;clear H;have Hi:wr.cell? ⟨Fa,0,none⟩=some (.slice yb Qa.length xb):=(ja ya.out 0).trans rfl;have Gi:wr.cell? ⟨Fa,1,none⟩=some (.int .i64 Oa):=(ja ya.out 1).trans rfl;have Fi:wr.cell? ⟨Fa,2,none⟩=some (.int .i64 Pa):=(ja ya.out 2).trans rfl;have Ei:wr.cell? ⟨Fa,3,none⟩=some (.slice Db Ba.length zb):=(ja ya.out 3).trans rfl;have zi:=ga ya.out 0;have si:=ga ya.out 1;have qi:=ga ya.out 2;have ni:=ga ya.out 3;go_wp2
     go_meet
     case rel=>exact ⟨_,(false),(by first|rfl|(simp;done)|(simp [*];done)),H',⟨by have:=Lg.out;first|omega|exact Nat.le_refl _⟩,⟨by (with_reducible repeat (first|apply Kd.Fb|apply Kd.Eb|apply Kd.Qb));exact Wg.out⟩,⟨by (with_reducible repeat (first|refine Ca ?_ _|refine Ea ?_|refine Da ?_ _));exact ya.out⟩,⟨by repeat (first|(with_reducible first|exact HB.out|apply ia|apply aa|apply qa|refine ua ?_ Ua.out)|exact HB.out)⟩⟩
   case rest =>
    clear NA
    try clear c1
    try clear p2
    try clear c6
    try clear Ah
    try clear Hi
    try clear Gi
    try clear Fi
    try clear Ei
    try clear vo
    try clear uo
    try clear qo
    try clear oo
    try clear zi
    try clear si
    try clear qi
    try clear ni
    try clear Kn
    try clear Jn
    try clear Gn
    try clear En
    try clear p2
    obtain ⟨kq,Lr,rfl,HA,Pv,Wg,ya,HB⟩:=hcut;cases kq with
    | zero=>exact absurd HA.out (by simp [Wa.j1])
    | succ sj =>
     have H:=HA.out;clear HA;simp only [Wa.j1] at H
     by_cases c11:Lr=true
     ·subst c11;have H1:(if 0 ≤ Na then (if Na < (Ba.length:Int) then ((Ya.f sj Na).bind fun t108=>(if mb.size + t108.size ≤ 9223372036854775807 then (if (mb ++ t108).size + 2 ≤ 9223372036854775807 then (if 0 ≤ ((za Ba Na).f0) then (if ((za Ba Na).f0) < (ic.length:Int) then (if ((mb ++ t108) ++ (⟨#[58,32]⟩:ByteArray)).size + (Ob ByteArray.empty ic ((za Ba Na).f0)).size ≤ 9223372036854775807 then (if (((mb ++ t108) ++ (⟨#[58,32]⟩:ByteArray)) ++ (Ob ByteArray.empty ic ((za Ba Na).f0))).size + 1 ≤ 9223372036854775807 then ((Ya.f sj ((za Ba Na).f1)).bind fun t110=>(if ((((mb ++ t108) ++ (⟨#[58,32]⟩:ByteArray)) ++ (Ob ByteArray.empty ic ((za Ba Na).f0))) ++ (⟨#[32]⟩:ByteArray)).size + t110.size ≤ 9223372036854775807 then (if (((((mb ++ t108) ++ (⟨#[58,32]⟩:ByteArray)) ++ (Ob ByteArray.empty ic ((za Ba Na).f0))) ++ (⟨#[32]⟩:ByteArray)) ++ t110).size + 1 ≤ 9223372036854775807 then ((Ya.f sj ((za Ba Na).f2)).bind fun t111=>(if ((((((mb ++ t108) ++ (⟨#[58,32]⟩:ByteArray)) ++ (Ob ByteArray.empty ic ((za Ba Na).f0))) ++ (⟨#[32]⟩:ByteArray)) ++ t110) ++ (⟨#[32]⟩:ByteArray)).size + t111.size ≤ 9223372036854775807 then (if (((((((mb ++ t108) ++ (⟨#[58,32]⟩:ByteArray)) ++ (Ob ByteArray.empty ic ((za Ba Na).f0))) ++ (⟨#[32]⟩:ByteArray)) ++ t110) ++ (⟨#[32]⟩:ByteArray)) ++ t111).size + 1 ≤ 9223372036854775807 then ((Ya.f sj ((za Ba Na).f3)).bind fun t112=>(if ((((((((mb ++ t108) ++ (⟨#[58,32]⟩:ByteArray)) ++ (Ob ByteArray.empty ic ((za Ba Na).f0))) ++ (⟨#[32]⟩:ByteArray)) ++ t110) ++ (⟨#[32]⟩:ByteArray)) ++ t111) ++ (⟨#[32]⟩:ByteArray)).size + t112.size ≤ 9223372036854775807 then (if (((((((((mb ++ t108) ++ (⟨#[58,32]⟩:ByteArray)) ++ (Ob ByteArray.empty ic ((za Ba Na).f0))) ++ (⟨#[32]⟩:ByteArray)) ++ t110) ++ (⟨#[32]⟩:ByteArray)) ++ t111) ++ (⟨#[32]⟩:ByteArray)) ++ t112).size + 1 ≤ 9223372036854775807 then ((Ya.f sj ((za Ba Na).f4)).bind fun t113=>(if ((((((((((mb ++ t108) ++ (⟨#[58,32]⟩:ByteArray)) ++ (Ob ByteArray.empty ic ((za Ba Na).f0))) ++ (⟨#[32]⟩:ByteArray)) ++ t110) ++ (⟨#[32]⟩:ByteArray)) ++ t111) ++ (⟨#[32]⟩:ByteArray)) ++ t112) ++ (⟨#[32]⟩:ByteArray)).size + t113.size ≤ 9223372036854775807 then (if (((((((((((mb ++ t108) ++ (⟨#[58,32]⟩:ByteArray)) ++ (Ob ByteArray.empty ic ((za Ba Na).f0))) ++ (⟨#[32]⟩:ByteArray)) ++ t110) ++ (⟨#[32]⟩:ByteArray)) ++ t111) ++ (⟨#[32]⟩:ByteArray)) ++ t112) ++ (⟨#[32]⟩:ByteArray)) ++ t113).size + 1 ≤ 9223372036854775807 then (Wa.l0 sj ((((((((((((mb ++ t108) ++ (⟨#[58,32]⟩:ByteArray)) ++ (Ob ByteArray.empty ic ((za Ba Na).f0))) ++ (⟨#[32]⟩:ByteArray)) ++ t110) ++ (⟨#[32]⟩:ByteArray)) ++ t111) ++ (⟨#[32]⟩:ByteArray)) ++ t112) ++ (⟨#[32]⟩:ByteArray)) ++ t113) ++ (⟨#[10]⟩:ByteArray)) ic (wrap64 (Na + 1)) Qa Oa Pa Ba) else (none)) else (none))) else (none)) else (none))) else (none)) else (none))) else (none)) else (none))) else (none)) else (none)) else (none)) else (none)) else (none)) else (none))) else (none)) else (none))=some r:=by rw [if_pos rfl] at H;exact H
      clear H;have H:=H1;clear H1
      by_cases c12:0 ≤ Na
      ·rw [if_pos c12] at H;have pz:decide (0 ≤ Na)=true:=decide_eq_true c12;clear c12
       by_cases c13:Na < (Ba.length:Int)
       ·rw [if_pos c13] at H;have vC:decide (Na < (Ba.length:Int))=true:=decide_eq_true c13;clear c13;replace H:=Option.bind_eq_some_iff.mp H;obtain ⟨t108,gD,H⟩:=H;replace H:(if mb.size + t108.size ≤ 9223372036854775807 then (if (mb ++ t108).size + 2 ≤ 9223372036854775807 then (if 0 ≤ ((za Ba Na).f0) then (if ((za Ba Na).f0) < (ic.length:Int) then (if ((mb ++ t108) ++ (⟨#[58,32]⟩:ByteArray)).size + (Ob ByteArray.empty ic ((za Ba Na).f0)).size ≤ 9223372036854775807 then (if (((mb ++ t108) ++ (⟨#[58,32]⟩:ByteArray)) ++ (Ob ByteArray.empty ic ((za Ba Na).f0))).size + 1 ≤ 9223372036854775807 then ((Ya.f sj ((za Ba Na).f1)).bind fun t110=>(if ((((mb ++ t108) ++ (⟨#[58,32]⟩:ByteArray)) ++ (Ob ByteArray.empty ic ((za Ba Na).f0))) ++ (⟨#[32]⟩:ByteArray)).size + t110.size ≤ 9223372036854775807 then (if (((((mb ++ t108) ++ (⟨#[58,32]⟩:ByteArray)) ++ (Ob ByteArray.empty ic ((za Ba Na).f0))) ++ (⟨#[32]⟩:ByteArray)) ++ t110).size + 1 ≤ 9223372036854775807 then ((Ya.f sj ((za Ba Na).f2)).bind fun t111=>(if ((((((mb ++ t108) ++ (⟨#[58,32]⟩:ByteArray)) ++ (Ob ByteArray.empty ic ((za Ba Na).f0))) ++ (⟨#[32]⟩:ByteArray)) ++ t110) ++ (⟨#[32]⟩:ByteArray)).size + t111.size ≤ 9223372036854775807 then (if (((((((mb ++ t108) ++ (⟨#[58,32]⟩:ByteArray)) ++ (Ob ByteArray.empty ic ((za Ba Na).f0))) ++ (⟨#[32]⟩:ByteArray)) ++ t110) ++ (⟨#[32]⟩:ByteArray)) ++ t111).size + 1 ≤ 9223372036854775807 then ((Ya.f sj ((za Ba Na).f3)).bind fun t112=>(if ((((((((mb ++ t108) ++ (⟨#[58,32]⟩:ByteArray)) ++ (Ob ByteArray.empty ic ((za Ba Na).f0))) ++ (⟨#[32]⟩:ByteArray)) ++ t110) ++ (⟨#[32]⟩:ByteArray)) ++ t111) ++ (⟨#[32]⟩:ByteArray)).size + t112.size ≤ 9223372036854775807 then (if (((((((((mb ++ t108) ++ (⟨#[58,32]⟩:ByteArray)) ++ (Ob ByteArray.empty ic ((za Ba Na).f0))) ++ (⟨#[32]⟩:ByteArray)) ++ t110) ++ (⟨#[32]⟩:ByteArray)) ++ t111) ++ (⟨#[32]⟩:ByteArray)) ++ t112).size + 1 ≤ 9223372036854775807 then ((Ya.f sj ((za Ba Na).f4)).bind fun t113=>(if ((((((((((mb ++ t108) ++ (⟨#[58,32]⟩:ByteArray)) ++ (Ob ByteArray.empty ic ((za Ba Na).f0))) ++ (⟨#[32]⟩:ByteArray)) ++ t110) ++ (⟨#[32]⟩:ByteArray)) ++ t111) ++ (⟨#[32]⟩:ByteArray)) ++ t112) ++ (⟨#[32]⟩:ByteArray)).size + t113.size ≤ 9223372036854775807 then (if (((((((((((mb ++ t108) ++ (⟨#[58,32]⟩:ByteArray)) ++ (Ob ByteArray.empty ic ((za Ba Na).f0))) ++ (⟨#[32]⟩:ByteArray)) ++ t110) ++ (⟨#[32]⟩:ByteArray)) ++ t111) ++ (⟨#[32]⟩:ByteArray)) ++ t112) ++ (⟨#[32]⟩:ByteArray)) ++ t113).size + 1 ≤ 9223372036854775807 then (Wa.l0 sj ((((((((((((mb ++ t108) ++ (⟨#[58,32]⟩:ByteArray)) ++ (Ob ByteArray.empty ic ((za Ba Na).f0))) ++ (⟨#[32]⟩:ByteArray)) ++ t110) ++ (⟨#[32]⟩:ByteArray)) ++ t111) ++ (⟨#[32]⟩:ByteArray)) ++ t112) ++ (⟨#[32]⟩:ByteArray)) ++ t113) ++ (⟨#[10]⟩:ByteArray)) ic (wrap64 (Na + 1)) Qa Oa Pa Ba) else (none)) else (none))) else (none)) else (none))) else (none)) else (none))) else (none)) else (none))) else (none)) else (none)) else (none)) else (none)) else (none)) else (none))=some r:=H;have qM:=oa.mk gD;clear gD
        by_cases c15:mb.size + t108.size ≤ 9223372036854775807
        ·rw [if_pos c15] at H;have Uk:=eq_true c15;have Wm:decide (mb.size + t108.size ≤ 9223372036854775807)=true:=decide_eq_true c15
         try have LK:(9223372036854775807 < mb.size + t108.size)=False:=eq_false (Nat.not_lt.2 c15)
         by_cases c16:(mb ++ t108).size + 2 ≤ 9223372036854775807
         ·rw [if_pos c16] at H;have wv:=eq_true c16;have tC:decide ((mb ++ t108).size + 2 ≤ 9223372036854775807)=true:=decide_eq_true c16
          try have sC:(9223372036854775807 < (mb ++ t108).size + 2)=False:=eq_false (Nat.not_lt.2 c16)
          try have KK:(9223372036854775807 < (mb.size + t108.size) + 2)=False:=by have h_:=c16;simp only [ByteArray.size_append] at h_;exact eq_false (Nat.not_lt.2 h_)
          by_cases Dr:0 ≤ ((za Ba Na).f0)
          ·rw [if_pos Dr] at H;have kz:decide (0 ≤ ((za Ba Na).f0))=true:=decide_eq_true Dr;clear Dr
           by_cases Bu:((za Ba Na).f0) < (ic.length:Int)
           ·rw [if_pos Bu] at H;have jz:decide (((za Ba Na).f0) < (ic.length:Int))=true:=decide_eq_true Bu;clear Bu
            by_cases iy:((mb ++ t108) ++ (⟨#[58,32]⟩:ByteArray)).size + (Ob ByteArray.empty ic ((za Ba Na).f0)).size ≤ 9223372036854775807
            ·rw [if_pos iy] at H;have HK:=eq_true iy;have GK:decide (((mb ++ t108) ++ (⟨#[58,32]⟩:ByteArray)).size + (Ob ByteArray.empty ic ((za Ba Na).f0)).size ≤ 9223372036854775807)=true:=decide_eq_true iy
             try have EK:(9223372036854775807 < ((mb ++ t108) ++ (⟨#[58,32]⟩:ByteArray)).size + (Ob ByteArray.empty ic ((za Ba Na).f0)).size)=False:=eq_false (Nat.not_lt.2 iy)
             try have DK:(9223372036854775807 < ((mb.size + t108.size) + 2) + (Ob ByteArray.empty ic ((za Ba Na).f0)).size)=False:=by have h_:=iy;simp only [ByteArray.size_append] at h_;exact eq_false (Nat.not_lt.2 h_)
             by_cases CA:(((mb ++ t108) ++ (⟨#[58,32]⟩:ByteArray)) ++ (Ob ByteArray.empty ic ((za Ba Na).f0))).size + 1 ≤ 9223372036854775807
             ·rw [if_pos CA] at H;have CK:=eq_true CA;have BK:decide ((((mb ++ t108) ++ (⟨#[58,32]⟩:ByteArray)) ++ (Ob ByteArray.empty ic ((za Ba Na).f0))).size + 1 ≤ 9223372036854775807)=true:=decide_eq_true CA
              try have AK:(9223372036854775807 < (((mb ++ t108) ++ (⟨#[58,32]⟩:ByteArray)) ++ (Ob ByteArray.empty ic ((za Ba Na).f0))).size + 1)=False:=eq_false (Nat.not_lt.2 CA)
              try have zK:(9223372036854775807 < (((mb.size + t108.size) + 2) + (Ob ByteArray.empty ic ((za Ba Na).f0)).size) + 1)=False:=by have h_:=CA;simp only [ByteArray.size_append] at h_;exact eq_false (Nat.not_lt.2 h_)
              replace H:=Option.bind_eq_some_iff.mp H;obtain ⟨t110,dD,H⟩:=H;replace H:(if ((((mb ++ t108) ++ (⟨#[58,32]⟩:ByteArray)) ++ (Ob ByteArray.empty ic ((za Ba Na).f0))) ++ (⟨#[32]⟩:ByteArray)).size + t110.size ≤ 9223372036854775807 then (if (((((mb ++ t108) ++ (⟨#[58,32]⟩:ByteArray)) ++ (Ob ByteArray.empty ic ((za Ba Na).f0))) ++ (⟨#[32]⟩:ByteArray)) ++ t110).size + 1 ≤ 9223372036854775807 then ((Ya.f sj ((za Ba Na).f2)).bind fun t111=>(if ((((((mb ++ t108) ++ (⟨#[58,32]⟩:ByteArray)) ++ (Ob ByteArray.empty ic ((za Ba Na).f0))) ++ (⟨#[32]⟩:ByteArray)) ++ t110) ++ (⟨#[32]⟩:ByteArray)).size + t111.size ≤ 9223372036854775807 then (if (((((((mb ++ t108) ++ (⟨#[58,32]⟩:ByteArray)) ++ (Ob ByteArray.empty ic ((za Ba Na).f0))) ++ (⟨#[32]⟩:ByteArray)) ++ t110) ++ (⟨#[32]⟩:ByteArray)) ++ t111).size + 1 ≤ 9223372036854775807 then ((Ya.f sj ((za Ba Na).f3)).bind fun t112=>(if ((((((((mb ++ t108) ++ (⟨#[58,32]⟩:ByteArray)) ++ (Ob ByteArray.empty ic ((za Ba Na).f0))) ++ (⟨#[32]⟩:ByteArray)) ++ t110) ++ (⟨#[32]⟩:ByteArray)) ++ t111) ++ (⟨#[32]⟩:ByteArray)).size + t112.size ≤ 9223372036854775807 then (if (((((((((mb ++ t108) ++ (⟨#[58,32]⟩:ByteArray)) ++ (Ob ByteArray.empty ic ((za Ba Na).f0))) ++ (⟨#[32]⟩:ByteArray)) ++ t110) ++ (⟨#[32]⟩:ByteArray)) ++ t111) ++ (⟨#[32]⟩:ByteArray)) ++ t112).size + 1 ≤ 9223372036854775807 then ((Ya.f sj ((za Ba Na).f4)).bind fun t113=>(if ((((((((((mb ++ t108) ++ (⟨#[58,32]⟩:ByteArray)) ++ (Ob ByteArray.empty ic ((za Ba Na).f0))) ++ (⟨#[32]⟩:ByteArray)) ++ t110) ++ (⟨#[32]⟩:ByteArray)) ++ t111) ++ (⟨#[32]⟩:ByteArray)) ++ t112) ++ (⟨#[32]⟩:ByteArray)).size + t113.size ≤ 9223372036854775807 then (if (((((((((((mb ++ t108) ++ (⟨#[58,32]⟩:ByteArray)) ++ (Ob ByteArray.empty ic ((za Ba Na).f0))) ++ (⟨#[32]⟩:ByteArray)) ++ t110) ++ (⟨#[32]⟩:ByteArray)) ++ t111) ++ (⟨#[32]⟩:ByteArray)) ++ t112) ++ (⟨#[32]⟩:ByteArray)) ++ t113).size + 1 ≤ 9223372036854775807 then (Wa.l0 sj ((((((((((((mb ++ t108) ++ (⟨#[58,32]⟩:ByteArray)) ++ (Ob ByteArray.empty ic ((za Ba Na).f0))) ++ (⟨#[32]⟩:ByteArray)) ++ t110) ++ (⟨#[32]⟩:ByteArray)) ++ t111) ++ (⟨#[32]⟩:ByteArray)) ++ t112) ++ (⟨#[32]⟩:ByteArray)) ++ t113) ++ (⟨#[10]⟩:ByteArray)) ic (wrap64 (Na + 1)) Qa Oa Pa Ba) else (none)) else (none))) else (none)) else (none))) else (none)) else (none))) else (none)) else (none))=some r:=H;have oM:=oa.mk dD;clear dD
              by_cases Cr:((((mb ++ t108) ++ (⟨#[58,32]⟩:ByteArray)) ++ (Ob ByteArray.empty ic ((za Ba Na).f0))) ++ (⟨#[32]⟩:ByteArray)).size + t110.size ≤ 9223372036854775807
              ·rw [if_pos Cr] at H;have yK:=eq_true Cr;have xK:decide (((((mb ++ t108) ++ (⟨#[58,32]⟩:ByteArray)) ++ (Ob ByteArray.empty ic ((za Ba Na).f0))) ++ (⟨#[32]⟩:ByteArray)).size + t110.size ≤ 9223372036854775807)=true:=decide_eq_true Cr
               try have wK:(9223372036854775807 < ((((mb ++ t108) ++ (⟨#[58,32]⟩:ByteArray)) ++ (Ob ByteArray.empty ic ((za Ba Na).f0))) ++ (⟨#[32]⟩:ByteArray)).size + t110.size)=False:=eq_false (Nat.not_lt.2 Cr)
               try have vK:(9223372036854775807 < ((((mb.size + t108.size) + 2) + (Ob ByteArray.empty ic ((za Ba Na).f0)).size) + 1) + t110.size)=False:=by have h_:=Cr;simp only [ByteArray.size_append] at h_;exact eq_false (Nat.not_lt.2 h_)
               by_cases vu:(((((mb ++ t108) ++ (⟨#[58,32]⟩:ByteArray)) ++ (Ob ByteArray.empty ic ((za Ba Na).f0))) ++ (⟨#[32]⟩:ByteArray)) ++ t110).size + 1 ≤ 9223372036854775807
               ·rw [if_pos vu] at H;have iz:=eq_true vu;have uK:decide ((((((mb ++ t108) ++ (⟨#[58,32]⟩:ByteArray)) ++ (Ob ByteArray.empty ic ((za Ba Na).f0))) ++ (⟨#[32]⟩:ByteArray)) ++ t110).size + 1 ≤ 9223372036854775807)=true:=decide_eq_true vu
                try have tK:(9223372036854775807 < (((((mb ++ t108) ++ (⟨#[58,32]⟩:ByteArray)) ++ (Ob ByteArray.empty ic ((za Ba Na).f0))) ++ (⟨#[32]⟩:ByteArray)) ++ t110).size + 1)=False:=eq_false (Nat.not_lt.2 vu)
                try have sK:(9223372036854775807 < (((((mb.size + t108.size) + 2) + (Ob ByteArray.empty ic ((za Ba Na).f0)).size) + 1) + t110.size) + 1)=False:=by have h_:=vu;simp only [ByteArray.size_append] at h_;exact eq_false (Nat.not_lt.2 h_)
                replace H:=Option.bind_eq_some_iff.mp H;obtain ⟨t111,cD,H⟩:=H;replace H:(if ((((((mb ++ t108) ++ (⟨#[58,32]⟩:ByteArray)) ++ (Ob ByteArray.empty ic ((za Ba Na).f0))) ++ (⟨#[32]⟩:ByteArray)) ++ t110) ++ (⟨#[32]⟩:ByteArray)).size + t111.size ≤ 9223372036854775807 then (if (((((((mb ++ t108) ++ (⟨#[58,32]⟩:ByteArray)) ++ (Ob ByteArray.empty ic ((za Ba Na).f0))) ++ (⟨#[32]⟩:ByteArray)) ++ t110) ++ (⟨#[32]⟩:ByteArray)) ++ t111).size + 1 ≤ 9223372036854775807 then ((Ya.f sj ((za Ba Na).f3)).bind fun t112=>(if ((((((((mb ++ t108) ++ (⟨#[58,32]⟩:ByteArray)) ++ (Ob ByteArray.empty ic ((za Ba Na).f0))) ++ (⟨#[32]⟩:ByteArray)) ++ t110) ++ (⟨#[32]⟩:ByteArray)) ++ t111) ++ (⟨#[32]⟩:ByteArray)).size + t112.size ≤ 9223372036854775807 then (if (((((((((mb ++ t108) ++ (⟨#[58,32]⟩:ByteArray)) ++ (Ob ByteArray.empty ic ((za Ba Na).f0))) ++ (⟨#[32]⟩:ByteArray)) ++ t110) ++ (⟨#[32]⟩:ByteArray)) ++ t111) ++ (⟨#[32]⟩:ByteArray)) ++ t112).size + 1 ≤ 9223372036854775807 then ((Ya.f sj ((za Ba Na).f4)).bind fun t113=>(if ((((((((((mb ++ t108) ++ (⟨#[58,32]⟩:ByteArray)) ++ (Ob ByteArray.empty ic ((za Ba Na).f0))) ++ (⟨#[32]⟩:ByteArray)) ++ t110) ++ (⟨#[32]⟩:ByteArray)) ++ t111) ++ (⟨#[32]⟩:ByteArray)) ++ t112) ++ (⟨#[32]⟩:ByteArray)).size + t113.size ≤ 9223372036854775807 then (if (((((((((((mb ++ t108) ++ (⟨#[58,32]⟩:ByteArray)) ++ (Ob ByteArray.empty ic ((za Ba Na).f0))) ++ (⟨#[32]⟩:ByteArray)) ++ t110) ++ (⟨#[32]⟩:ByteArray)) ++ t111) ++ (⟨#[32]⟩:ByteArray)) ++ t112) ++ (⟨#[32]⟩:ByteArray)) ++ t113).size + 1 ≤ 9223372036854775807 then (Wa.l0 sj ((((((((((((mb ++ t108) ++ (⟨#[58,32]⟩:ByteArray)) ++ (Ob ByteArray.empty ic ((za Ba Na).f0))) ++ (⟨#[32]⟩:ByteArray)) ++ t110) ++ (⟨#[32]⟩:ByteArray)) ++ t111) ++ (⟨#[32]⟩:ByteArray)) ++ t112) ++ (⟨#[32]⟩:ByteArray)) ++ t113) ++ (⟨#[10]⟩:ByteArray)) ic (wrap64 (Na + 1)) Qa Oa Pa Ba) else (none)) else (none))) else (none)) else (none))) else (none)) else (none))=some r:=H;have nM:=oa.mk cD;clear cD
                by_cases yp:((((((mb ++ t108) ++ (⟨#[58,32]⟩:ByteArray)) ++ (Ob ByteArray.empty ic ((za Ba Na).f0))) ++ (⟨#[32]⟩:ByteArray)) ++ t110) ++ (⟨#[32]⟩:ByteArray)).size + t111.size ≤ 9223372036854775807
                ·rw [if_pos yp] at H;have mC:=eq_true yp;have rK:decide (((((((mb ++ t108) ++ (⟨#[58,32]⟩:ByteArray)) ++ (Ob ByteArray.empty ic ((za Ba Na).f0))) ++ (⟨#[32]⟩:ByteArray)) ++ t110) ++ (⟨#[32]⟩:ByteArray)).size + t111.size ≤ 9223372036854775807)=true:=decide_eq_true yp
                 try have qK:(9223372036854775807 < ((((((mb ++ t108) ++ (⟨#[58,32]⟩:ByteArray)) ++ (Ob ByteArray.empty ic ((za Ba Na).f0))) ++ (⟨#[32]⟩:ByteArray)) ++ t110) ++ (⟨#[32]⟩:ByteArray)).size + t111.size)=False:=eq_false (Nat.not_lt.2 yp)
                 try have pK:(9223372036854775807 < ((((((mb.size + t108.size) + 2) + (Ob ByteArray.empty ic ((za Ba Na).f0)).size) + 1) + t110.size) + 1) + t111.size)=False:=by have h_:=yp;simp only [ByteArray.size_append] at h_;exact eq_false (Nat.not_lt.2 h_)
                 by_cases Rt:(((((((mb ++ t108) ++ (⟨#[58,32]⟩:ByteArray)) ++ (Ob ByteArray.empty ic ((za Ba Na).f0))) ++ (⟨#[32]⟩:ByteArray)) ++ t110) ++ (⟨#[32]⟩:ByteArray)) ++ t111).size + 1 ≤ 9223372036854775807
                 ·rw [if_pos Rt] at H;have oK:=eq_true Rt;have nK:decide ((((((((mb ++ t108) ++ (⟨#[58,32]⟩:ByteArray)) ++ (Ob ByteArray.empty ic ((za Ba Na).f0))) ++ (⟨#[32]⟩:ByteArray)) ++ t110) ++ (⟨#[32]⟩:ByteArray)) ++ t111).size + 1 ≤ 9223372036854775807)=true:=decide_eq_true Rt
                  try have mK:(9223372036854775807 < (((((((mb ++ t108) ++ (⟨#[58,32]⟩:ByteArray)) ++ (Ob ByteArray.empty ic ((za Ba Na).f0))) ++ (⟨#[32]⟩:ByteArray)) ++ t110) ++ (⟨#[32]⟩:ByteArray)) ++ t111).size + 1)=False:=eq_false (Nat.not_lt.2 Rt)
                  try have lK:(9223372036854775807 < (((((((mb.size + t108.size) + 2) + (Ob ByteArray.empty ic ((za Ba Na).f0)).size) + 1) + t110.size) + 1) + t111.size) + 1)=False:=by have h_:=Rt;simp only [ByteArray.size_append] at h_;exact eq_false (Nat.not_lt.2 h_)
                  replace H:=Option.bind_eq_some_iff.mp H;obtain ⟨t112,aD,H⟩:=H;replace H:(if ((((((((mb ++ t108) ++ (⟨#[58,32]⟩:ByteArray)) ++ (Ob ByteArray.empty ic ((za Ba Na).f0))) ++ (⟨#[32]⟩:ByteArray)) ++ t110) ++ (⟨#[32]⟩:ByteArray)) ++ t111) ++ (⟨#[32]⟩:ByteArray)).size + t112.size ≤ 9223372036854775807 then (if (((((((((mb ++ t108) ++ (⟨#[58,32]⟩:ByteArray)) ++ (Ob ByteArray.empty ic ((za Ba Na).f0))) ++ (⟨#[32]⟩:ByteArray)) ++ t110) ++ (⟨#[32]⟩:ByteArray)) ++ t111) ++ (⟨#[32]⟩:ByteArray)) ++ t112).size + 1 ≤ 9223372036854775807 then ((Ya.f sj ((za Ba Na).f4)).bind fun t113=>(if ((((((((((mb ++ t108) ++ (⟨#[58,32]⟩:ByteArray)) ++ (Ob ByteArray.empty ic ((za Ba Na).f0))) ++ (⟨#[32]⟩:ByteArray)) ++ t110) ++ (⟨#[32]⟩:ByteArray)) ++ t111) ++ (⟨#[32]⟩:ByteArray)) ++ t112) ++ (⟨#[32]⟩:ByteArray)).size + t113.size ≤ 9223372036854775807 then (if (((((((((((mb ++ t108) ++ (⟨#[58,32]⟩:ByteArray)) ++ (Ob ByteArray.empty ic ((za Ba Na).f0))) ++ (⟨#[32]⟩:ByteArray)) ++ t110) ++ (⟨#[32]⟩:ByteArray)) ++ t111) ++ (⟨#[32]⟩:ByteArray)) ++ t112) ++ (⟨#[32]⟩:ByteArray)) ++ t113).size + 1 ≤ 9223372036854775807 then (Wa.l0 sj ((((((((((((mb ++ t108) ++ (⟨#[58,32]⟩:ByteArray)) ++ (Ob ByteArray.empty ic ((za Ba Na).f0))) ++ (⟨#[32]⟩:ByteArray)) ++ t110) ++ (⟨#[32]⟩:ByteArray)) ++ t111) ++ (⟨#[32]⟩:ByteArray)) ++ t112) ++ (⟨#[32]⟩:ByteArray)) ++ t113) ++ (⟨#[10]⟩:ByteArray)) ic (wrap64 (Na + 1)) Qa Oa Pa Ba) else (none)) else (none))) else (none)) else (none))=some r:=H;have mM:=oa.mk aD;clear aD
                  by_cases VA:((((((((mb ++ t108) ++ (⟨#[58,32]⟩:ByteArray)) ++ (Ob ByteArray.empty ic ((za Ba Na).f0))) ++ (⟨#[32]⟩:ByteArray)) ++ t110) ++ (⟨#[32]⟩:ByteArray)) ++ t111) ++ (⟨#[32]⟩:ByteArray)).size + t112.size ≤ 9223372036854775807
                  ·rw [if_pos VA] at H;have kK:=eq_true VA;have jK:decide (((((((((mb ++ t108) ++ (⟨#[58,32]⟩:ByteArray)) ++ (Ob ByteArray.empty ic ((za Ba Na).f0))) ++ (⟨#[32]⟩:ByteArray)) ++ t110) ++ (⟨#[32]⟩:ByteArray)) ++ t111) ++ (⟨#[32]⟩:ByteArray)).size + t112.size ≤ 9223372036854775807)=true:=decide_eq_true VA
                   try have iK:(9223372036854775807 < ((((((((mb ++ t108) ++ (⟨#[58,32]⟩:ByteArray)) ++ (Ob ByteArray.empty ic ((za Ba Na).f0))) ++ (⟨#[32]⟩:ByteArray)) ++ t110) ++ (⟨#[32]⟩:ByteArray)) ++ t111) ++ (⟨#[32]⟩:ByteArray)).size + t112.size)=False:=eq_false (Nat.not_lt.2 VA)
                   try have gK:(9223372036854775807 < ((((((((mb.size + t108.size) + 2) + (Ob ByteArray.empty ic ((za Ba Na).f0)).size) + 1) + t110.size) + 1) + t111.size) + 1) + t112.size)=False:=by have h_:=VA;simp only [ByteArray.size_append] at h_;exact eq_false (Nat.not_lt.2 h_)
                   by_cases gz:(((((((((mb ++ t108) ++ (⟨#[58,32]⟩:ByteArray)) ++ (Ob ByteArray.empty ic ((za Ba Na).f0))) ++ (⟨#[32]⟩:ByteArray)) ++ t110) ++ (⟨#[32]⟩:ByteArray)) ++ t111) ++ (⟨#[32]⟩:ByteArray)) ++ t112).size + 1 ≤ 9223372036854775807
                   ·rw [if_pos gz] at H;have fK:=eq_true gz;have eK:decide ((((((((((mb ++ t108) ++ (⟨#[58,32]⟩:ByteArray)) ++ (Ob ByteArray.empty ic ((za Ba Na).f0))) ++ (⟨#[32]⟩:ByteArray)) ++ t110) ++ (⟨#[32]⟩:ByteArray)) ++ t111) ++ (⟨#[32]⟩:ByteArray)) ++ t112).size + 1 ≤ 9223372036854775807)=true:=decide_eq_true gz
                    try have dK:(9223372036854775807 < (((((((((mb ++ t108) ++ (⟨#[58,32]⟩:ByteArray)) ++ (Ob ByteArray.empty ic ((za Ba Na).f0))) ++ (⟨#[32]⟩:ByteArray)) ++ t110) ++ (⟨#[32]⟩:ByteArray)) ++ t111) ++ (⟨#[32]⟩:ByteArray)) ++ t112).size + 1)=False:=eq_false (Nat.not_lt.2 gz)
                    try have cK:(9223372036854775807 < (((((((((mb.size + t108.size) + 2) + (Ob ByteArray.empty ic ((za Ba Na).f0)).size) + 1) + t110.size) + 1) + t111.size) + 1) + t112.size) + 1)=False:=by have h_:=gz;simp only [ByteArray.size_append] at h_;exact eq_false (Nat.not_lt.2 h_)
                    replace H:=Option.bind_eq_some_iff.mp H;obtain ⟨t113,YC,H⟩:=H;replace H:(if ((((((((((mb ++ t108) ++ (⟨#[58,32]⟩:ByteArray)) ++ (Ob ByteArray.empty ic ((za Ba Na).f0))) ++ (⟨#[32]⟩:ByteArray)) ++ t110) ++ (⟨#[32]⟩:ByteArray)) ++ t111) ++ (⟨#[32]⟩:ByteArray)) ++ t112) ++ (⟨#[32]⟩:ByteArray)).size + t113.size ≤ 9223372036854775807 then (if (((((((((((mb ++ t108) ++ (⟨#[58,32]⟩:ByteArray)) ++ (Ob ByteArray.empty ic ((za Ba Na).f0))) ++ (⟨#[32]⟩:ByteArray)) ++ t110) ++ (⟨#[32]⟩:ByteArray)) ++ t111) ++ (⟨#[32]⟩:ByteArray)) ++ t112) ++ (⟨#[32]⟩:ByteArray)) ++ t113).size + 1 ≤ 9223372036854775807 then (Wa.l0 sj ((((((((((((mb ++ t108) ++ (⟨#[58,32]⟩:ByteArray)) ++ (Ob ByteArray.empty ic ((za Ba Na).f0))) ++ (⟨#[32]⟩:ByteArray)) ++ t110) ++ (⟨#[32]⟩:ByteArray)) ++ t111) ++ (⟨#[32]⟩:ByteArray)) ++ t112) ++ (⟨#[32]⟩:ByteArray)) ++ t113) ++ (⟨#[10]⟩:ByteArray)) ic (wrap64 (Na + 1)) Qa Oa Pa Ba) else (none)) else (none))=some r:=H;have zu:=oa.mk YC;clear YC
                    by_cases uv:((((((((((mb ++ t108) ++ (⟨#[58,32]⟩:ByteArray)) ++ (Ob ByteArray.empty ic ((za Ba Na).f0))) ++ (⟨#[32]⟩:ByteArray)) ++ t110) ++ (⟨#[32]⟩:ByteArray)) ++ t111) ++ (⟨#[32]⟩:ByteArray)) ++ t112) ++ (⟨#[32]⟩:ByteArray)).size + t113.size ≤ 9223372036854775807
                    ·rw [if_pos uv] at H;have kC:=eq_true uv;have bK:decide (((((((((((mb ++ t108) ++ (⟨#[58,32]⟩:ByteArray)) ++ (Ob ByteArray.empty ic ((za Ba Na).f0))) ++ (⟨#[32]⟩:ByteArray)) ++ t110) ++ (⟨#[32]⟩:ByteArray)) ++ t111) ++ (⟨#[32]⟩:ByteArray)) ++ t112) ++ (⟨#[32]⟩:ByteArray)).size + t113.size ≤ 9223372036854775807)=true:=decide_eq_true uv
                     try have aK:(9223372036854775807 < ((((((((((mb ++ t108) ++ (⟨#[58,32]⟩:ByteArray)) ++ (Ob ByteArray.empty ic ((za Ba Na).f0))) ++ (⟨#[32]⟩:ByteArray)) ++ t110) ++ (⟨#[32]⟩:ByteArray)) ++ t111) ++ (⟨#[32]⟩:ByteArray)) ++ t112) ++ (⟨#[32]⟩:ByteArray)).size + t113.size)=False:=eq_false (Nat.not_lt.2 uv)
                     try have ZJ:(9223372036854775807 < ((((((((((mb.size + t108.size) + 2) + (Ob ByteArray.empty ic ((za Ba Na).f0)).size) + 1) + t110.size) + 1) + t111.size) + 1) + t112.size) + 1) + t113.size)=False:=by have h_:=uv;simp only [ByteArray.size_append] at h_;exact eq_false (Nat.not_lt.2 h_)
                     by_cases Gm:(((((((((((mb ++ t108) ++ (⟨#[58,32]⟩:ByteArray)) ++ (Ob ByteArray.empty ic ((za Ba Na).f0))) ++ (⟨#[32]⟩:ByteArray)) ++ t110) ++ (⟨#[32]⟩:ByteArray)) ++ t111) ++ (⟨#[32]⟩:ByteArray)) ++ t112) ++ (⟨#[32]⟩:ByteArray)) ++ t113).size + 1 ≤ 9223372036854775807
                     ·rw [if_pos Gm] at H;have gq:=eq_true Gm;have Qt:decide ((((((((((((mb ++ t108) ++ (⟨#[58,32]⟩:ByteArray)) ++ (Ob ByteArray.empty ic ((za Ba Na).f0))) ++ (⟨#[32]⟩:ByteArray)) ++ t110) ++ (⟨#[32]⟩:ByteArray)) ++ t111) ++ (⟨#[32]⟩:ByteArray)) ++ t112) ++ (⟨#[32]⟩:ByteArray)) ++ t113).size + 1 ≤ 9223372036854775807)=true:=decide_eq_true Gm
                      try have YJ:(9223372036854775807 < (((((((((((mb ++ t108) ++ (⟨#[58,32]⟩:ByteArray)) ++ (Ob ByteArray.empty ic ((za Ba Na).f0))) ++ (⟨#[32]⟩:ByteArray)) ++ t110) ++ (⟨#[32]⟩:ByteArray)) ++ t111) ++ (⟨#[32]⟩:ByteArray)) ++ t112) ++ (⟨#[32]⟩:ByteArray)) ++ t113).size + 1)=False:=eq_false (Nat.not_lt.2 Gm)
                      try have XJ:(9223372036854775807 < (((((((((((mb.size + t108.size) + 2) + (Ob ByteArray.empty ic ((za Ba Na).f0)).size) + 1) + t110.size) + 1) + t111.size) + 1) + t112.size) + 1) + t113.size) + 1)=False:=by have h_:=Gm;simp only [ByteArray.size_append] at h_;exact eq_false (Nat.not_lt.2 h_)
                      have H':=oa.mk H;clear H;have iG:wc.cell? ⟨Fa,0,none⟩=some (.slice yb Qa.length xb):=(ja ya.out 0).trans rfl;have hG:wc.cell? ⟨Fa,1,none⟩=some (.int .i64 Oa):=(ja ya.out 1).trans rfl;have gG:wc.cell? ⟨Fa,2,none⟩=some (.int .i64 Pa):=(ja ya.out 2).trans rfl;have fG:wc.cell? ⟨Fa,3,none⟩=some (.slice Db Ba.length zb):=(ja ya.out 3).trans rfl;have rE:=ga ya.out 0;have qE:=ga ya.out 1;have pE:=ga ya.out 2;have nE:=ga ya.out 3;have Gp:0 ≤ (Na:Int):=of_decide_eq_true (by first|(with_reducible assumption)|assumption);have Ep:Na < (Ba.length:Int):=of_decide_eq_true (by first|(with_reducible assumption)|assumption);obtain ⟨Rg,uA,ai,Zh,Yh,Xh,Wh⟩:=Df Vd.out Na Gp Ep;cases uA;replace ai:=Ra HB.out ai;replace Zh:=Ra HB.out Zh;replace Yh:=Ra HB.out Yh;replace Xh:=Ra HB.out Xh;replace Wh:=Ra HB.out Wh;replace Gp:=eq_true Gp;replace Ep:=eq_true Ep
                      try go_wp2_with (first|((with_reducible refine Nb (N:=6) rfl ?_);refine Jb ?hg (N:=6) ?hd (cs:=#[.int .i64 0,.int .i64 0,.int .i64 0,.int .i64 0,.int .i64 0]) (t:=53) ?hr ?_;(case hd=>rfl);(case hg=>rfl);(case hr=>first|(go_simp;done)|(go_simp;rfl));intro Gb hg zm Rb hb;have Tb:=oa.mk (Kd.Pc (by (with_reducible repeat (first|apply Kd.Fb|apply Kd.Eb|apply Kd.Qb));exact Wg.out) hb);have Xb:=oa.mk (jb (g:=Fa) (o:=.cells #[.slice yb Qa.length xb,.int .i64 Oa,.int .i64 Pa,.slice (some Rg) Ba.length zb] 37 (0,0)) (by (with_reducible repeat (first|refine Ca ?_ _|refine Ea ?_|refine Da ?_ _));exact ya.out) hb);have tc:=oa.mk (Ta (by repeat (first|(with_reducible first|exact HB.out|apply ia|apply aa|apply qa|refine ua ?_ Ua.out)|exact HB.out)) hb);have Ec:=oa.mk (Rb);have fe:=oa.mk ((by rw [hg];exact (Ka (by repeat (first|(with_reducible first|exact HB.out|apply ia|apply aa|apply qa|refine ua ?_ Ua.out)|exact HB.out))):w.heap.size ≤ Gb));have Ae:=oa.mk ((by rw [hg];exact (Ka (by repeat (first|(with_reducible first|exact HB.out|apply ia|apply aa|apply qa|refine ua ?_ Ua.out)|exact HB.out))):w.heap.size ≤ Gb));have Me:=oa.mk ((by rw [hg];exact Nat.ne_of_lt (Dc (g:=Fa) (o:=.cells #[.slice yb Qa.length xb,.int .i64 Oa,.int .i64 Pa,.slice (some Rg) Ba.length zb] 37 (0,0)) (by (with_reducible repeat (first|refine Ca ?_ _|refine Ea ?_|refine Da ?_ _));exact ya.out)):Fa ≠ Gb));have Mm:=oa.mk ((by rw [hg];exact Nat.ne_of_gt (Dc (g:=Fa) (o:=.cells #[.slice yb Qa.length xb,.int .i64 Oa,.int .i64 Pa,.slice (some Rg) Ba.length zb] 37 (0,0)) (by (with_reducible repeat (first|refine Ca ?_ _|refine Ea ?_|refine Da ?_ _));exact ya.out)):Gb ≠ Fa));clear Wg ya HB;have Wg:=Tb;have ya:=Xb;have HB:=tc;have Ib:=Ec;have NC:=fe;have Qh:=Ae;have Jd:=Me;have Kk:=Mm;clear Tb Xb tc Ec fe Ae Me Mm hb Rb hg;have vB:=Kk.out;have qB:=Jd.out;have Et:zm.cell? ⟨Gb,0,none⟩=some (.int .i64 0):=(ja Ib.out 0).trans rfl;have Dt:zm.cell? ⟨Gb,1,none⟩=some (.int .i64 0):=(ja Ib.out 1).trans rfl;have Ct:zm.cell? ⟨Gb,2,none⟩=some (.int .i64 0):=(ja Ib.out 2).trans rfl;have Bt:zm.cell? ⟨Gb,3,none⟩=some (.int .i64 0):=(ja Ib.out 3).trans rfl;have Px:zm.cell? ⟨Gb,4,none⟩=some (.int .i64 0):=(ja Ib.out 4).trans rfl;have Ss:=ga Ib.out 0;have Rs:=ga Ib.out 1;have Qs:=ga Ib.out 2;have Ns:=ga Ib.out 3;have Nw:=ga Ib.out 4))
                      have Tb:oa (Kd.R Kd.string 9 (((((zm.setCell ⟨Gb,0,none⟩ (.int .i64 ((za Ba Na).f0))).setCell ⟨Gb,1,none⟩ (.int .i64 ((za Ba Na).f1))).setCell ⟨Gb,2,none⟩ (.int .i64 ((za Ba Na).f2))).setCell ⟨Gb,3,none⟩ (.int .i64 ((za Ba Na).f3))).setCell ⟨Gb,4,none⟩ (.int .i64 ((za Ba Na).f4))) w.heap.size (fun _=>True) Hz ic):=⟨by (with_reducible repeat (first|apply Kd.Fb|apply Kd.Eb|apply Kd.Qb));exact Kd.Te (Kd.Qc (p:=⟨Gb,4,none⟩) (Kd.Qc (p:=⟨Gb,3,none⟩) (Kd.Qc (p:=⟨Gb,2,none⟩) (Kd.Qc (p:=⟨Gb,1,none⟩) (Kd.Qc (p:=⟨Gb,0,none⟩) (Kd.Ke Wg.out Ib.out (by decide)) (fun _ hk=>hk.2) (.int .i64 ((za Ba Na).f0))) (fun _ hk=>hk.2) (.int .i64 ((za Ba Na).f1))) (fun _ hk=>hk.2) (.int .i64 ((za Ba Na).f2))) (fun _ hk=>hk.2) (.int .i64 ((za Ba Na).f3))) (fun _ hk=>hk.2) (.int .i64 ((za Ba Na).f4))) (fun _ hk=>trivial)⟩;have Xb:oa ((((((zm.setCell ⟨Gb,0,none⟩ (.int .i64 ((za Ba Na).f0))).setCell ⟨Gb,1,none⟩ (.int .i64 ((za Ba Na).f1))).setCell ⟨Gb,2,none⟩ (.int .i64 ((za Ba Na).f2))).setCell ⟨Gb,3,none⟩ (.int .i64 ((za Ba Na).f3))).setCell ⟨Gb,4,none⟩ (.int .i64 ((za Ba Na).f4))).heap[Fa]? = some (.cells #[.slice yb Qa.length xb,.int .i64 Oa,.int .i64 Pa,.slice (some Rg) Ba.length zb] 37 (0,0))):=⟨by (with_reducible repeat (first|refine Ca ?_ _|refine Ea ?_|refine Da ?_ _));refine Vc ?_ Jd.out _;(with_reducible repeat (first|refine Ca ?_ _|refine Ea ?_|refine Da ?_ _));refine Vc ?_ Jd.out _;(with_reducible repeat (first|refine Ca ?_ _|refine Ea ?_|refine Da ?_ _));refine Vc ?_ Jd.out _;(with_reducible repeat (first|refine Ca ?_ _|refine Ea ?_|refine Da ?_ _));refine Vc ?_ Jd.out _;(with_reducible repeat (first|refine Ca ?_ _|refine Ea ?_|refine Da ?_ _));refine Vc ?_ Jd.out _;(with_reducible repeat (first|refine Ca ?_ _|refine Ea ?_|refine Da ?_ _));exact ya.out⟩;have tc:oa ((((((zm.setCell ⟨Gb,0,none⟩ (.int .i64 ((za Ba Na).f0))).setCell ⟨Gb,1,none⟩ (.int .i64 ((za Ba Na).f1))).setCell ⟨Gb,2,none⟩ (.int .i64 ((za Ba Na).f2))).setCell ⟨Gb,3,none⟩ (.int .i64 ((za Ba Na).f3))).setCell ⟨Gb,4,none⟩ (.int .i64 ((za Ba Na).f4))).heap[Gb]? = some (.cells #[.int .i64 ((za Ba Na).f0),.int .i64 ((za Ba Na).f1),.int .i64 ((za Ba Na).f2),.int .i64 ((za Ba Na).f3),.int .i64 ((za Ba Na).f4)] 53 (0,0))):=⟨by (with_reducible repeat (first|refine Ca ?_ _|refine Ea ?_|refine Da ?_ _));refine Uc (cs:=#[.int .i64 ((za Ba Na).f0),.int .i64 ((za Ba Na).f1),.int .i64 ((za Ba Na).f2),.int .i64 ((za Ba Na).f3),.int .i64 0]) ?_ 4 _ rfl;(with_reducible repeat (first|refine Ca ?_ _|refine Ea ?_|refine Da ?_ _));refine Uc (cs:=#[.int .i64 ((za Ba Na).f0),.int .i64 ((za Ba Na).f1),.int .i64 ((za Ba Na).f2),.int .i64 0,.int .i64 0]) ?_ 3 _ rfl;(with_reducible repeat (first|refine Ca ?_ _|refine Ea ?_|refine Da ?_ _));refine Uc (cs:=#[.int .i64 ((za Ba Na).f0),.int .i64 ((za Ba Na).f1),.int .i64 0,.int .i64 0,.int .i64 0]) ?_ 2 _ rfl;(with_reducible repeat (first|refine Ca ?_ _|refine Ea ?_|refine Da ?_ _));refine Uc (cs:=#[.int .i64 ((za Ba Na).f0),.int .i64 0,.int .i64 0,.int .i64 0,.int .i64 0]) ?_ 1 _ rfl;(with_reducible repeat (first|refine Ca ?_ _|refine Ea ?_|refine Da ?_ _));refine Uc (cs:=#[.int .i64 0,.int .i64 0,.int .i64 0,.int .i64 0,.int .i64 0]) ?_ 0 _ rfl;(with_reducible repeat (first|refine Ca ?_ _|refine Ea ?_|refine Da ?_ _));exact Ib.out⟩;have Ec:oa (Below w.heap.size w (((((zm.setCell ⟨Gb,0,none⟩ (.int .i64 ((za Ba Na).f0))).setCell ⟨Gb,1,none⟩ (.int .i64 ((za Ba Na).f1))).setCell ⟨Gb,2,none⟩ (.int .i64 ((za Ba Na).f2))).setCell ⟨Gb,3,none⟩ (.int .i64 ((za Ba Na).f3))).setCell ⟨Gb,4,none⟩ (.int .i64 ((za Ba Na).f4)))):=⟨by repeat (first|(with_reducible first|exact HB.out|apply ia|apply aa|apply qa|refine ua ?_ Ua.out|refine ua ?_ Qh.out)|exact HB.out)⟩;(try clear Wg);(try clear ya);(try clear Ib);(try clear HB);generalize (((((zm.setCell ⟨Gb,0,none⟩ (.int .i64 ((za Ba Na).f0))).setCell ⟨Gb,1,none⟩ (.int .i64 ((za Ba Na).f1))).setCell ⟨Gb,2,none⟩ (.int .i64 ((za Ba Na).f2))).setCell ⟨Gb,3,none⟩ (.int .i64 ((za Ba Na).f3))).setCell ⟨Gb,4,none⟩ (.int .i64 ((za Ba Na).f4)))=dL at Tb Xb tc Ec ⊢;have Wg:=Tb;have ya:=Xb;have Ib:=tc;have HB:=Ec;clear Tb Xb tc Ec;have Tb:=oa.mk (Kd.Qb Wg.out);have Xb:=oa.mk (Ea ya.out);have tc:=oa.mk (Ea Ib.out);have Ec:=oa.mk (qa HB.out);clear Wg ya Ib HB;have Wg:=Tb;have ya:=Xb;have Ib:=tc;have HB:=Ec;clear Tb Xb tc Ec;obtain ⟨dM,ML,MB⟩:=Kd.zf Wg.out;(first|subst MB|(injection MB with Yu nA Xu;have mA:=Yu.symm;have lA:=Xu.symm;clear Yu nA Xu;subst mA;subst lA));have Fp:0 ≤ (((za Ba Na).f0):Int):=of_decide_eq_true (by first|(with_reducible assumption)|assumption);have Dp:((za Ba Na).f0) < (ic.length:Int):=of_decide_eq_true (by first|(with_reducible assumption)|assumption);obtain ⟨Vt,sA,Vh⟩:=Kd.Ym (Kd.Mc Wg.out).2.2 ((za Ba Na).f0) Fp Dp;cases sA;replace Fp:=eq_true Fp;replace Dp:=eq_true Dp;refine Ui (n:=33) (S:=fun w'=>w'.cell? ⟨Gb,0,none⟩=some (.int .i64 ((za Ba Na).f0))∧w'.cell? ⟨Gb,1,none⟩=some (.int .i64 ((za Ba Na).f1))∧w'.cell? ⟨Gb,2,none⟩=some (.int .i64 ((za Ba Na).f2))∧w'.cell? ⟨Gb,3,none⟩=some (.int .i64 ((za Ba Na).f3))∧w'.cell? ⟨Gb,4,none⟩=some (.int .i64 ((za Ba Na).f4))∧w'.cell? (Vt.add (((za Ba Na).f0)).toNat)=some (.string (Ob ByteArray.empty ic ((za Ba Na).f0)))) (ds:=[]) #[false,false,false,false,false,false,false,false,false,false,false,false,false,false,false,false,false,false,false,false,false,false,false,false,false,false,false,false,false,false,false,false,false] (by kernel_rfl) rfl rfl ⟨(ja Ib.out 0).trans rfl,(ja Ib.out 1).trans rfl,(ja Ib.out 2).trans rfl,(ja Ib.out 3).trans rfl,(ja Ib.out 4).trans rfl,Vh⟩ (fun hHeld=>?_);refine ug Wa.kH Wa.yC (fun Md um=>?_);generalize dL.drew=YA at Wg ya Ib HB Vh hHeld ⊢;refine Gc (i:=0) (N:=some 24) (v:=?_) (a':=?_) #[true,false,false,false,false,false,false,false,false,false,false,false,false,false,false,false,false,false,false,false,false,false,false,false,false,false,false,false,false,false,false,false,false] rfl rfl (fc Md.out (by kernel_rfl)) (fun _ _ _ h=>h) (Or.inl ⟨by rfl,?_⟩) ?_ ?_;rotate_left
                      ·intro w';go_simp;with_reducible rfl
                      rotate_left
                      ·simp only [Act.put,List.setIfInBounds_toArray,List.set_cons_zero,List.set_cons_succ,Kb,Mb]
                       rfl
                      refine Gc (i:=1) (N:=some 25) (v:=?_) (a':=?_) #[true,true,false,false,false,false,false,false,false,false,false,false,false,false,false,false,false,false,false,false,false,false,false,false,false,false,false,false,false,false,false,false,false] rfl rfl (fc Md.out (by kernel_rfl)) (fun _ _ _ h=>h) (Or.inl ⟨by rfl,?_⟩) ?_ ?_;rotate_left
                      ·intro w';go_simp;with_reducible rfl
                      rotate_left
                      ·simp only [Act.put,List.setIfInBounds_toArray,List.set_cons_zero,List.set_cons_succ,Kb,Mb]
                       rfl
                      refine Gc (i:=5) (N:=some 29) (v:=?_) (a':=?_) #[true,true,false,false,false,true,false,false,false,false,false,false,false,false,false,false,false,false,false,false,false,false,false,false,false,false,false,false,false,false,false,false,false] rfl rfl (fc Md.out (by kernel_rfl)) (fun _ _ _ h=>h) (Or.inl ⟨by rfl,?_⟩) ?_ ?_;rotate_left
                      ·intro w';go_simp;with_reducible rfl
                      rotate_left
                      ·simp only [Act.put,List.setIfInBounds_toArray,List.set_cons_zero,List.set_cons_succ,Kb,Mb]
                       rfl
                      refine Gc (i:=6) (N:=some 30) (v:=?_) (a':=?_) #[true,true,false,false,false,true,true,false,false,false,false,false,false,false,false,false,false,false,false,false,false,false,false,false,false,false,false,false,false,false,false,false,false] rfl rfl (fc Md.out (by kernel_rfl)) (fun _ _ _ h=>h) (Or.inl ⟨by rfl,?_⟩) ?_ ?_;rotate_left
                      ·intro w';go_simp;with_reducible rfl
                      rotate_left
                      ·simp only [Act.put,List.setIfInBounds_toArray,List.set_cons_zero,List.set_cons_succ,Kb,Mb]
                       rfl
                      refine Gc (i:=12) (N:=some 36) (v:=?_) (a':=?_) #[true,true,false,false,false,true,true,false,false,false,false,false,true,false,false,false,false,false,false,false,false,false,false,false,false,false,false,false,false,false,false,false,false] rfl rfl (fc Md.out (by kernel_rfl)) (fun _ _ _ h=>h) (Or.inl ⟨by rfl,?_⟩) ?_ ?_;rotate_left
                      ·intro w';go_simp;with_reducible rfl
                      rotate_left
                      ·simp only [Act.put,List.setIfInBounds_toArray,List.set_cons_zero,List.set_cons_succ,Kb,Mb]
                       rfl
                      refine Gc (i:=17) (N:=some 41) (v:=?_) (a':=?_) #[true,true,false,false,false,true,true,false,false,false,false,false,true,false,false,false,false,true,false,false,false,false,false,false,false,false,false,false,false,false,false,false,false] rfl rfl (fc Md.out (by kernel_rfl)) (fun _ _ _ h=>h) (Or.inl ⟨by rfl,?_⟩) ?_ ?_;rotate_left
                      ·intro w';go_simp;with_reducible rfl
                      rotate_left
                      ·simp only [Act.put,List.setIfInBounds_toArray,List.set_cons_zero,List.set_cons_succ,Kb,Mb]
                       rfl
                      refine Gc (i:=22) (N:=some 46) (v:=?_) (a':=?_) #[true,true,false,false,false,true,true,false,false,false,false,false,true,false,false,false,false,true,false,false,false,false,true,false,false,false,false,false,false,false,false,false,false] rfl rfl (fc Md.out (by kernel_rfl)) (fun _ _ _ h=>h) (Or.inl ⟨by rfl,?_⟩) ?_ ?_;rotate_left
                      ·intro w';go_simp;with_reducible rfl
                      rotate_left
                      ·simp only [Act.put,List.setIfInBounds_toArray,List.set_cons_zero,List.set_cons_succ,Kb,Mb]
                       rfl
                      refine Gc (i:=27) (N:=some 51) (v:=?_) (a':=?_) #[true,true,false,false,false,true,true,false,false,false,false,false,true,false,false,false,false,true,false,false,false,false,true,false,false,false,false,true,false,false,false,false,false] rfl rfl (fc Md.out (by kernel_rfl)) (fun _ _ _ h=>h) (Or.inl ⟨by rfl,?_⟩) ?_ ?_;rotate_left
                      ·intro w';go_simp;with_reducible rfl
                      rotate_left
                      ·simp only [Act.put,List.setIfInBounds_toArray,List.set_cons_zero,List.set_cons_succ,Kb,Mb]
                       rfl
                      refine Le (i:=7) (N:=some 31) (v:=?_) (a':=?_) #[true,true,false,false,false,true,true,true,false,false,false,false,true,false,false,false,false,true,false,false,false,false,true,false,false,false,false,true,false,false,false,false,false] rfl rfl (ud Md.out um.out (by kernel_rfl)) (fun _ _ _ h=>h) (Or.inl ⟨by rfl,?_⟩) hHeld ?_ ?_;rotate_left
                      ·rintro w' ⟨s0,s1,s2,s3,s4,s5⟩;go_simp;with_reducible rfl
                      rotate_left
                      ·simp only [Act.put,List.setIfInBounds_toArray,List.set_cons_zero,List.set_cons_succ,Kb,Mb]
                       rfl
                      refine Gc (i:=8) (N:=some 32) (v:=?_) (a':=?_) #[true,true,false,false,false,true,true,true,true,false,false,false,true,false,false,false,false,true,false,false,false,false,true,false,false,false,false,true,false,false,false,false,false] rfl rfl (fc Md.out (by kernel_rfl)) (fun _ _ _ h=>h) (Or.inl ⟨by rfl,?_⟩) ?_ ?_;rotate_left
                      ·intro w';go_simp;with_reducible rfl
                      rotate_left
                      ·simp only [Act.put,List.setIfInBounds_toArray,List.set_cons_zero,List.set_cons_succ,Kb,Mb]
                       rfl
                      refine Le (i:=9) (N:=some 33) (v:=?_) (a':=?_) #[true,true,false,false,false,true,true,true,true,true,false,false,true,false,false,false,false,true,false,false,false,false,true,false,false,false,false,true,false,false,false,false,false] rfl rfl (ud Md.out um.out (by kernel_rfl)) (fun _ _ _ h=>h) (Or.inl ⟨by rfl,?_⟩) hHeld ?_ ?_;rotate_left
                      ·rintro w' ⟨s0,s1,s2,s3,s4,s5⟩;go_simp;with_reducible rfl
                      rotate_left
                      ·simp only [Act.put,List.setIfInBounds_toArray,List.set_cons_zero,List.set_cons_succ,Kb,Mb]
                       rfl
                      refine Le (i:=13) (N:=some 37) (v:=?_) (a':=?_) #[true,true,false,false,false,true,true,true,true,true,false,false,true,true,false,false,false,true,false,false,false,false,true,false,false,false,false,true,false,false,false,false,false] rfl rfl (ud Md.out um.out (by kernel_rfl)) (fun _ _ _ h=>h) (Or.inl ⟨by rfl,?_⟩) hHeld ?_ ?_;rotate_left
                      ·rintro w' ⟨s0,s1,s2,s3,s4,s5⟩;go_simp;with_reducible rfl
                      rotate_left
                      ·simp only [Act.put,List.setIfInBounds_toArray,List.set_cons_zero,List.set_cons_succ,Kb,Mb]
                       rfl
                      refine Le (i:=18) (N:=some 42) (v:=?_) (a':=?_) #[true,true,false,false,false,true,true,true,true,true,false,false,true,true,false,false,false,true,true,false,false,false,true,false,false,false,false,true,false,false,false,false,false] rfl rfl (ud Md.out um.out (by kernel_rfl)) (fun _ _ _ h=>h) (Or.inl ⟨by rfl,?_⟩) hHeld ?_ ?_;rotate_left
                      ·rintro w' ⟨s0,s1,s2,s3,s4,s5⟩;go_simp;with_reducible rfl
                      rotate_left
                      ·simp only [Act.put,List.setIfInBounds_toArray,List.set_cons_zero,List.set_cons_succ,Kb,Mb]
                       rfl
                      refine Le (i:=23) (N:=some 47) (v:=?_) (a':=?_) #[true,true,false,false,false,true,true,true,true,true,false,false,true,true,false,false,false,true,true,false,false,false,true,true,false,false,false,true,false,false,false,false,false] rfl rfl (ud Md.out um.out (by kernel_rfl)) (fun _ _ _ h=>h) (Or.inl ⟨by rfl,?_⟩) hHeld ?_ ?_;rotate_left
                      ·rintro w' ⟨s0,s1,s2,s3,s4,s5⟩;go_simp;with_reducible rfl
                      rotate_left
                      ·simp only [Act.put,List.setIfInBounds_toArray,List.set_cons_zero,List.set_cons_succ,Kb,Mb]
                       rfl
                      refine Le (i:=28) (N:=some 52) (v:=?_) (a':=?_) #[true,true,false,false,false,true,true,true,true,true,false,false,true,true,false,false,false,true,true,false,false,false,true,true,false,false,false,true,true,false,false,false,false] rfl rfl (ud Md.out um.out (by kernel_rfl)) (fun _ _ _ h=>h) (Or.inl ⟨by rfl,?_⟩) hHeld ?_ ?_;rotate_left
                      ·rintro w' ⟨s0,s1,s2,s3,s4,s5⟩;go_simp;with_reducible rfl
                      rotate_left
                      ·simp only [Act.put,List.setIfInBounds_toArray,List.set_cons_zero,List.set_cons_succ,Kb,Mb]
                       rfl
                      refine Zk (i:=2) (N:=some 26) #[true,true,true,false,false,true,true,true,true,true,false,false,true,true,false,false,false,true,true,false,false,false,true,true,false,false,false,true,true,false,false,false,false] rfl rfl (Ig Md.out (by kernel_rfl)) (by decide) (fun K hK=>?_);refine Gh Tryd.func15 (by kernel_rfl) rfl #[.int .i64 Na] (by rfl) rfl rfl (by (try simp only [List.map_toArray,List.map_cons,List.map_nil]);first|done|rfl|(simp only [List.length_drop,List.length_take];rfl)) ?_;with_reducible refine (Ya.calls sj Na t108 _ qM.out).mono ?_
                      rintro e w' ⟨rfl,⟨nd,rfl⟩⟩;refine ⟨_,rfl,?_⟩;refine hK.out _ _ ⟨(ja Ib.out 0).trans rfl,(ja Ib.out 1).trans rfl,(ja Ib.out 2).trans rfl,(ja Ib.out 3).trans rfl,(ja Ib.out 4).trans rfl,hHeld.2.2.2.2.2⟩ (fun hHeld=>?_);clear hK K;refine Fh (a':=?_) ?_ ?_;rotate_left
                      ·show Act.put _ (some 26) _=_
                       simp only [Act.put,List.setIfInBounds_toArray,List.set_cons_zero,List.set_cons_succ,Kb,Mb]
                       rfl
                      refine Gc (i:=3) (N:=some 27) (v:=?_) (a':=?_) #[true,true,true,true,false,true,true,true,true,true,false,false,true,true,false,false,false,true,true,false,false,false,true,true,false,false,false,true,true,false,false,false,false] rfl rfl (fc Md.out (by kernel_rfl)) (fun _ _ _ h=>h) (Or.inl ⟨by rfl,?_⟩) ?_ ?_;rotate_left
                      ·intro w';go_simp;with_reducible rfl
                      rotate_left
                      ·simp only [Act.put,List.setIfInBounds_toArray,List.set_cons_zero,List.set_cons_succ,Kb,Mb]
                       rfl
                      refine Gc (i:=4) (N:=some 28) (v:=?_) (a':=?_) #[true,true,true,true,true,true,true,true,true,true,false,false,true,true,false,false,false,true,true,false,false,false,true,true,false,false,false,true,true,false,false,false,false] rfl rfl (fc Md.out (by kernel_rfl)) (fun _ _ _ h=>h) (Or.inl ⟨by rfl,?_⟩) ?_ ?_;rotate_left
                      ·intro w';go_simp;with_reducible rfl
                      rotate_left
                      ·simp only [Act.put,List.setIfInBounds_toArray,List.set_cons_zero,List.set_cons_succ,Kb,Mb]
                       rfl
                      refine Gc (i:=10) (N:=some 34) (v:=?_) (a':=?_) #[true,true,true,true,true,true,true,true,true,true,true,false,true,true,false,false,false,true,true,false,false,false,true,true,false,false,false,true,true,false,false,false,false] rfl rfl (fc Md.out (by kernel_rfl)) (fun _ _ _ h=>h) (Or.inl ⟨by rfl,?_⟩) ?_ ?_;rotate_left
                      ·intro w';go_simp;with_reducible rfl
                      rotate_left
                      ·simp only [Act.put,List.setIfInBounds_toArray,List.set_cons_zero,List.set_cons_succ,Kb,Mb]
                       rfl
                      refine Gc (i:=11) (N:=some 35) (v:=?_) (a':=?_) #[true,true,true,true,true,true,true,true,true,true,true,true,true,true,false,false,false,true,true,false,false,false,true,true,false,false,false,true,true,false,false,false,false] rfl rfl (fc Md.out (by kernel_rfl)) (fun _ _ _ h=>h) (Or.inl ⟨by rfl,?_⟩) ?_ ?_;rotate_left
                      ·intro w';go_simp;with_reducible rfl
                      rotate_left
                      ·simp only [Act.put,List.setIfInBounds_toArray,List.set_cons_zero,List.set_cons_succ,Kb,Mb]
                       rfl
                      refine Zk (i:=14) (N:=some 38) #[true,true,true,true,true,true,true,true,true,true,true,true,true,true,true,false,false,true,true,false,false,false,true,true,false,false,false,true,true,false,false,false,false] rfl rfl (Ig Md.out (by kernel_rfl)) (by decide) (fun K hK=>?_);refine Gh Tryd.func15 (by kernel_rfl) rfl #[.int .i64 ((za Ba Na).f1)] (by rfl) rfl rfl (by (try simp only [List.map_toArray,List.map_cons,List.map_nil]);first|done|rfl|(simp only [List.length_drop,List.length_take];rfl)) ?_;with_reducible refine (Ya.calls sj ((za Ba Na).f1) t110 _ oM.out).mono ?_
                      rintro e w' ⟨rfl,⟨nd,rfl⟩⟩;refine ⟨_,rfl,?_⟩;refine hK.out _ _ ⟨(ja Ib.out 0).trans rfl,(ja Ib.out 1).trans rfl,(ja Ib.out 2).trans rfl,(ja Ib.out 3).trans rfl,(ja Ib.out 4).trans rfl,hHeld.2.2.2.2.2⟩ (fun hHeld=>?_);clear hK K;refine Fh (a':=?_) ?_ ?_;rotate_left
                      ·show Act.put _ (some 38) _=_
                       simp only [Act.put,List.setIfInBounds_toArray,List.set_cons_zero,List.set_cons_succ,Kb,Mb]
                       rfl
                      refine Gc (i:=15) (N:=some 39) (v:=?_) (a':=?_) #[true,true,true,true,true,true,true,true,true,true,true,true,true,true,true,true,false,true,true,false,false,false,true,true,false,false,false,true,true,false,false,false,false] rfl rfl (fc Md.out (by kernel_rfl)) (fun _ _ _ h=>h) (Or.inl ⟨by rfl,?_⟩) ?_ ?_;rotate_left
                      ·intro w';go_simp;with_reducible rfl
                      rotate_left
                      ·simp only [Act.put,List.setIfInBounds_toArray,List.set_cons_zero,List.set_cons_succ,Kb,Mb]
                       rfl
                      refine Gc (i:=16) (N:=some 40) (v:=?_) (a':=?_) #[true,true,true,true,true,true,true,true,true,true,true,true,true,true,true,true,true,true,true,false,false,false,true,true,false,false,false,true,true,false,false,false,false] rfl rfl (fc Md.out (by kernel_rfl)) (fun _ _ _ h=>h) (Or.inl ⟨by rfl,?_⟩) ?_ ?_;rotate_left
                      ·intro w';go_simp;with_reducible rfl
                      rotate_left
                      ·simp only [Act.put,List.setIfInBounds_toArray,List.set_cons_zero,List.set_cons_succ,Kb,Mb]
                       rfl
                      refine Zk (i:=19) (N:=some 43) #[true,true,true,true,true,true,true,true,true,true,true,true,true,true,true,true,true,true,true,true,false,false,true,true,false,false,false,true,true,false,false,false,false] rfl rfl (Ig Md.out (by kernel_rfl)) (by decide) (fun K hK=>?_);refine Gh Tryd.func15 (by kernel_rfl) rfl #[.int .i64 ((za Ba Na).f2)] (by rfl) rfl rfl (by (try simp only [List.map_toArray,List.map_cons,List.map_nil]);first|done|rfl|(simp only [List.length_drop,List.length_take];rfl)) ?_;with_reducible refine (Ya.calls sj ((za Ba Na).f2) t111 _ nM.out).mono ?_
                      rintro e w' ⟨rfl,⟨nd,rfl⟩⟩;refine ⟨_,rfl,?_⟩;refine hK.out _ _ ⟨(ja Ib.out 0).trans rfl,(ja Ib.out 1).trans rfl,(ja Ib.out 2).trans rfl,(ja Ib.out 3).trans rfl,(ja Ib.out 4).trans rfl,hHeld.2.2.2.2.2⟩ (fun hHeld=>?_);clear hK K;refine Fh (a':=?_) ?_ ?_;rotate_left
                      ·show Act.put _ (some 43) _=_
                       simp only [Act.put,List.setIfInBounds_toArray,List.set_cons_zero,List.set_cons_succ,Kb,Mb]
                       rfl
                      refine Gc (i:=20) (N:=some 44) (v:=?_) (a':=?_) #[true,true,true,true,true,true,true,true,true,true,true,true,true,true,true,true,true,true,true,true,true,false,true,true,false,false,false,true,true,false,false,false,false] rfl rfl (fc Md.out (by kernel_rfl)) (fun _ _ _ h=>h) (Or.inl ⟨by rfl,?_⟩) ?_ ?_;rotate_left
                      ·intro w';go_simp;with_reducible rfl
                      rotate_left
                      ·simp only [Act.put,List.setIfInBounds_toArray,List.set_cons_zero,List.set_cons_succ,Kb,Mb]
                       rfl
                      refine Gc (i:=21) (N:=some 45) (v:=?_) (a':=?_) #[true,true,true,true,true,true,true,true,true,true,true,true,true,true,true,true,true,true,true,true,true,true,true,true,false,false,false,true,true,false,false,false,false] rfl rfl (fc Md.out (by kernel_rfl)) (fun _ _ _ h=>h) (Or.inl ⟨by rfl,?_⟩) ?_ ?_;rotate_left
                      ·intro w';go_simp;with_reducible rfl
                      rotate_left
                      ·simp only [Act.put,List.setIfInBounds_toArray,List.set_cons_zero,List.set_cons_succ,Kb,Mb]
                       rfl
                      refine Zk (i:=24) (N:=some 48) #[true,true,true,true,true,true,true,true,true,true,true,true,true,true,true,true,true,true,true,true,true,true,true,true,true,false,false,true,true,false,false,false,false] rfl rfl (Ig Md.out (by kernel_rfl)) (by decide) (fun K hK=>?_);refine Gh Tryd.func15 (by kernel_rfl) rfl #[.int .i64 ((za Ba Na).f3)] (by rfl) rfl rfl (by (try simp only [List.map_toArray,List.map_cons,List.map_nil]);first|done|rfl|(simp only [List.length_drop,List.length_take];rfl)) ?_;with_reducible refine (Ya.calls sj ((za Ba Na).f3) t112 _ mM.out).mono ?_
                      rintro e w' ⟨rfl,⟨nd,rfl⟩⟩;refine ⟨_,rfl,?_⟩;refine hK.out _ _ ⟨(ja Ib.out 0).trans rfl,(ja Ib.out 1).trans rfl,(ja Ib.out 2).trans rfl,(ja Ib.out 3).trans rfl,(ja Ib.out 4).trans rfl,hHeld.2.2.2.2.2⟩ (fun hHeld=>?_);clear hK K;refine Fh (a':=?_) ?_ ?_;rotate_left
                      ·show Act.put _ (some 48) _=_
                       simp only [Act.put,List.setIfInBounds_toArray,List.set_cons_zero,List.set_cons_succ,Kb,Mb]
                       rfl
                      refine Gc (i:=25) (N:=some 49) (v:=?_) (a':=?_) #[true,true,true,true,true,true,true,true,true,true,true,true,true,true,true,true,true,true,true,true,true,true,true,true,true,true,false,true,true,false,false,false,false] rfl rfl (fc Md.out (by kernel_rfl)) (fun _ _ _ h=>h) (Or.inl ⟨by rfl,?_⟩) ?_ ?_;rotate_left
                      ·intro w';go_simp;with_reducible rfl
                      rotate_left
                      ·simp only [Act.put,List.setIfInBounds_toArray,List.set_cons_zero,List.set_cons_succ,Kb,Mb]
                       rfl
                      refine Gc (i:=26) (N:=some 50) (v:=?_) (a':=?_) #[true,true,true,true,true,true,true,true,true,true,true,true,true,true,true,true,true,true,true,true,true,true,true,true,true,true,true,true,true,false,false,false,false] rfl rfl (fc Md.out (by kernel_rfl)) (fun _ _ _ h=>h) (Or.inl ⟨by rfl,?_⟩) ?_ ?_;rotate_left
                      ·intro w';go_simp;with_reducible rfl
                      rotate_left
                      ·simp only [Act.put,List.setIfInBounds_toArray,List.set_cons_zero,List.set_cons_succ,Kb,Mb]
                       rfl
                      refine Zk (i:=29) (N:=some 53) #[true,true,true,true,true,true,true,true,true,true,true,true,true,true,true,true,true,true,true,true,true,true,true,true,true,true,true,true,true,true,false,false,false] rfl rfl (Ig Md.out (by kernel_rfl)) (by decide) (fun K hK=>?_);refine Gh Tryd.func15 (by kernel_rfl) rfl #[.int .i64 ((za Ba Na).f4)] (by rfl) rfl rfl (by (try simp only [List.map_toArray,List.map_cons,List.map_nil]);first|done|rfl|(simp only [List.length_drop,List.length_take];rfl)) ?_;with_reducible refine (Ya.calls sj ((za Ba Na).f4) t113 _ zu.out).mono ?_
                      rintro e w' ⟨rfl,⟨nd,rfl⟩⟩;refine ⟨_,rfl,?_⟩;refine hK.out _ _ ⟨(ja Ib.out 0).trans rfl,(ja Ib.out 1).trans rfl,(ja Ib.out 2).trans rfl,(ja Ib.out 3).trans rfl,(ja Ib.out 4).trans rfl,hHeld.2.2.2.2.2⟩ (fun hHeld=>?_);clear hK K;refine Fh (a':=?_) ?_ ?_;rotate_left
                      ·show Act.put _ (some 53) _=_
                       simp only [Act.put,List.setIfInBounds_toArray,List.set_cons_zero,List.set_cons_succ,Kb,Mb]
                       rfl
                      refine Gc (i:=30) (N:=some 54) (v:=?_) (a':=?_) #[true,true,true,true,true,true,true,true,true,true,true,true,true,true,true,true,true,true,true,true,true,true,true,true,true,true,true,true,true,true,true,false,false] rfl rfl (fc Md.out (by kernel_rfl)) (fun _ _ _ h=>h) (Or.inl ⟨by rfl,?_⟩) ?_ ?_;rotate_left
                      ·intro w';go_simp;with_reducible rfl
                      rotate_left
                      ·simp only [Act.put,List.setIfInBounds_toArray,List.set_cons_zero,List.set_cons_succ,Kb,Mb]
                       rfl
                      refine Gc (i:=31) (N:=some 55) (v:=?_) (a':=?_) #[true,true,true,true,true,true,true,true,true,true,true,true,true,true,true,true,true,true,true,true,true,true,true,true,true,true,true,true,true,true,true,true,false] rfl rfl (fc Md.out (by kernel_rfl)) (fun _ _ _ h=>h) (Or.inl ⟨by rfl,?_⟩) ?_ ?_;rotate_left
                      ·intro w';go_simp;with_reducible rfl
                      rotate_left
                      ·simp only [Act.put,List.setIfInBounds_toArray,List.set_cons_zero,List.set_cons_succ,Kb,Mb]
                       rfl
                      refine Gc (i:=32) (N:=some 3) (v:=?_) (a':=?_) #[true,true,true,true,true,true,true,true,true,true,true,true,true,true,true,true,true,true,true,true,true,true,true,true,true,true,true,true,true,true,true,true,true] rfl rfl (fc Md.out (by kernel_rfl)) (fun _ _ _ h=>h) (Or.inl ⟨by rfl,?_⟩) ?_ ?_;rotate_left
                      ·intro w';go_simp;with_reducible rfl
                      rotate_left
                      ·simp only [Act.put,List.setIfInBounds_toArray,List.set_cons_zero,List.set_cons_succ,Kb,Mb]
                       rfl
                      refine gm (Ji Md.out (by kernel_rfl)) ?_
                      try go_wp2
                      go_roundg sj
                      case measure=>have:=Lg.out;have:=Pv.out;omega
                      case rel=>exact ⟨((((((((((((mb ++ t108) ++ (⟨#[58,32]⟩:ByteArray)) ++ (Ob ByteArray.empty ic ((za Ba Na).f0))) ++ (⟨#[32]⟩:ByteArray)) ++ t110) ++ (⟨#[32]⟩:ByteArray)) ++ t111) ++ (⟨#[32]⟩:ByteArray)) ++ t112) ++ (⟨#[32]⟩:ByteArray)) ++ t113) ++ (⟨#[10]⟩:ByteArray)),(wrap64 (Na + 1)),(by first|rfl|(simp;done)|(simp [*];done)),(by first|rfl|(simp;done)|(simp [*];done)),H',⟨by have:=Lg.out;have:=Pv.out;omega⟩,⟨by (with_reducible repeat (first|apply Kd.Fb|apply Kd.Eb|apply Kd.Qb));exact Wg.out⟩,⟨by (with_reducible repeat (first|refine Ca ?_ _|refine Ea ?_|refine Da ?_ _));exact ya.out⟩,⟨by repeat (first|(with_reducible first|exact HB.out|apply ia|apply aa|apply qa|refine ua ?_ Ua.out|refine ua ?_ Qh.out)|exact HB.out)⟩⟩
                     ·rw [if_neg Gm] at H;exact absurd H (by simp)
                    ·rw [if_neg uv] at H;exact absurd H (by simp)
                   ·rw [if_neg gz] at H;exact absurd H (by simp)
                  ·rw [if_neg VA] at H;exact absurd H (by simp)
                 ·rw [if_neg Rt] at H;exact absurd H (by simp)
                ·rw [if_neg yp] at H;exact absurd H (by simp)
               ·rw [if_neg vu] at H;exact absurd H (by simp)
              ·rw [if_neg Cr] at H;exact absurd H (by simp)
             ·rw [if_neg CA] at H;exact absurd H (by simp)
            ·rw [if_neg iy] at H;exact absurd H (by simp)
           ·rw [if_neg Bu] at H;exact absurd H (by simp)
          ·rw [if_neg Dr] at H;exact absurd H (by simp)
         ·rw [if_neg c16] at H;exact absurd H (by simp)
        ·rw [if_neg c15] at H;exact absurd H (by simp)
       ·rw [if_neg c13] at H;exact absurd H (by simp)
      ·rw [if_neg c12] at H;exact absurd H (by simp)
     ·replace c11:=Bool.eq_false_iff.mpr c11;subst c11;have H1:(some mb)=some r:=by rw [if_neg (show ¬ (false=true) by decide)] at H;exact H
      clear H;have H:=H1;clear H1;obtain rfl:=Option.some.inj H;go_wp2;go_ret;exact ⟨by first|rfl|(simp [Ja,Ia] <;> rfl)|(simp [*,Ja,Ia] <;> rfl),by repeat (first|(with_reducible first|exact HB.out|apply ia|apply aa|apply qa|refine ua ?_ Ua.out)|exact HB.out)⟩
theorem Cv {W w1:World} (hb:Below W.heap.size W w1):(∀ b o,b < W.heap.size→w1.cell? ⟨b,o,none⟩=W.cell? ⟨b,o,none⟩)∧(∀ b o,b < W.heap.size→w1.frozen? ⟨b,o,none⟩=W.frozen? ⟨b,o,none⟩) :=
 ⟨fun b o h=>hb.cell (p:=⟨b,o,none⟩) h,fun b o h=>hb.frozen (p:=⟨b,o,none⟩) h⟩
theorem any_take_succ {α:Type} {l:List α} {p:α→Bool} {k:Nat} {d:α} (hk:k < l.length) (h:(l.take k).any p=false) (hx:p (l.getD k d)=false):(l.take (k + 1)).any p=false:=by
 rw [List.take_succ_eq_append_getElem hk,List.any_append,h]
 simpa [List.getD_eq_getElem?_getD,List.getElem?_eq_getElem hk] using hx
theorem Ut {α:Type} {l:List α} {p:α→Bool} {k:Nat} {d:α} (hk:k < l.length) (hx:p (l.getD k d)=true):l.any p=true:=by
 rw [List.any_eq_true];exact ⟨l[k],List.getElem_mem hk,by simpa [List.getD_eq_getElem?_getD,List.getElem?_eq_getElem hk] using hx⟩
theorem Dn (g:Nat) (lb:Array Value) (p:Pd→Bool) (eg:∀ args w,(callFunc g args).run Tryd.prog w = .ok (.enter g args) w) (A0:Option Addr) (c0:Nat) (l0:List Pd) (w:World) (Yg:Kd.C Si w A0 l0.length l0) (hc0:l0.length ≤ c0)
  (hp:∀ (W:World) (x:Pd),Below w.heap.size w W→Calls Tryd.prog g (#[(.agg #[.int .i64 x.f0,.int .i64 x.f1,.int .i64 x.f2,.int .i64 x.f3,.int .i64 x.f4])] ++ lb) W fun e w'=>e = .returned (.bool (p x))∧Below W.heap.size W w') :
  Calls Tryd.prog 48 #[.slice A0 l0.length c0,.func (.func g) #[] lb] w fun e w'=>(∃ i:Int,e = .returned (.int .i64 i)∧decide (0 ≤ i)=l0.any p)∧Below w.heap.size w w':=by
 have uH:=Yg.2.1;have Jr:=oa.mk Yg;have QA:=oa.mk hc0;have HP:=oa.mk hp;clear Yg hc0 hp;go_enter Tryd.func48,Tryd.ntmps48;go_wp2
 go_loopg [5,8] l0.length (fun gg _ s8 wr=>∃ kk:Nat,kk ≤ l0.length∧l0.length - kk ≤ gg∧s8 = .int .i64 kk∧oa (Below w.heap.size w wr)∧oa ((l0.take kk).any p=false))
 case atStart=>exact ⟨0,Nat.zero_le _,by omega,rfl,⟨Below.refl _ w⟩,⟨by simp⟩⟩
 case round =>
  (try clear BW);(try clear HA);obtain ⟨kk,hkk,hg,rfl,BW,HA⟩:=hrel
  by_cases hlt:kk < l0.length
  ·have p1:0 ≤ (kk:Int):=by omega
   have q1:(kk:Int) < (l0.length:Int):=by omega
   obtain ⟨ad,e1,hx0,hx1,hx2,hx3,oD⟩:=Df Jr.out (kk:Int) p1 q1;cases e1;simp only [Int.toNat_natCast] at hx0 hx1 hx2 hx3 oD;replace hx0:=(BW.out.cell (World.block_lt_of_cell? w _ hx0)).trans hx0;replace hx1:=(BW.out.cell (World.block_lt_of_cell? w _ hx1)).trans hx1;replace hx2:=(BW.out.cell (World.block_lt_of_cell? w _ hx2)).trans hx2;replace hx3:=(BW.out.cell (World.block_lt_of_cell? w _ hx3)).trans hx3;replace oD:=(BW.out.cell (World.block_lt_of_cell? w _ oD)).trans oD;have uk:=HP.out wr (za l0 (kk:Int)) BW.out;cases hq:p (za l0 (kk:Int)) with
   | true =>
    rw [hq] at uk;go_wp2_with (go_at_fn g;refine uk.mono ?_;rintro e w1 ⟨rfl,xp⟩);go_ret;exact ⟨⟨_,rfl,by rw [Ut (d:=z53) hlt hq];simp⟩,BW.out.trans (xp.mono BW.out.size)⟩
   | false =>
    rw [hq] at uk;go_wp2_with (go_at_fn g;refine uk.mono ?_;rintro e w1 ⟨rfl,xp⟩)
    go_roundg (l0.length - (kk + 1))
    case measure=>omega
    case rel=>exact ⟨kk + 1,by omega,by omega,by go_num,⟨BW.out.trans (xp.mono BW.out.size)⟩,⟨any_take_succ (d:=z53) hlt HA.out hq⟩⟩
  ·have vH:¬ (kk:Int) < (l0.length:Int):=by omega
   have he:kk=l0.length:=by omega
   subst he;go_wp2;go_ret;exact ⟨⟨_,rfl,by have h_:=HA.out;rw [List.take_length] at h_;rw [h_];simp⟩,BW.out⟩
theorem vk (g:Nat) (lb:Array Value) (p:Pd→Bool) (eg:∀ args w,(callFunc g args).run Tryd.prog w = .ok (.enter g args) w) (A0:Option Addr) (c0:Nat) (l0:List Pd) (w:World) (Yg:Kd.C Si w A0 l0.length l0) (hc0:l0.length ≤ c0)
  (hp:∀ (W:World) (x:Pd),Below w.heap.size w W→Calls Tryd.prog g (#[(.agg #[.int .i64 x.f0,.int .i64 x.f1,.int .i64 x.f2,.int .i64 x.f3,.int .i64 x.f4])] ++ lb) W fun e w'=>e = .returned (.bool (p x))∧Below W.heap.size W w') :
  Calls Tryd.prog 38 #[.slice A0 l0.length c0,.func (.func g) #[] lb] w fun e w'=>e = .returned (.bool (l0.any p))∧Below w.heap.size w w':=by
 have HI:=oa.mk (Dn g lb p eg A0 c0 l0 w Yg hc0 hp);clear Yg hc0 hp;go_enter Tryd.func38,Tryd.ntmps38;go_wp2_with (go_at_call 48;refine HI.out.mono ?_;rintro e w1 ⟨⟨i,rfl,hi⟩,xp⟩;have HD:=oa.mk hi;clear hi);go_ret;exact ⟨by rw [← HD.out];first|rfl|simp,xp⟩
def ql.f (a0:Int) (a1:Int) (a2:Int):Option (Bool):=if a0 ≥ a1 then (some (decide (a0 ≤ a2))) else (some false)
theorem ql.calls (a0:Int) (a1:Int) (a2:Int) (r:Bool) (w:World) (h:ql.f a0 a1 a2=some r) :
  Calls Tryd.prog 37 #[.int .i64 a0,.int .i64 a1,.int .i64 a2] w fun e w'=>e = .returned (.bool r)∧ec w w':=by
 have H:(if a0 ≥ a1 then (some (decide (a0 ≤ a2))) else (some false))=some r:=h;clear h
 by_cases c4:a0 ≥ a1
 ·rw [if_pos c4] at H;have Li:decide (a1 ≤ a0)=true:=decide_eq_true c4;clear c4;obtain rfl:=Option.some.inj H;go_enter Tryd.func37,Tryd.ntmps37;go_wp2;go_ret;exact ⟨by first|rfl|(simp;done)|(simp [*];done),by repeat (first|exact ec.refl _|apply ec.step)⟩
 ·rw [if_neg c4] at H;have Li:decide (a1 ≤ a0)=false:=decide_eq_false c4;clear c4;obtain rfl:=Option.some.inj H;go_enter Tryd.func37,Tryd.ntmps37;go_wp2;go_ret;exact ⟨by first|rfl|(simp;done)|(simp [*];done),by repeat (first|exact ec.refl _|apply ec.step)⟩
end Go.Proofs.YtgflknmbnblpaaaDoor.P
end
