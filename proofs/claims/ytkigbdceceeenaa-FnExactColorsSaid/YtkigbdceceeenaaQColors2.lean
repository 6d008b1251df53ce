import Derived.Test.YtkigbdceceeenaaQColors1
set_option maxHeartbeats 8000000
set_option maxRecDepth 100000
section
namespace Go.Proofs.Ytkigbdceceeenaa.P
open Go.RowKit Go.Proofs.Ma.Tb Go.Proofs.Ma.Gd Go.Proofs.Ma.De
set_option linter.unusedVariables false
set_option linter.unusedSimpArgs false
attribute [local go_sem] Rh si wj Nj qh oh zi ri
def uc.l0:Nat→Int→List Int→Int→Int→Int→List (Je)→List (He)→Int→Int→Int→Int→Option (Bool)
 | 0,_,_,_,_,_,_,_,_,_,_,_=>none
 | k + 1,x5,yc,Qc,Gc,Dc,Yb,Dg,Bl,Xl,Ek,Dk=>if x5 < (Dg.length:Int) then (if 0 ≤ x5 then ((zb.f k yc Qc Gc Dc Yb ((Ea Dg x5).f0) ((Ea Dg x5).f1) ((Ea Dg x5).f2) ((Ea Dg x5).f3) ((Ea Dg x5).f4) ((Ea Dg x5).f5) ((Ea Dg x5).f6)).bind fun t104=>(if t104=true then (uc.l0 k (wrap64 (x5 + 1)) yc Qc Gc Dc Yb Dg Bl Xl Ek Dk) else (some false))) else (none)) else ((qb.f Ek 0 (wrap64 ((Yb.length:Int) - 1))).bind fun t105=>((qb.f Xl 0 (wrap64 (Dc - 1))).bind fun t106=>(if Bl=0 then (if t105=true then (if Xl=0 then (some (Dk == 0)) else (some false)) else (some false)) else (if Bl=1 then (if t105=true then (if t106=true then ((qb.f Dk 0 (wrap64 ((Yb.length:Int) - 1))).bind fun t107=>(some t107)) else (some false)) else (some false)) else (if Bl=2 then (if t106=true then (if Ek=0 then (some (Dk == 0)) else (some false)) else (some false)) else (some false))))))
def uc.f (k:Nat) (Qa:List Int) (Ja:Int) (Ga:Int) (Ia:Int) (Aa:List (Je)) (Xc:List (He)) (Vb:Int) (Pb:Int) (Qb:Int) (jc:Int):Option (Bool):=uc.l0 k 0 Qa Ja Ga Ia Aa Xc Vb Pb Qb jc
def uc.T4:Bool × List (List Nat × List Nat):=(true,[([],[]),([],[]),([1],[1]),([],[]),([2,3],[2,3]),([4],[4]),([0,5],[0,5]),([6],[6])])
def uc.B4:List Nat:=[0,0,2,0,14,30,63,127]
theorem uc.hae:Dp .any (opsOf Try.f71 4)=uc.T4:=by kernel_rfl
theorem uc.m9:Jp uc.T4.2 uc.B4=true:=by kernel_rfl
theorem uc.calls (k:Nat) (Ya:Option Addr) (Za:Nat) (Qa:List Int) (Ja:Int) (Ga:Int) (Ia:Int) (Mb:Option Addr) (Cb:Nat) (Aa:List (Je)) (dg:Option Addr) (Tf:Nat) (Xc:List (He)) (Vb:Int) (Pb:Int) (Qb:Int) (jc:Int) (r:Bool) (w:World) (Ud:Kd.C (Kd.int .i64) w Ya Qa.length Qa) (Rd:Qa.length ≤ Za) (yf:Kd.C Fq w Mb Aa.length Aa) (kf:Aa.length ≤ Cb) (Uy:Kd.C Bk w dg Xc.length Xc) (Wy:Xc.length ≤ Tf) (h:uc.f k Qa Ja Ga Ia Aa Xc Vb Pb Qb jc=some r) :
  Calls Try.prog 71 #[.agg #[.slice Ya Qa.length Za,.int .i64 Ja,.int .i64 Ga,.int .i64 Ia,.slice Mb Aa.length Cb],.agg #[.slice dg Xc.length Tf,.int .i64 Vb,.int .i64 Pb,.int .i64 Qb,.int .i64 jc]] w fun e w'=>e = .returned (.bool r)∧Below w.heap.size w w':=by
 have GF:=Try.underlying30;have kC:=Try.underlying59;have MA:=Try.underlying65;have Ze:=ga.mk Ud;have Af:=ga.mk Rd;clear Ud Rd;have xg:=ga.mk yf;have ki:=ga.mk kf;clear yf kf;have Ip:=ga.mk Uy;have Js:=ga.mk Wy;clear Uy Wy;have HB:=ga.mk (Below.refl w.heap.size w);have H:(uc.l0 k 0 Qa Ja Ga Ia Aa Xc Vb Pb Qb jc)=some r:=h;clear h;have H':=ga.mk H;clear H;go_enter Try.func71,Try.ntmps71;go_wp2_with (first|((with_reducible refine Ab (N:=2) rfl ?_);(try (refine Vj (by rfl) ?_;dsimp only));refine Lb ?hg (N:=2) ?hd (cs:=#[.slice Ya Qa.length Za,.int .i64 Ja,.int .i64 Ga,.int .i64 Ia,.slice Mb Aa.length Cb]) (t:=30) ?hr ?_;(case hd=>rfl);(case hg=>rfl);(case hr=>first|(go_simp;done)|(go_simp;rfl));intro ya hg w3 Sb hb;have Eb:=ga.mk (Ra uaH hb);have Fb:=ga.mk (Sb);have Ob:=ga.mk ((by rw [hg];exact (La uaH):w.heap.size ≤ ya));have Ec:=ga.mk ((by rw [hg];exact (La uaH):w.heap.size ≤ ya));clear HB;have HB:=Eb;have oa:=Fb;have Vd:=Ob;have Ta:=Ec;clear Eb Fb Ob Ec hb Sb hg)|((with_reducible refine Ab (N:=3) rfl ?_);(try (refine Vj (by rfl) ?_;dsimp only));refine Lb ?hg (N:=3) ?hd (cs:=#[.slice dg Xc.length Tf,.int .i64 Vb,.int .i64 Pb,.int .i64 Qb,.int .i64 jc]) (t:=59) ?hr ?_;(case hd=>rfl);(case hg=>rfl);(case hr=>first|(go_simp;done)|(go_simp;rfl));intro Na hg w4 Sb hb;have Eb:=ga.mk (Va (g:=ya) (o:=.cells #[.slice Ya Qa.length Za,.int .i64 Ja,.int .i64 Ga,.int .i64 Ia,.slice Mb Aa.length Cb] 30 (0,0)) vaH hb);have Fb:=ga.mk (Ra taH hb);have Ob:=ga.mk (Sb);have Ec:=ga.mk ((by rw [hg];exact (La taH):w.heap.size ≤ Na));have gf:=ga.mk ((by rw [hg];exact (La taH):w.heap.size ≤ Na));have Zf:=ga.mk ((by rw [hg];exact Nat.ne_of_lt (Nc (g:=ya) (o:=.cells #[.slice Ya Qa.length Za,.int .i64 Ja,.int .i64 Ga,.int .i64 Ia,.slice Mb Aa.length Cb] 30 (0,0)) vaH):ya ≠ Na));have gh:=ga.mk ((by rw [hg];exact Nat.ne_of_gt (Nc (g:=ya) (o:=.cells #[.slice Ya Qa.length Za,.int .i64 Ja,.int .i64 Ga,.int .i64 Ia,.slice Mb Aa.length Cb] 30 (0,0)) vaH):Na ≠ ya));clear oa HB;have oa:=Eb;have HB:=Fb;have Ba:=Ob;have Wk:=Ec;have Ic:=gf;have Jb:=Zf;have Ib:=gh;clear Eb Fb Ob Ec gf Zf gh hb Sb hg))
 go_loopg [5] k (fun kq v5 w'=>∃ (Ka:Int),v5 = .int .i64 Ka∧ga (uc.l0 kq Ka Qa Ja Ga Ia Aa Xc Vb Pb Qb jc=some r)∧ga (kq ≤ k)∧ga (w'.heap[ya]? = some (.cells #[(.slice Ya Qa.length Za),.int .i64 Ja,.int .i64 Ga,.int .i64 Ia,(.slice Mb Aa.length Cb)] 30 (0,0)))∧ga (w'.heap[Na]? = some (.cells #[(.slice dg Xc.length Tf),.int .i64 Vb,.int .i64 Pb,.int .i64 Qb,.int .i64 jc] 59 (0,0)))∧ga (Below w.heap.size w w'))
 case atStart=>exact ⟨(0),AaH,H',⟨Nat.le_refl _⟩,⟨zaH⟩,⟨OaH⟩,⟨yaH⟩⟩
 case round =>
  clear H'
  try clear c1
  try clear p2
  (try clear HA);(try clear wg);(try clear oa);(try clear Ba);(try clear HB);obtain ⟨Ka,rfl,HA,wg,oa,Ba,HB⟩:=hrel;cases gk with
  | zero=>exact absurd HA.out (by simp [uc.l0])
  | succ k1 =>
   have H:=HA.out;clear HA;simp only [uc.l0] at H
   by_cases c5:Ka < (Xc.length:Int)
   ·rw [if_pos c5] at H;have fk:decide (Ka < (Xc.length:Int))=true:=decide_eq_true c5;clear c5
    by_cases c6:0 ≤ Ka
    ·rw [if_pos c6] at H;have gp:decide (0 ≤ Ka)=true:=decide_eq_true c6;clear c6;replace H:=Option.bind_eq_some_iff.mp H;obtain ⟨t104,PK,H⟩:=H;replace H:(if t104=true then (uc.l0 k1 (wrap64 (Ka + 1)) Qa Ja Ga Ia Aa Xc Vb Pb Qb jc) else (some false))=some r:=H;have A7:=ga.mk PK;clear PK
     by_cases c8:t104=true
     ·subst c8;have H1:(uc.l0 k1 (wrap64 (Ka + 1)) Qa Ja Ga Ia Aa Xc Vb Pb Qb jc)=some r:=by rw [if_pos rfl] at H;exact H
      clear H;have H:=H1;clear H1;have H':=ga.mk H;clear H;have Vau:=Ib.out;have Hau:=Jb.out;have Nh:wr.cell? ⟨Na,0,none⟩=some (.slice dg Xc.length Tf):=(ia Ba.out 0).trans rfl;have Mh:wr.cell? ⟨Na,1,none⟩=some (.int .i64 Vb):=(ia Ba.out 1).trans rfl;have Lh:wr.cell? ⟨Na,2,none⟩=some (.int .i64 Pb):=(ia Ba.out 2).trans rfl;have Kh:wr.cell? ⟨Na,3,none⟩=some (.int .i64 Qb):=(ia Ba.out 3).trans rfl;have Jh:wr.cell? ⟨Na,4,none⟩=some (.int .i64 jc):=(ia Ba.out 4).trans rfl;have Ih:=aa Ba.out 0;have Hh:=aa Ba.out 1;have Gh:=aa Ba.out 2;have Fh:=aa Ba.out 3;have Eh:=aa Ba.out 4
      try go_wp2
      have Eb:=ga.mk (Fa oa.out);have Fb:=ga.mk (Fa Ba.out);have Ob:=ga.mk (ta HB.out);clear oa Ba HB;have oa:=Eb;have Ba:=Fb;have HB:=Ob;clear Eb Fb Ob;have CN:0 ≤ (Ka:Int):=Ua;have yN:Ka < (Xc.length:Int):=Ua;obtain ⟨Ci,yab,aq,Zp,Yp,Xp,Wp,Vp,Tp⟩:=jm Ip.out Ka CN yN;have wA:=Tp;have xA:=Vp;have yA:=Wp;have zA:=Xp;have AA:=Yp;have BA:=Zp;have CA:=aq;cases yab;replace aq:=Sa HB.out aq;replace Zp:=Sa HB.out Zp;replace Yp:=Sa HB.out Yp;replace Xp:=Sa HB.out Xp;replace Wp:=Sa HB.out Wp;replace Vp:=Sa HB.out Vp;replace Tp:=Sa HB.out Tp;replace CN:=eq_true CN;replace yN:=eq_true yN;refine uo (n:=8) (S:=fun w'=>w'.cell? ⟨ya,0,none⟩=some (.slice Ya Qa.length Za)∧w'.cell? ⟨ya,1,none⟩=some (.int .i64 Ja)∧w'.cell? ⟨ya,2,none⟩=some (.int .i64 Ga)∧w'.cell? ⟨ya,3,none⟩=some (.int .i64 Ia)∧w'.cell? ⟨ya,4,none⟩=some (.slice Mb Aa.length Cb)∧w'.cell? ⟨Na,0,none⟩=some (.slice (some Ci) Xc.length Tf)∧w'.cell? ⟨Na,1,none⟩=some (.int .i64 Vb)∧w'.cell? ⟨Na,2,none⟩=some (.int .i64 Pb)∧w'.cell? ⟨Na,3,none⟩=some (.int .i64 Qb)∧w'.cell? ⟨Na,4,none⟩=some (.int .i64 jc)∧w'.cell? (Ci.add ((Ka).toNat * 7))=some (.int .i64 ((Ea Xc Ka).f0))∧w'.cell? ⟨(Ci.add ((Ka).toNat * 7)).block,(Ci.add ((Ka).toNat * 7)).off + 1,none⟩=some (.int .i64 ((Ea Xc Ka).f1))∧w'.cell? ⟨(Ci.add ((Ka).toNat * 7)).block,(Ci.add ((Ka).toNat * 7)).off + 2,none⟩=some (.int .i64 ((Ea Xc Ka).f2))∧w'.cell? ⟨(Ci.add ((Ka).toNat * 7)).block,(Ci.add ((Ka).toNat * 7)).off + 3,none⟩=some (.int .i64 ((Ea Xc Ka).f3))∧w'.cell? ⟨(Ci.add ((Ka).toNat * 7)).block,(Ci.add ((Ka).toNat * 7)).off + 4,none⟩=some (.int .i64 ((Ea Xc Ka).f4))∧w'.cell? ⟨(Ci.add ((Ka).toNat * 7)).block,(Ci.add ((Ka).toNat * 7)).off + 5,none⟩=some (.int .i64 ((Ea Xc Ka).f5))∧w'.cell? ⟨(Ci.add ((Ka).toNat * 7)).block,(Ci.add ((Ka).toNat * 7)).off + 6,none⟩=some (.string ((Ea Xc Ka).f6))) (ds:=[]) #[false,false,false,false,false,false,false,false] (by kernel_rfl) rfl rfl ⟨(ia oa.out 0).trans rfl,(ia oa.out 1).trans rfl,(ia oa.out 2).trans rfl,(ia oa.out 3).trans rfl,(ia oa.out 4).trans rfl,(ia Ba.out 0).trans rfl,(ia Ba.out 1).trans rfl,(ia Ba.out 2).trans rfl,(ia Ba.out 3).trans rfl,(ia Ba.out 4).trans rfl,(Sa HB.out CA),(Sa HB.out BA),(Sa HB.out AA),(Sa HB.out zA),(Sa HB.out yA),(Sa HB.out xA),(Sa HB.out wA)⟩ (fun hHeld=>?_);refine qk uc.hae uc.m9 (fun Lg Gy=>?_);generalize wr.drew=ck at oa Ba HB aq Zp Yp Xp Wp Vp Tp hHeld ⊢;refine Od (i:=1) (N:=some 16) (v:=?_) (a':=?_) #[false,true,false,false,false,false,false,false] rfl rfl (qd Lg.out (by kernel_rfl)) (fun _ _ _ h=>h) (Or.inl ⟨by rfl,?_⟩) ?_ ?_;rotate_left
      ·intro w';go_simp;with_reducible rfl
      rotate_left
      ·simp only [Act.put,List.setIfInBounds_toArray,List.set_cons_zero,List.set_cons_succ,nc,oc]
       rfl
      refine Od (i:=3) (N:=some 18) (v:=?_) (a':=?_) #[false,true,false,true,false,false,false,false] rfl rfl (qd Lg.out (by kernel_rfl)) (fun _ _ _ h=>h) (Or.inl ⟨by rfl,?_⟩) ?_ ?_;rotate_left
      ·intro w';go_simp;with_reducible rfl
      rotate_left
      ·simp only [Act.put,List.setIfInBounds_toArray,List.set_cons_zero,List.set_cons_succ,nc,oc]
       rfl
      refine Qh (i:=0) (N:=some 15) (v:=?_) (a':=?_) #[true,true,false,true,false,false,false,false] rfl rfl (Uf Lg.out Gy.out (by kernel_rfl)) (fun _ _ _ h=>h) (Or.inl ⟨by rfl,?_⟩) hHeld ?_ ?_;rotate_left
      ·rintro w' ⟨s0,s1,s2,s3,s4,s5,s6,s7,s8,s9,IP,GP,FP,G0,s14,s15,s16⟩;go_simp;with_reducible rfl
      rotate_left
      ·simp only [Act.put,List.setIfInBounds_toArray,List.set_cons_zero,List.set_cons_succ,nc,oc]
       rfl
      refine Qh (i:=2) (N:=some 17) (v:=?_) (a':=?_) #[true,true,true,true,false,false,false,false] rfl rfl (Uf Lg.out Gy.out (by kernel_rfl)) (fun _ _ _ h=>h) (Or.inl ⟨by rfl,?_⟩) hHeld ?_ ?_;rotate_left
      ·rintro w' ⟨s0,s1,s2,s3,s4,s5,s6,s7,s8,s9,IP,GP,FP,G0,s14,s15,s16⟩;go_simp;with_reducible rfl
      rotate_left
      ·simp only [Act.put,List.setIfInBounds_toArray,List.set_cons_zero,List.set_cons_succ,nc,oc]
       rfl
      refine Od (i:=4) (N:=some 19) (v:=?_) (a':=?_) #[true,true,true,true,true,false,false,false] rfl rfl (qd Lg.out (by kernel_rfl)) (fun _ _ _ h=>h) (Or.inl ⟨by rfl,?_⟩) ?_ ?_;rotate_left
      ·intro w';go_simp;with_reducible rfl
      rotate_left
      ·simp only [Act.put,List.setIfInBounds_toArray,List.set_cons_zero,List.set_cons_succ,nc,oc]
       rfl
      refine Qh (i:=5) (N:=some 20) (v:=?_) (a':=?_) #[true,true,true,true,true,true,false,false] rfl rfl (Uf Lg.out Gy.out (by kernel_rfl)) (fun _ _ _ h=>h) (Or.inl ⟨by rfl,?_⟩) hHeld ?_ ?_;rotate_left
      ·rintro w' ⟨s0,s1,s2,s3,s4,s5,s6,s7,s8,s9,IP,GP,FP,G0,s14,s15,s16⟩;go_simp;with_reducible rfl
      rotate_left
      ·simp only [Act.put,List.setIfInBounds_toArray,List.set_cons_zero,List.set_cons_succ,nc,oc]
       rfl
      refine rz (i:=6) (N:=some 21) #[true,true,true,true,true,true,true,false] rfl rfl (Qt Lg.out (by kernel_rfl)) (by decide) (fun K hK=>?_);refine Hv Try.func97 (by kernel_rfl) rfl #[.agg #[.slice Ya Qa.length Za,.int .i64 Ja,.int .i64 Ga,.int .i64 Ia,.slice Mb Aa.length Cb],.agg #[.int .i64 ((Ea Xc Ka).f0),.int .i64 ((Ea Xc Ka).f1),.int .i64 ((Ea Xc Ka).f2),.int .i64 ((Ea Xc Ka).f3),.int .i64 ((Ea Xc Ka).f4),.int .i64 ((Ea Xc Ka).f5),.string ((Ea Xc Ka).f6)]] (by rfl) rfl rfl waH ?_;with_reducible refine (zb.calls k1 _ _ Qa Ja Ga Ia _ _ Aa ((Ea Xc Ka).f0) ((Ea Xc Ka).f1) ((Ea Xc Ka).f2) ((Ea Xc Ka).f3) ((Ea Xc Ka).f4) ((Ea Xc Ka).f5) ((Ea Xc Ka).f6) true _ ?Uc ?Tc ?we ?ue A7.out).mono ?_
      (case Uc=>repeat (first|exact (Kd.Nb Ze.out HB.out)|(with_reducible refine Kd.dc ?_ _)|(with_reducible refine Kd.Zb ?_ _)|(with_reducible refine Kd.Fc ?_)))
      (case Tc=>exact Af.out)
      (case we=>repeat (first|exact (Kd.Nb xg.out HB.out)|(with_reducible refine Kd.dc ?_ _)|(with_reducible refine Kd.Zb ?_ _)|(with_reducible refine Kd.Fc ?_)))
      (case ue=>exact ki.out)
      rintro e Ks ⟨rfl,hb⟩;refine ⟨_,rfl,?_⟩;have Eb:=ga.mk (Va (g:=ya) (o:=.cells #[.slice Ya Qa.length Za,.int .i64 Ja,.int .i64 Ga,.int .i64 Ia,.slice Mb Aa.length Cb] 30 (0,0)) vaH hb);have Fb:=ga.mk (Va (g:=Na) (o:=.cells #[.slice (some Ci) Xc.length Tf,.int .i64 Vb,.int .i64 Pb,.int .i64 Qb,.int .i64 jc] 59 (0,0)) DaH hb);have Ob:=ga.mk (Ra CaH hb);clear oa Ba HB;have oa:=Eb;have Ba:=Fb;have HB:=Ob;clear Eb Fb Ob;(try clear hb);(try clear Uj);(try clear hk);(try clear hi);refine hK.out _ _ ⟨(ia oa.out 0).trans rfl,(ia oa.out 1).trans rfl,(ia oa.out 2).trans rfl,(ia oa.out 3).trans rfl,(ia oa.out 4).trans rfl,(ia Ba.out 0).trans rfl,(ia Ba.out 1).trans rfl,(ia Ba.out 2).trans rfl,(ia Ba.out 3).trans rfl,(ia Ba.out 4).trans rfl,(Sa HB.out CA),(Sa HB.out BA),(Sa HB.out AA),(Sa HB.out zA),(Sa HB.out yA),(Sa HB.out xA),(Sa HB.out wA)⟩ (fun hHeld=>?_);clear hK K;refine Dq (a':=?_) ?_ ?_;rotate_left
      ·show Act.put _ (some 21) _=_
       simp only [Act.put,List.setIfInBounds_toArray,List.set_cons_zero,List.set_cons_succ,nc,oc]
       rfl
      refine Od (i:=7) (N:=some 22) (v:=?_) (a':=?_) #[true,true,true,true,true,true,true,true] rfl rfl (qd Lg.out (by kernel_rfl)) (fun _ _ _ h=>h) (Or.inl ⟨by rfl,?_⟩) ?_ ?_;rotate_left
      ·intro w';go_simp;with_reducible rfl
      rotate_left
      ·simp only [Act.put,List.setIfInBounds_toArray,List.set_cons_zero,List.set_cons_succ,nc,oc]
       rfl
      refine ot (Ro Lg.out (by kernel_rfl)) ?_
      try go_wp2
      go_roundg k1
      case measure=>have:=wg.out;omega
      case rel=>exact ⟨(wrap64 (Ka + 1)),AaH,H',⟨by have:=wg.out;omega⟩,⟨zaH⟩,⟨OaH⟩,⟨yaH⟩⟩
     ·replace c8:=Bool.eq_false_iff.mpr c8;subst c8;have H1:(some false)=some r:=by rw [if_neg (show ¬ (false=true) by decide)] at H;exact H
      clear H;have H:=H1;clear H1;obtain rfl:=Option.some.inj H;have kaf:=Ib.out;have Vae:=Jb.out;have ij:wr.cell? ⟨Na,0,none⟩=some (.slice dg Xc.length Tf):=(ia Ba.out 0).trans rfl;have fj:wr.cell? ⟨Na,1,none⟩=some (.int .i64 Vb):=(ia Ba.out 1).trans rfl;have ej:wr.cell? ⟨Na,2,none⟩=some (.int .i64 Pb):=(ia Ba.out 2).trans rfl;have cj:wr.cell? ⟨Na,3,none⟩=some (.int .i64 Qb):=(ia Ba.out 3).trans rfl;have aj:wr.cell? ⟨Na,4,none⟩=some (.int .i64 jc):=(ia Ba.out 4).trans rfl;have Zi:=aa Ba.out 0;have Yi:=aa Ba.out 1;have Xi:=aa Ba.out 2;have Wi:=aa Ba.out 3;have Vi:=aa Ba.out 4
      try go_wp2
      have Eb:=ga.mk (Fa oa.out);have Fb:=ga.mk (Fa Ba.out);have Ob:=ga.mk (ta HB.out);clear oa Ba HB;have oa:=Eb;have Ba:=Fb;have HB:=Ob;clear Eb Fb Ob;have CN:0 ≤ (Ka:Int):=Ua;have yN:Ka < (Xc.length:Int):=Ua;obtain ⟨Ci,yab,aq,Zp,Yp,Xp,Wp,Vp,Tp⟩:=jm Ip.out Ka CN yN;have wA:=Tp;have xA:=Vp;have yA:=Wp;have zA:=Xp;have AA:=Yp;have BA:=Zp;have CA:=aq;cases yab;replace aq:=Sa HB.out aq;replace Zp:=Sa HB.out Zp;replace Yp:=Sa HB.out Yp;replace Xp:=Sa HB.out Xp;replace Wp:=Sa HB.out Wp;replace Vp:=Sa HB.out Vp;replace Tp:=Sa HB.out Tp;replace CN:=eq_true CN;replace yN:=eq_true yN;refine uo (n:=8) (S:=fun w'=>w'.cell? ⟨ya,0,none⟩=some (.slice Ya Qa.length Za)∧w'.cell? ⟨ya,1,none⟩=some (.int .i64 Ja)∧w'.cell? ⟨ya,2,none⟩=some (.int .i64 Ga)∧w'.cell? ⟨ya,3,none⟩=some (.int .i64 Ia)∧w'.cell? ⟨ya,4,none⟩=some (.slice Mb Aa.length Cb)∧w'.cell? ⟨Na,0,none⟩=some (.slice (some Ci) Xc.length Tf)∧w'.cell? ⟨Na,1,none⟩=some (.int .i64 Vb)∧w'.cell? ⟨Na,2,none⟩=some (.int .i64 Pb)∧w'.cell? ⟨Na,3,none⟩=some (.int .i64 Qb)∧w'.cell? ⟨Na,4,none⟩=some (.int .i64 jc)∧w'.cell? (Ci.add ((Ka).toNat * 7))=some (.int .i64 ((Ea Xc Ka).f0))∧w'.cell? ⟨(Ci.add ((Ka).toNat * 7)).block,(Ci.add ((Ka).toNat * 7)).off + 1,none⟩=some (.int .i64 ((Ea Xc Ka).f1))∧w'.cell? ⟨(Ci.add ((Ka).toNat * 7)).block,(Ci.add ((Ka).toNat * 7)).off + 2,none⟩=some (.int .i64 ((Ea Xc Ka).f2))∧w'.cell? ⟨(Ci.add ((Ka).toNat * 7)).block,(Ci.add ((Ka).toNat * 7)).off + 3,none⟩=some (.int .i64 ((Ea Xc Ka).f3))∧w'.cell? ⟨(Ci.add ((Ka).toNat * 7)).block,(Ci.add ((Ka).toNat * 7)).off + 4,none⟩=some (.int .i64 ((Ea Xc Ka).f4))∧w'.cell? ⟨(Ci.add ((Ka).toNat * 7)).block,(Ci.add ((Ka).toNat * 7)).off + 5,none⟩=some (.int .i64 ((Ea Xc Ka).f5))∧w'.cell? ⟨(Ci.add ((Ka).toNat * 7)).block,(Ci.add ((Ka).toNat * 7)).off + 6,none⟩=some (.string ((Ea Xc Ka).f6))) (ds:=[]) #[false,false,false,false,false,false,false,false] (by kernel_rfl) rfl rfl ⟨(ia oa.out 0).trans rfl,(ia oa.out 1).trans rfl,(ia oa.out 2).trans rfl,(ia oa.out 3).trans rfl,(ia oa.out 4).trans rfl,(ia Ba.out 0).trans rfl,(ia Ba.out 1).trans rfl,(ia Ba.out 2).trans rfl,(ia Ba.out 3).trans rfl,(ia Ba.out 4).trans rfl,(Sa HB.out CA),(Sa HB.out BA),(Sa HB.out AA),(Sa HB.out zA),(Sa HB.out yA),(Sa HB.out xA),(Sa HB.out wA)⟩ (fun hHeld=>?_);refine qk uc.hae uc.m9 (fun Lg Gy=>?_);generalize wr.drew=zm at oa Ba HB aq Zp Yp Xp Wp Vp Tp hHeld ⊢;refine Od (i:=1) (N:=some 16) (v:=?_) (a':=?_) #[false,true,false,false,false,false,false,false] rfl rfl (qd Lg.out (by kernel_rfl)) (fun _ _ _ h=>h) (Or.inl ⟨by rfl,?_⟩) ?_ ?_;rotate_left
      ·intro w';go_simp;with_reducible rfl
      rotate_left
      ·simp only [Act.put,List.setIfInBounds_toArray,List.set_cons_zero,List.set_cons_succ,nc,oc]
       rfl
      refine Od (i:=3) (N:=some 18) (v:=?_) (a':=?_) #[false,true,false,true,false,false,false,false] rfl rfl (qd Lg.out (by kernel_rfl)) (fun _ _ _ h=>h) (Or.inl ⟨by rfl,?_⟩) ?_ ?_;rotate_left
      ·intro w';go_simp;with_reducible rfl
      rotate_left
      ·simp only [Act.put,List.setIfInBounds_toArray,List.set_cons_zero,List.set_cons_succ,nc,oc]
       rfl
      refine Qh (i:=0) (N:=some 15) (v:=?_) (a':=?_) #[true,true,false,true,false,false,false,false] rfl rfl (Uf Lg.out Gy.out (by kernel_rfl)) (fun _ _ _ h=>h) (Or.inl ⟨by rfl,?_⟩) hHeld ?_ ?_;rotate_left
      ·rintro w' ⟨s0,s1,s2,s3,s4,s5,s6,s7,s8,s9,IP,GP,FP,G0,s14,s15,s16⟩;go_simp;with_reducible rfl
      rotate_left
      ·simp only [Act.put,List.setIfInBounds_toArray,List.set_cons_zero,List.set_cons_succ,nc,oc]
       rfl
      refine Qh (i:=2) (N:=some 17) (v:=?_) (a':=?_) #[true,true,true,true,false,false,false,false] rfl rfl (Uf Lg.out Gy.out (by kernel_rfl)) (fun _ _ _ h=>h) (Or.inl ⟨by rfl,?_⟩) hHeld ?_ ?_;rotate_left
      ·rintro w' ⟨s0,s1,s2,s3,s4,s5,s6,s7,s8,s9,IP,GP,FP,G0,s14,s15,s16⟩;go_simp;with_reducible rfl
      rotate_left
      ·simp only [Act.put,List.setIfInBounds_toArray,List.set_cons_zero,List.set_cons_succ,nc,oc]
       rfl
      refine Od (i:=4) (N:=some 19) (v:=?_) (a':=?_) #[true,true,true,true,true,false,false,false] rfl rfl (qd Lg.out (by kernel_rfl)) (fun _ _ _ h=>h) (Or.inl ⟨by rfl,?_⟩) ?_ ?_;rotate_left
      ·intro w';go_simp;with_reducible rfl
      rotate_left
      ·simp only [Act.put,List.setIfInBounds_toArray,List.set_cons_zero,List.set_cons_succ,nc,oc]
       rfl
      refine Qh (i:=5) (N:=some 20) (v:=?_) (a':=?_) #[true,true,true,true,true,true,false,false] rfl rfl (Uf Lg.out Gy.out (by kernel_rfl)) (fun _ _ _ h=>h) (Or.inl ⟨by rfl,?_⟩) hHeld ?_ ?_;rotate_left
      ·rintro w' ⟨s0,s1,s2,s3,s4,s5,s6,s7,s8,s9,IP,GP,FP,G0,s14,s15,s16⟩;go_simp;with_reducible rfl
      rotate_left
      ·simp only [Act.put,List.setIfInBounds_toArray,List.set_cons_zero,List.set_cons_succ,nc,oc]
       rfl
      refine rz (i:=6) (N:=some 21) #[true,true,true,true,true,true,true,false] rfl rfl (Qt Lg.out (by kernel_rfl)) (by decide) (fun K hK=>?_);refine Hv Try.func97 (by kernel_rfl) rfl #[.agg #[.slice Ya Qa.length Za,.int .i64 Ja,.int .i64 Ga,.int .i64 Ia,.slice Mb Aa.length Cb],.agg #[.int .i64 ((Ea Xc Ka).f0),.int .i64 ((Ea Xc Ka).f1),.int .i64 ((Ea Xc Ka).f2),.int .i64 ((Ea Xc Ka).f3),.int .i64 ((Ea Xc Ka).f4),.int .i64 ((Ea Xc Ka).f5),.string ((Ea Xc Ka).f6)]] (by rfl) rfl rfl waH ?_;with_reducible refine (zb.calls k1 _ _ Qa Ja Ga Ia _ _ Aa ((Ea Xc Ka).f0) ((Ea Xc Ka).f1) ((Ea Xc Ka).f2) ((Ea Xc Ka).f3) ((Ea Xc Ka).f4) ((Ea Xc Ka).f5) ((Ea Xc Ka).f6) false _ ?Uc ?Tc ?we ?ue A7.out).mono ?_
      (case Uc=>repeat (first|exact (Kd.Nb Ze.out HB.out)|(with_reducible refine Kd.dc ?_ _)|(with_reducible refine Kd.Zb ?_ _)|(with_reducible refine Kd.Fc ?_)))
      (case Tc=>exact Af.out)
      (case we=>repeat (first|exact (Kd.Nb xg.out HB.out)|(with_reducible refine Kd.dc ?_ _)|(with_reducible refine Kd.Zb ?_ _)|(with_reducible refine Kd.Fc ?_)))
      (case ue=>exact ki.out)
      rintro e Hz ⟨rfl,hb⟩;refine ⟨_,rfl,?_⟩;have Eb:=ga.mk (Va (g:=ya) (o:=.cells #[.slice Ya Qa.length Za,.int .i64 Ja,.int .i64 Ga,.int .i64 Ia,.slice Mb Aa.length Cb] 30 (0,0)) vaH hb);have Fb:=ga.mk (Va (g:=Na) (o:=.cells #[.slice (some Ci) Xc.length Tf,.int .i64 Vb,.int .i64 Pb,.int .i64 Qb,.int .i64 jc] 59 (0,0)) DaH hb);have Ob:=ga.mk (Ra CaH hb);clear oa Ba HB;have oa:=Eb;have Ba:=Fb;have HB:=Ob;clear Eb Fb Ob;(try clear hb);(try clear Uj);(try clear hk);(try clear hi);refine hK.out _ _ ⟨(ia oa.out 0).trans rfl,(ia oa.out 1).trans rfl,(ia oa.out 2).trans rfl,(ia oa.out 3).trans rfl,(ia oa.out 4).trans rfl,(ia Ba.out 0).trans rfl,(ia Ba.out 1).trans rfl,(ia Ba.out 2).trans rfl,(ia Ba.out 3).trans rfl,(ia Ba.out 4).trans rfl,(Sa HB.out CA),(Sa HB.out BA),(Sa HB.out AA),(Sa HB.out zA),(Sa HB.out yA),(Sa HB.out xA),(Sa HB.out wA)⟩ (fun hHeld=>?_);clear hK K;refine Dq (a':=?_) ?_ ?_;rotate_left
      ·show Act.put _ (some 21) _=_
       simp only [Act.put,List.setIfInBounds_toArray,List.set_cons_zero,List.set_cons_succ,nc,oc]
       rfl
      refine Od (i:=7) (N:=some 22) (v:=?_) (a':=?_) #[true,true,true,true,true,true,true,true] rfl rfl (qd Lg.out (by kernel_rfl)) (fun _ _ _ h=>h) (Or.inl ⟨by rfl,?_⟩) ?_ ?_;rotate_left
      ·intro w';go_simp;with_reducible rfl
      rotate_left
      ·simp only [Act.put,List.setIfInBounds_toArray,List.set_cons_zero,List.set_cons_succ,nc,oc]
       rfl
      refine ot (Ro Lg.out (by kernel_rfl)) ?_
      try go_wp2
      go_ret;exact ⟨by first|rfl|(simp [Pa,Oa] <;> rfl)|(simp [*,Pa,Oa] <;> rfl),yaH⟩
    ·rw [if_neg c6] at H;exact absurd H (by simp)
   ·rw [if_neg c5] at H;have fk:decide (Ka < (Xc.length:Int))=false:=decide_eq_false c5;clear c5;replace H:=Option.bind_eq_some_iff.mp H;obtain ⟨t105,Tal,H⟩:=H;replace H:((qb.f Pb 0 (wrap64 (Ia - 1))).bind fun t106=>(if Vb=0 then (if t105=true then (if Pb=0 then (some (jc == 0)) else (some false)) else (some false)) else (if Vb=1 then (if t105=true then (if t106=true then ((qb.f jc 0 (wrap64 ((Aa.length:Int) - 1))).bind fun t107=>(some t107)) else (some false)) else (some false)) else (if Vb=2 then (if t106=true then (if Qb=0 then (some (jc == 0)) else (some false)) else (some false)) else (some false)))))=some r:=H;have SZ:=ga.mk Tal;clear Tal;replace H:=Option.bind_eq_some_iff.mp H;obtain ⟨t106,tZ,H⟩:=H;replace H:(if Vb=0 then (if t105=true then (if Pb=0 then (some (jc == 0)) else (some false)) else (some false)) else (if Vb=1 then (if t105=true then (if t106=true then ((qb.f jc 0 (wrap64 ((Aa.length:Int) - 1))).bind fun t107=>(some t107)) else (some false)) else (some false)) else (if Vb=2 then (if t106=true then (if Qb=0 then (some (jc == 0)) else (some false)) else (some false)) else (some false))))=some r:=H;have JV:=ga.mk tZ;clear tZ
    by_cases lp:Vb=0
    ·rw [if_pos lp] at H;have yw:(Vb == 0)=true:=beq_iff_eq.mpr lp;have nY:(Vb != 0)=false:=bne_eq_false_iff_eq.mpr lp;clear lp
     by_cases tr:t105=true
     ·subst tr;have H1:(if Pb=0 then (some (jc == 0)) else (some false))=some r:=by rw [if_pos rfl] at H;exact H
      clear H;have H:=H1;clear H1
      by_cases Hs:Pb=0
      ·rw [if_pos Hs] at H;have DH:(Pb == 0)=true:=beq_iff_eq.mpr Hs;have Aaj:(Pb != 0)=false:=bne_eq_false_iff_eq.mpr Hs;clear Hs;obtain rfl:=Option.some.inj H;have haf:=Ib.out;have Sae:=Jb.out;have Bs:wr.cell? ⟨Na,0,none⟩=some (.slice dg Xc.length Tf):=(ia Ba.out 0).trans rfl;have js:wr.cell? ⟨Na,1,none⟩=some (.int .i64 Vb):=(ia Ba.out 1).trans rfl;have Zr:wr.cell? ⟨Na,2,none⟩=some (.int .i64 Pb):=(ia Ba.out 2).trans rfl;have Yr:wr.cell? ⟨Na,3,none⟩=some (.int .i64 Qb):=(ia Ba.out 3).trans rfl;have Xr:wr.cell? ⟨Na,4,none⟩=some (.int .i64 jc):=(ia Ba.out 4).trans rfl;have Qr:=aa Ba.out 0;have Pr:=aa Ba.out 1;have Nr:=aa Ba.out 2;have Mr:=aa Ba.out 3;have Lr:=aa Ba.out 4;have Ou:wr.cell? ⟨ya,0,none⟩=some (.slice Ya Qa.length Za):=(ia oa.out 0).trans rfl;have Nu:wr.cell? ⟨ya,1,none⟩=some (.int .i64 Ja):=(ia oa.out 1).trans rfl;have Mu:wr.cell? ⟨ya,2,none⟩=some (.int .i64 Ga):=(ia oa.out 2).trans rfl;have Lu:wr.cell? ⟨ya,3,none⟩=some (.int .i64 Ia):=(ia oa.out 3).trans rfl;have Ku:wr.cell? ⟨ya,4,none⟩=some (.slice Mb Aa.length Cb):=(ia oa.out 4).trans rfl;have ju:=aa oa.out 0;have iu:=aa oa.out 1;have gu:=aa oa.out 2;have fu:=aa oa.out 3;have eu:=aa oa.out 4;go_wp2_with (first|((with_reducible refine yb (f:=53) rfl ?_);refine Pc (some 29) rfl rfl Try.func53 (by kernel_rfl) rfl #[.int .i64 Qb,.int .i64 0,.int .i64 (wrap64 ((Aa.length:Int) - 1))] rfl waH ?_;(with_reducible refine (qb.calls Qb 0 (wrap64 ((Aa.length:Int) - 1)) true _ SZ.out).mono ?_);rintro e w' ⟨rfl,⟨nd,rfl⟩⟩;refine ⟨_,rfl,?_⟩)|((with_reducible refine yb (f:=53) rfl ?_);refine Pc (some 35) rfl rfl Try.func53 (by kernel_rfl) rfl #[.int .i64 Pb,.int .i64 0,.int .i64 (wrap64 (Ia - 1))] rfl waH ?_;(with_reducible refine (qb.calls Pb 0 (wrap64 (Ia - 1)) t106 _ JV.out).mono ?_);rintro e w' ⟨rfl,⟨nd,rfl⟩⟩;refine ⟨_,rfl,?_⟩));go_ret;exact ⟨by first|rfl|(simp [Pa,Oa] <;> rfl)|(simp [*,Pa,Oa] <;> rfl),yaH⟩
      ·rw [if_neg Hs] at H;have DH:(Pb == 0)=false:=beq_eq_false_iff_ne.mpr Hs;have Aaj:(Pb != 0)=true:=bne_iff_ne.mpr Hs;obtain rfl:=Option.some.inj H;have faf:=Ib.out;have Qae:=Jb.out;have Yx:wr.cell? ⟨Na,0,none⟩=some (.slice dg Xc.length Tf):=(ia Ba.out 0).trans rfl;have Xx:wr.cell? ⟨Na,1,none⟩=some (.int .i64 Vb):=(ia Ba.out 1).trans rfl;have Wx:wr.cell? ⟨Na,2,none⟩=some (.int .i64 Pb):=(ia Ba.out 2).trans rfl;have Vx:wr.cell? ⟨Na,3,none⟩=some (.int .i64 Qb):=(ia Ba.out 3).trans rfl;have Ux:wr.cell? ⟨Na,4,none⟩=some (.int .i64 jc):=(ia Ba.out 4).trans rfl;have ox:=aa Ba.out 0;have jx:=aa Ba.out 1;have gx:=aa Ba.out 2;have dx:=aa Ba.out 3;have bx:=aa Ba.out 4;have Tx:wr.cell? ⟨ya,0,none⟩=some (.slice Ya Qa.length Za):=(ia oa.out 0).trans rfl;have Sx:wr.cell? ⟨ya,1,none⟩=some (.int .i64 Ja):=(ia oa.out 1).trans rfl;have Rx:wr.cell? ⟨ya,2,none⟩=some (.int .i64 Ga):=(ia oa.out 2).trans rfl;have Qx:wr.cell? ⟨ya,3,none⟩=some (.int .i64 Ia):=(ia oa.out 3).trans rfl;have Px:wr.cell? ⟨ya,4,none⟩=some (.slice Mb Aa.length Cb):=(ia oa.out 4).trans rfl;have ax:=aa oa.out 0;have Zw:=aa oa.out 1;have Yw:=aa oa.out 2;have Xw:=aa oa.out 3;have Ww:=aa oa.out 4;go_wp2_with (first|((with_reducible refine yb (f:=53) rfl ?_);refine Pc (some 29) rfl rfl Try.func53 (by kernel_rfl) rfl #[.int .i64 Qb,.int .i64 0,.int .i64 (wrap64 ((Aa.length:Int) - 1))] rfl waH ?_;(with_reducible refine (qb.calls Qb 0 (wrap64 ((Aa.length:Int) - 1)) true _ SZ.out).mono ?_);rintro e w' ⟨rfl,⟨nd,rfl⟩⟩;refine ⟨_,rfl,?_⟩)|((with_reducible refine yb (f:=53) rfl ?_);refine Pc (some 35) rfl rfl Try.func53 (by kernel_rfl) rfl #[.int .i64 Pb,.int .i64 0,.int .i64 (wrap64 (Ia - 1))] rfl waH ?_;(with_reducible refine (qb.calls Pb 0 (wrap64 (Ia - 1)) t106 _ JV.out).mono ?_);rintro e w' ⟨rfl,⟨nd,rfl⟩⟩;refine ⟨_,rfl,?_⟩));go_ret;exact ⟨by first|rfl|(simp [Pa,Oa] <;> rfl)|(simp [*,Pa,Oa] <;> rfl),yaH⟩
     ·replace tr:=Bool.eq_false_iff.mpr tr;subst tr;have H1:(some false)=some r:=by rw [if_neg (show ¬ (false=true) by decide)] at H;exact H
      clear H;have H:=H1;clear H1;obtain rfl:=Option.some.inj H;have PaA:=Ib.out;have iaA:=Jb.out;have tB:wr.cell? ⟨Na,0,none⟩=some (.slice dg Xc.length Tf):=(ia Ba.out 0).trans rfl;have sB:wr.cell? ⟨Na,1,none⟩=some (.int .i64 Vb):=(ia Ba.out 1).trans rfl;have rB:wr.cell? ⟨Na,2,none⟩=some (.int .i64 Pb):=(ia Ba.out 2).trans rfl;have qB:wr.cell? ⟨Na,3,none⟩=some (.int .i64 Qb):=(ia Ba.out 3).trans rfl;have oB:wr.cell? ⟨Na,4,none⟩=some (.int .i64 jc):=(ia Ba.out 4).trans rfl;have eB:=aa Ba.out 0;have dB:=aa Ba.out 1;have cB:=aa Ba.out 2;have bB:=aa Ba.out 3;have ZA:=aa Ba.out 4;have V4:wr.cell? ⟨ya,0,none⟩=some (.slice Ya Qa.length Za):=(ia oa.out 0).trans rfl;have U4:wr.cell? ⟨ya,1,none⟩=some (.int .i64 Ja):=(ia oa.out 1).trans rfl;have S4:wr.cell? ⟨ya,2,none⟩=some (.int .i64 Ga):=(ia oa.out 2).trans rfl;have R4:wr.cell? ⟨ya,3,none⟩=some (.int .i64 Ia):=(ia oa.out 3).trans rfl;have Q4:wr.cell? ⟨ya,4,none⟩=some (.slice Mb Aa.length Cb):=(ia oa.out 4).trans rfl;have X2:=aa oa.out 0;have V2:=aa oa.out 1;have U2:=aa oa.out 2;have T2:=aa oa.out 3;have R2:=aa oa.out 4;go_wp2_with (first|((with_reducible refine yb (f:=53) rfl ?_);refine Pc (some 29) rfl rfl Try.func53 (by kernel_rfl) rfl #[.int .i64 Qb,.int .i64 0,.int .i64 (wrap64 ((Aa.length:Int) - 1))] rfl waH ?_;(with_reducible refine (qb.calls Qb 0 (wrap64 ((Aa.length:Int) - 1)) false _ SZ.out).mono ?_);rintro e w' ⟨rfl,⟨nd,rfl⟩⟩;refine ⟨_,rfl,?_⟩)|((with_reducible refine yb (f:=53) rfl ?_);refine Pc (some 35) rfl rfl Try.func53 (by kernel_rfl) rfl #[.int .i64 Pb,.int .i64 0,.int .i64 (wrap64 (Ia - 1))] rfl waH ?_;(with_reducible refine (qb.calls Pb 0 (wrap64 (Ia - 1)) t106 _ JV.out).mono ?_);rintro e w' ⟨rfl,⟨nd,rfl⟩⟩;refine ⟨_,rfl,?_⟩));go_ret;exact ⟨by first|rfl|(simp [Pa,Oa] <;> rfl)|(simp [*,Pa,Oa] <;> rfl),yaH⟩
    ·rw [if_neg lp] at H;have yw:(Vb == 0)=false:=beq_eq_false_iff_ne.mpr lp;have nY:(Vb != 0)=true:=bne_iff_ne.mpr lp
     by_cases cN:Vb=1
     ·rw [if_pos cN] at H;have xT:(Vb == 1)=true:=beq_iff_eq.mpr cN;have yaj:(Vb != 1)=false:=bne_eq_false_iff_eq.mpr cN;clear cN
      by_cases IZ:t105=true
      ·subst IZ;have H1:(if t106=true then ((qb.f jc 0 (wrap64 ((Aa.length:Int) - 1))).bind fun t107=>(some t107)) else (some false))=some r:=by rw [if_pos rfl] at H;exact H
       clear H;have H:=H1;clear H1
       by_cases YK:t106=true
       ·subst YK;have H1:((qb.f jc 0 (wrap64 ((Aa.length:Int) - 1))).bind fun t107=>(some t107))=some r:=by rw [if_pos rfl] at H;exact H
        clear H;have H:=H1;clear H1;replace H:=Option.bind_eq_some_iff.mp H;obtain ⟨t107,Mal,H⟩:=H;replace H:(some t107)=some r:=H;have A34:=ga.mk Mal;clear Mal;obtain rfl:=Option.some.inj H;have caf:=Ib.out;have Nae:=Jb.out;have zE:wr.cell? ⟨Na,0,none⟩=some (.slice dg Xc.length Tf):=(ia Ba.out 0).trans rfl;have yE:wr.cell? ⟨Na,1,none⟩=some (.int .i64 Vb):=(ia Ba.out 1).trans rfl;have xE:wr.cell? ⟨Na,2,none⟩=some (.int .i64 Pb):=(ia Ba.out 2).trans rfl;have wE:wr.cell? ⟨Na,3,none⟩=some (.int .i64 Qb):=(ia Ba.out 3).trans rfl;have vE:wr.cell? ⟨Na,4,none⟩=some (.int .i64 jc):=(ia Ba.out 4).trans rfl;have eE:=aa Ba.out 0;have cE:=aa Ba.out 1;have bE:=aa Ba.out 2;have aE:=aa Ba.out 3;have ZD:=aa Ba.out 4;have DS:wr.cell? ⟨ya,0,none⟩=some (.slice Ya Qa.length Za):=(ia oa.out 0).trans rfl;have CS:wr.cell? ⟨ya,1,none⟩=some (.int .i64 Ja):=(ia oa.out 1).trans rfl;have BS:wr.cell? ⟨ya,2,none⟩=some (.int .i64 Ga):=(ia oa.out 2).trans rfl;have zS:wr.cell? ⟨ya,3,none⟩=some (.int .i64 Ia):=(ia oa.out 3).trans rfl;have yS:wr.cell? ⟨ya,4,none⟩=some (.slice Mb Aa.length Cb):=(ia oa.out 4).trans rfl;have lR:=aa oa.out 0;have kR:=aa oa.out 1;have jR:=aa oa.out 2;have iR:=aa oa.out 3;have gR:=aa oa.out 4;go_wp2_with (first|((with_reducible refine yb (f:=53) rfl ?_);refine Pc (some 29) rfl rfl Try.func53 (by kernel_rfl) rfl #[.int .i64 Qb,.int .i64 0,.int .i64 (wrap64 ((Aa.length:Int) - 1))] rfl waH ?_;(with_reducible refine (qb.calls Qb 0 (wrap64 ((Aa.length:Int) - 1)) true _ SZ.out).mono ?_);rintro e w' ⟨rfl,⟨nd,rfl⟩⟩;refine ⟨_,rfl,?_⟩)|((with_reducible refine yb (f:=53) rfl ?_);refine Pc (some 35) rfl rfl Try.func53 (by kernel_rfl) rfl #[.int .i64 Pb,.int .i64 0,.int .i64 (wrap64 (Ia - 1))] rfl waH ?_;(with_reducible refine (qb.calls Pb 0 (wrap64 (Ia - 1)) true _ JV.out).mono ?_);rintro e w' ⟨rfl,⟨nd,rfl⟩⟩;refine ⟨_,rfl,?_⟩)|(go_at_call 53;(with_reducible refine (qb.calls jc 0 (wrap64 ((Aa.length:Int) - 1)) t107 _ A34.out).mono ?_);rintro e w' ⟨rfl,⟨nd,rfl⟩⟩));go_ret;exact ⟨by first|rfl|(simp [Pa,Oa] <;> rfl)|(simp [*,Pa,Oa] <;> rfl),yaH⟩
       ·replace YK:=Bool.eq_false_iff.mpr YK;subst YK;have H1:(some false)=some r:=by rw [if_neg (show ¬ (false=true) by decide)] at H;exact H
        clear H;have H:=H1;clear H1;obtain rfl:=Option.some.inj H;have aaf:=Ib.out;have Lae:=Jb.out;have uE:wr.cell? ⟨Na,0,none⟩=some (.slice dg Xc.length Tf):=(ia Ba.out 0).trans rfl;have sE:wr.cell? ⟨Na,1,none⟩=some (.int .i64 Vb):=(ia Ba.out 1).trans rfl;have rE:wr.cell? ⟨Na,2,none⟩=some (.int .i64 Pb):=(ia Ba.out 2).trans rfl;have qE:wr.cell? ⟨Na,3,none⟩=some (.int .i64 Qb):=(ia Ba.out 3).trans rfl;have pE:wr.cell? ⟨Na,4,none⟩=some (.int .i64 jc):=(ia Ba.out 4).trans rfl;have YD:=aa Ba.out 0;have XD:=aa Ba.out 1;have WD:=aa Ba.out 2;have VD:=aa Ba.out 3;have UD:=aa Ba.out 4;have Ox:wr.cell? ⟨ya,0,none⟩=some (.slice Ya Qa.length Za):=(ia oa.out 0).trans rfl;have Nx:wr.cell? ⟨ya,1,none⟩=some (.int .i64 Ja):=(ia oa.out 1).trans rfl;have Mx:wr.cell? ⟨ya,2,none⟩=some (.int .i64 Ga):=(ia oa.out 2).trans rfl;have Lx:wr.cell? ⟨ya,3,none⟩=some (.int .i64 Ia):=(ia oa.out 3).trans rfl;have Kx:wr.cell? ⟨ya,4,none⟩=some (.slice Mb Aa.length Cb):=(ia oa.out 4).trans rfl;have Vw:=aa oa.out 0;have Uw:=aa oa.out 1;have Tw:=aa oa.out 2;have Sw:=aa oa.out 3;have Rw:=aa oa.out 4;go_wp2_with (first|((with_reducible refine yb (f:=53) rfl ?_);refine Pc (some 29) rfl rfl Try.func53 (by kernel_rfl) rfl #[.int .i64 Qb,.int .i64 0,.int .i64 (wrap64 ((Aa.length:Int) - 1))] rfl waH ?_;(with_reducible refine (qb.calls Qb 0 (wrap64 ((Aa.length:Int) - 1)) true _ SZ.out).mono ?_);rintro e w' ⟨rfl,⟨nd,rfl⟩⟩;refine ⟨_,rfl,?_⟩)|((with_reducible refine yb (f:=53) rfl ?_);refine Pc (some 35) rfl rfl Try.func53 (by kernel_rfl) rfl #[.int .i64 Pb,.int .i64 0,.int .i64 (wrap64 (Ia - 1))] rfl waH ?_;(with_reducible refine (qb.calls Pb 0 (wrap64 (Ia - 1)) false _ JV.out).mono ?_);rintro e w' ⟨rfl,⟨nd,rfl⟩⟩;refine ⟨_,rfl,?_⟩));go_ret;exact ⟨by first|rfl|(simp [Pa,Oa] <;> rfl)|(simp [*,Pa,Oa] <;> rfl),yaH⟩
      ·replace IZ:=Bool.eq_false_iff.mpr IZ;subst IZ;have H1:(some false)=some r:=by rw [if_neg (show ¬ (false=true) by decide)] at H;exact H
       clear H;have H:=H1;clear H1;obtain rfl:=Option.some.inj H;have Zae:=Ib.out;have Kae:=Jb.out;have QJ:wr.cell? ⟨Na,0,none⟩=some (.slice dg Xc.length Tf):=(ia Ba.out 0).trans rfl;have PJ:wr.cell? ⟨Na,1,none⟩=some (.int .i64 Vb):=(ia Ba.out 1).trans rfl;have OJ:wr.cell? ⟨Na,2,none⟩=some (.int .i64 Pb):=(ia Ba.out 2).trans rfl;have NJ:wr.cell? ⟨Na,3,none⟩=some (.int .i64 Qb):=(ia Ba.out 3).trans rfl;have MJ:wr.cell? ⟨Na,4,none⟩=some (.int .i64 jc):=(ia Ba.out 4).trans rfl;have aJ:=aa Ba.out 0;have ZI:=aa Ba.out 1;have YI:=aa Ba.out 2;have XI:=aa Ba.out 3;have WI:=aa Ba.out 4;have nS:wr.cell? ⟨ya,0,none⟩=some (.slice Ya Qa.length Za):=(ia oa.out 0).trans rfl;have mS:wr.cell? ⟨ya,1,none⟩=some (.int .i64 Ja):=(ia oa.out 1).trans rfl;have lS:wr.cell? ⟨ya,2,none⟩=some (.int .i64 Ga):=(ia oa.out 2).trans rfl;have kS:wr.cell? ⟨ya,3,none⟩=some (.int .i64 Ia):=(ia oa.out 3).trans rfl;have jS:wr.cell? ⟨ya,4,none⟩=some (.slice Mb Aa.length Cb):=(ia oa.out 4).trans rfl;have VQ:=aa oa.out 0;have UQ:=aa oa.out 1;have TQ:=aa oa.out 2;have SQ:=aa oa.out 3;have RQ:=aa oa.out 4;go_wp2_with (first|((with_reducible refine yb (f:=53) rfl ?_);refine Pc (some 29) rfl rfl Try.func53 (by kernel_rfl) rfl #[.int .i64 Qb,.int .i64 0,.int .i64 (wrap64 ((Aa.length:Int) - 1))] rfl waH ?_;(with_reducible refine (qb.calls Qb 0 (wrap64 ((Aa.length:Int) - 1)) false _ SZ.out).mono ?_);rintro e w' ⟨rfl,⟨nd,rfl⟩⟩;refine ⟨_,rfl,?_⟩)|((with_reducible refine yb (f:=53) rfl ?_);refine Pc (some 35) rfl rfl Try.func53 (by kernel_rfl) rfl #[.int .i64 Pb,.int .i64 0,.int .i64 (wrap64 (Ia - 1))] rfl waH ?_;(with_reducible refine (qb.calls Pb 0 (wrap64 (Ia - 1)) t106 _ JV.out).mono ?_);rintro e w' ⟨rfl,⟨nd,rfl⟩⟩;refine ⟨_,rfl,?_⟩));go_ret;exact ⟨by first|rfl|(simp [Pa,Oa] <;> rfl)|(simp [*,Pa,Oa] <;> rfl),yaH⟩
     ·rw [if_neg cN] at H;have xT:(Vb == 1)=false:=beq_eq_false_iff_ne.mpr cN;have yaj:(Vb != 1)=true:=bne_iff_ne.mpr cN
      by_cases zH:Vb=2
      ·rw [if_pos zH] at H;have uT:(Vb == 2)=true:=beq_iff_eq.mpr zH;have kY:(Vb != 2)=false:=bne_eq_false_iff_eq.mpr zH;clear zH
       by_cases b6:t106=true
       ·subst b6;have H1:(if Qb=0 then (some (jc == 0)) else (some false))=some r:=by rw [if_pos rfl] at H;exact H
        clear H;have H:=H1;clear H1
        by_cases yH:Qb=0
        ·rw [if_pos yH] at H;have jY:(Qb == 0)=true:=beq_iff_eq.mpr yH;have iY:(Qb != 0)=false:=bne_eq_false_iff_eq.mpr yH;clear yH;obtain rfl:=Option.some.inj H;have W7:=Ib.out;have T7:=Jb.out;have GJ:wr.cell? ⟨Na,0,none⟩=some (.slice dg Xc.length Tf):=(ia Ba.out 0).trans rfl;have FJ:wr.cell? ⟨Na,1,none⟩=some (.int .i64 Vb):=(ia Ba.out 1).trans rfl;have EJ:wr.cell? ⟨Na,2,none⟩=some (.int .i64 Pb):=(ia Ba.out 2).trans rfl;have DJ:wr.cell? ⟨Na,3,none⟩=some (.int .i64 Qb):=(ia Ba.out 3).trans rfl;have CJ:wr.cell? ⟨Na,4,none⟩=some (.int .i64 jc):=(ia Ba.out 4).trans rfl;have QI:=aa Ba.out 0;have PI:=aa Ba.out 1;have OI:=aa Ba.out 2;have NI:=aa Ba.out 3;have MI:=aa Ba.out 4;have D4:wr.cell? ⟨ya,0,none⟩=some (.slice Ya Qa.length Za):=(ia oa.out 0).trans rfl;have C4:wr.cell? ⟨ya,1,none⟩=some (.int .i64 Ja):=(ia oa.out 1).trans rfl;have m4:wr.cell? ⟨ya,2,none⟩=some (.int .i64 Ga):=(ia oa.out 2).trans rfl;have j4:wr.cell? ⟨ya,3,none⟩=some (.int .i64 Ia):=(ia oa.out 3).trans rfl;have Z3:wr.cell? ⟨ya,4,none⟩=some (.slice Mb Aa.length Cb):=(ia oa.out 4).trans rfl;have E2:=aa oa.out 0;have D2:=aa oa.out 1;have C2:=aa oa.out 2;have B2:=aa oa.out 3;have Z1:=aa oa.out 4;go_wp2_with (first|((with_reducible refine yb (f:=53) rfl ?_);refine Pc (some 29) rfl rfl Try.func53 (by kernel_rfl) rfl #[.int .i64 Qb,.int .i64 0,.int .i64 (wrap64 ((Aa.length:Int) - 1))] rfl waH ?_;(with_reducible refine (qb.calls Qb 0 (wrap64 ((Aa.length:Int) - 1)) t105 _ SZ.out).mono ?_);rintro e w' ⟨rfl,⟨nd,rfl⟩⟩;refine ⟨_,rfl,?_⟩)|((with_reducible refine yb (f:=53) rfl ?_);refine Pc (some 35) rfl rfl Try.func53 (by kernel_rfl) rfl #[.int .i64 Pb,.int .i64 0,.int .i64 (wrap64 (Ia - 1))] rfl waH ?_;(with_reducible refine (qb.calls Pb 0 (wrap64 (Ia - 1)) true _ JV.out).mono ?_);rintro e w' ⟨rfl,⟨nd,rfl⟩⟩;refine ⟨_,rfl,?_⟩));go_ret;exact ⟨by first|rfl|(simp [Pa,Oa] <;> rfl)|(simp [*,Pa,Oa] <;> rfl),yaH⟩
        ·rw [if_neg yH] at H;have jY:(Qb == 0)=false:=beq_eq_false_iff_ne.mpr yH;have iY:(Qb != 0)=true:=bne_iff_ne.mpr yH;obtain rfl:=Option.some.inj H;have DaA:=Ib.out;have Xaz:=Jb.out;have Sar:wr.cell? ⟨Na,0,none⟩=some (.slice dg Xc.length Tf):=(ia Ba.out 0).trans rfl;have Rar:wr.cell? ⟨Na,1,none⟩=some (.int .i64 Vb):=(ia Ba.out 1).trans rfl;have Qar:wr.cell? ⟨Na,2,none⟩=some (.int .i64 Pb):=(ia Ba.out 2).trans rfl;have Par:wr.cell? ⟨Na,3,none⟩=some (.int .i64 Qb):=(ia Ba.out 3).trans rfl;have Oar:wr.cell? ⟨Na,4,none⟩=some (.int .i64 jc):=(ia Ba.out 4).trans rfl;have Hao:=aa Ba.out 0;have Gao:=aa Ba.out 1;have Fao:=aa Ba.out 2;have Eao:=aa Ba.out 3;have Dao:=aa Ba.out 4;have zJ:wr.cell? ⟨ya,0,none⟩=some (.slice Ya Qa.length Za):=(ia oa.out 0).trans rfl;have yJ:wr.cell? ⟨ya,1,none⟩=some (.int .i64 Ja):=(ia oa.out 1).trans rfl;have xJ:wr.cell? ⟨ya,2,none⟩=some (.int .i64 Ga):=(ia oa.out 2).trans rfl;have wJ:wr.cell? ⟨ya,3,none⟩=some (.int .i64 Ia):=(ia oa.out 3).trans rfl;have vJ:wr.cell? ⟨ya,4,none⟩=some (.slice Mb Aa.length Cb):=(ia oa.out 4).trans rfl;have JI:=aa oa.out 0;have II:=aa oa.out 1;have GI:=aa oa.out 2;have FI:=aa oa.out 3;have EI:=aa oa.out 4;go_wp2_with (first|((with_reducible refine yb (f:=53) rfl ?_);refine Pc (some 29) rfl rfl Try.func53 (by kernel_rfl) rfl #[.int .i64 Qb,.int .i64 0,.int .i64 (wrap64 ((Aa.length:Int) - 1))] rfl waH ?_;(with_reducible refine (qb.calls Qb 0 (wrap64 ((Aa.length:Int) - 1)) t105 _ SZ.out).mono ?_);rintro e w' ⟨rfl,⟨nd,rfl⟩⟩;refine ⟨_,rfl,?_⟩)|((with_reducible refine yb (f:=53) rfl ?_);refine Pc (some 35) rfl rfl Try.func53 (by kernel_rfl) rfl #[.int .i64 Pb,.int .i64 0,.int .i64 (wrap64 (Ia - 1))] rfl waH ?_;(with_reducible refine (qb.calls Pb 0 (wrap64 (Ia - 1)) true _ JV.out).mono ?_);rintro e w' ⟨rfl,⟨nd,rfl⟩⟩;refine ⟨_,rfl,?_⟩));go_ret;exact ⟨by first|rfl|(simp [Pa,Oa] <;> rfl)|(simp [*,Pa,Oa] <;> rfl),yaH⟩
       ·replace b6:=Bool.eq_false_iff.mpr b6;subst b6;have H1:(some false)=some r:=by rw [if_neg (show ¬ (false=true) by decide)] at H;exact H
        clear H;have H:=H1;clear H1;obtain rfl:=Option.some.inj H;have CaA:=Ib.out;have Waz:=Jb.out;have Gar:wr.cell? ⟨Na,0,none⟩=some (.slice dg Xc.length Tf):=(ia Ba.out 0).trans rfl;have Far:wr.cell? ⟨Na,1,none⟩=some (.int .i64 Vb):=(ia Ba.out 1).trans rfl;have Ear:wr.cell? ⟨Na,2,none⟩=some (.int .i64 Pb):=(ia Ba.out 2).trans rfl;have Dar:wr.cell? ⟨Na,3,none⟩=some (.int .i64 Qb):=(ia Ba.out 3).trans rfl;have Car:wr.cell? ⟨Na,4,none⟩=some (.int .i64 jc):=(ia Ba.out 4).trans rfl;have vao:=aa Ba.out 0;have uao:=aa Ba.out 1;have tao:=aa Ba.out 2;have sao:=aa Ba.out 3;have rao:=aa Ba.out 4;have Y3:wr.cell? ⟨ya,0,none⟩=some (.slice Ya Qa.length Za):=(ia oa.out 0).trans rfl;have X3:wr.cell? ⟨ya,1,none⟩=some (.int .i64 Ja):=(ia oa.out 1).trans rfl;have W3:wr.cell? ⟨ya,2,none⟩=some (.int .i64 Ga):=(ia oa.out 2).trans rfl;have V3:wr.cell? ⟨ya,3,none⟩=some (.int .i64 Ia):=(ia oa.out 3).trans rfl;have U3:wr.cell? ⟨ya,4,none⟩=some (.slice Mb Aa.length Cb):=(ia oa.out 4).trans rfl;have Y1:=aa oa.out 0;have X1:=aa oa.out 1;have V1:=aa oa.out 2;have U1:=aa oa.out 3;have T1:=aa oa.out 4;go_wp2_with (first|((with_reducible refine yb (f:=53) rfl ?_);refine Pc (some 29) rfl rfl Try.func53 (by kernel_rfl) rfl #[.int .i64 Qb,.int .i64 0,.int .i64 (wrap64 ((Aa.length:Int) - 1))] rfl waH ?_;(with_reducible refine (qb.calls Qb 0 (wrap64 ((Aa.length:Int) - 1)) t105 _ SZ.out).mono ?_);rintro e w' ⟨rfl,⟨nd,rfl⟩⟩;refine ⟨_,rfl,?_⟩)|((with_reducible refine yb (f:=53) rfl ?_);refine Pc (some 35) rfl rfl Try.func53 (by kernel_rfl) rfl #[.int .i64 Pb,.int .i64 0,.int .i64 (wrap64 (Ia - 1))] rfl waH ?_;(with_reducible refine (qb.calls Pb 0 (wrap64 (Ia - 1)) false _ JV.out).mono ?_);rintro e w' ⟨rfl,⟨nd,rfl⟩⟩;refine ⟨_,rfl,?_⟩));go_ret;exact ⟨by first|rfl|(simp [Pa,Oa] <;> rfl)|(simp [*,Pa,Oa] <;> rfl),yaH⟩
      ·rw [if_neg zH] at H;have uT:(Vb == 2)=false:=beq_eq_false_iff_ne.mpr zH;have kY:(Vb != 2)=true:=bne_iff_ne.mpr zH;obtain rfl:=Option.some.inj H;have AaA:=Ib.out;have Uaz:=Jb.out;have Bar:wr.cell? ⟨Na,0,none⟩=some (.slice dg Xc.length Tf):=(ia Ba.out 0).trans rfl;have Aar:wr.cell? ⟨Na,1,none⟩=some (.int .i64 Vb):=(ia Ba.out 1).trans rfl;have zar:wr.cell? ⟨Na,2,none⟩=some (.int .i64 Pb):=(ia Ba.out 2).trans rfl;have yar:wr.cell? ⟨Na,3,none⟩=some (.int .i64 Qb):=(ia Ba.out 3).trans rfl;have xar:wr.cell? ⟨Na,4,none⟩=some (.int .i64 jc):=(ia Ba.out 4).trans rfl;have qao:=aa Ba.out 0;have pao:=aa Ba.out 1;have oao:=aa Ba.out 2;have nao:=aa Ba.out 3;have mao:=aa Ba.out 4;have T3:wr.cell? ⟨ya,0,none⟩=some (.slice Ya Qa.length Za):=(ia oa.out 0).trans rfl;have S3:wr.cell? ⟨ya,1,none⟩=some (.int .i64 Ja):=(ia oa.out 1).trans rfl;have R3:wr.cell? ⟨ya,2,none⟩=some (.int .i64 Ga):=(ia oa.out 2).trans rfl;have Q3:wr.cell? ⟨ya,3,none⟩=some (.int .i64 Ia):=(ia oa.out 3).trans rfl;have P3:wr.cell? ⟨ya,4,none⟩=some (.slice Mb Aa.length Cb):=(ia oa.out 4).trans rfl;have S1:=aa oa.out 0;have R1:=aa oa.out 1;have Q1:=aa oa.out 2;have P1:=aa oa.out 3;have O1:=aa oa.out 4;go_wp2_with (first|((with_reducible refine yb (f:=53) rfl ?_);refine Pc (some 29) rfl rfl Try.func53 (by kernel_rfl) rfl #[.int .i64 Qb,.int .i64 0,.int .i64 (wrap64 ((Aa.length:Int) - 1))] rfl waH ?_;(with_reducible refine (qb.calls Qb 0 (wrap64 ((Aa.length:Int) - 1)) t105 _ SZ.out).mono ?_);rintro e w' ⟨rfl,⟨nd,rfl⟩⟩;refine ⟨_,rfl,?_⟩)|((with_reducible refine yb (f:=53) rfl ?_);refine Pc (some 35) rfl rfl Try.func53 (by kernel_rfl) rfl #[.int .i64 Pb,.int .i64 0,.int .i64 (wrap64 (Ia - 1))] rfl waH ?_;(with_reducible refine (qb.calls Pb 0 (wrap64 (Ia - 1)) t106 _ JV.out).mono ?_);rintro e w' ⟨rfl,⟨nd,rfl⟩⟩;refine ⟨_,rfl,?_⟩));go_ret;exact ⟨by first|rfl|(simp [Pa,Oa] <;> rfl)|(simp [*,Pa,Oa] <;> rfl),yaH⟩
mutual
def mb.l0:Nat→Int→List Int→Int→Int→Int→List (Je)→Option (Bool)
 | 0,_,_,_,_,_,_=>none
 | k + 1,x3,yc,Qc,Gc,Dc,Yb=>if x3 < (yc.length:Int) then (if 0 ≤ x3 then ((qb.f (rd yc x3) 1 16).bind fun t103=>(if t103=true then (mb.l0 k (wrap64 (x3 + 1)) yc Qc Gc Dc Yb) else (some false))) else (none)) else ((qb.f (yc.length:Int) 1 4).bind fun t104=>(if t104=true then ((qb.f Gc 0 20).bind fun t105=>(if t105=true then ((qb.f Qc 0 6).bind fun t106=>(if t106=true then (if Qc > Gc then (mb.j1 k true yc Qc Gc Dc Yb) else ((qb.f Dc Gc 1000).bind fun t107=>(if t107=true then ((qb.f (Yb.length:Int) 1 300).bind fun t108=>(mb.j1 k (!t108) yc Qc Gc Dc Yb)) else (mb.j1 k true yc Qc Gc Dc Yb)))) else (mb.j1 k true yc Qc Gc Dc Yb))) else (mb.j1 k true yc Qc Gc Dc Yb))) else (mb.j1 k true yc Qc Gc Dc Yb)))
def mb.j1:Nat→Bool→List Int→Int→Int→Int→List (Je)→Option (Bool)
 | 0,_,_,_,_,_,_=>none
 | k + 1,x58,yc,Qc,Gc,Dc,Yb=>if x58=true then (some false) else (mb.l1 k 0 0 yc Qc Gc Dc Yb)
def mb.l1:Nat→Int→Int→List Int→Int→Int→Int→List (Je)→Option (Bool)
 | 0,_,_,_,_,_,_,_=>none
 | k + 1,x4,x5,yc,Qc,Gc,Dc,Yb=>if x5 < (Yb.length:Int) then (if 0 ≤ x5 then (if (wrap64 (x4 + (((za Yb x5).f0).length:Int))) > 1000 then (some false) else ((uc.f k yc Qc Gc Dc Yb ((za Yb x5).f0) ((za Yb x5).f1) ((za Yb x5).f2) ((za Yb x5).f3) ((za Yb x5).f4)).bind fun t111=>(if t111=true then (mb.l1 k (wrap64 (x4 + (((za Yb x5).f0).length:Int))) (wrap64 (x5 + 1)) yc Qc Gc Dc Yb) else (some false)))) else (none)) else (some true)
end
def mb.f (k:Nat) (Qa:List Int) (Ja:Int) (Ga:Int) (Ia:Int) (Aa:List (Je)):Option (Bool):=mb.l0 k 0 Qa Ja Ga Ia Aa
def mb.T13:Bool × List (List Nat × List Nat):=(true,[([],[]),([0],[0]),([1],[1]),([2],[2]),([2],[2]),([4,2],[2,4]),([2],[2]),([5,6,2],[2,5,6]),([7,2],[2,7]),([3,8,2,2],[2,3,8]),([9,2],[2,9]),([2,10],[2,10])])
def mb.B13:List Nat:=[0,1,3,7,7,23,7,119,247,511,1023,2047]
theorem mb.WV:Dp .any (opsOf Try.f40 13)=mb.T13:=by kernel_rfl
theorem mb.MO:Jp mb.T13.2 mb.B13=true:=by kernel_rfl
theorem mb.calls (k:Nat) (Ya:Option Addr) (Za:Nat) (Qa:List Int) (Ja:Int) (Ga:Int) (Ia:Int) (Mb:Option Addr) (Cb:Nat) (Aa:List (Je)) (r:Bool) (w:World) (Ud:Kd.C (Kd.int .i64) w Ya Qa.length Qa) (Rd:Qa.length ≤ Za) (yf:Kd.C Fq w Mb Aa.length Aa) (kf:Aa.length ≤ Cb) (h:mb.f k Qa Ja Ga Ia Aa=some r) :
  Calls Try.prog 40 #[.agg #[.slice Ya Qa.length Za,.int .i64 Ja,.int .i64 Ga,.int .i64 Ia,.slice Mb Aa.length Cb]] w fun e w'=>e = .returned (.bool r)∧Below w.heap.size w w':=by
 have GF:=Try.underlying30;have kC:=Try.underlying59;have Ze:=ga.mk Ud;have Af:=ga.mk Rd;clear Ud Rd;have xg:=ga.mk yf;have ki:=ga.mk kf;clear yf kf;have HB:=ga.mk (Below.refl w.heap.size w);have H:(mb.l0 k 0 Qa Ja Ga Ia Aa)=some r:=h;clear h;have H':=ga.mk H;clear H;go_enter Try.func40,Try.ntmps40;go_wp2_with (first|((with_reducible refine Ab (N:=1) rfl ?_);(try (refine Vj (by rfl) ?_;dsimp only));refine Lb ?hg (N:=1) ?hd (cs:=#[.slice Ya Qa.length Za,.int .i64 Ja,.int .i64 Ga,.int .i64 Ia,.slice Mb Aa.length Cb]) (t:=30) ?hr ?_;(case hd=>rfl);(case hg=>rfl);(case hr=>first|(go_simp;done)|(go_simp;rfl));intro ya hg w2 Sb hb;have Eb:=ga.mk (Ra uaH hb);have Fb:=ga.mk (Sb);have Ob:=ga.mk ((by rw [hg];exact (La uaH):w.heap.size ≤ ya));have Ec:=ga.mk ((by rw [hg];exact (La uaH):w.heap.size ≤ ya));clear HB;have HB:=Eb;have oa:=Fb;have Vd:=Ob;have Ta:=Ec;clear Eb Fb Ob Ec hb Sb hg))
 go_loopg [3] k (fun kq v3 w'=>∃ (ie:Int),v3 = .int .i64 ie∧ga (mb.l0 kq ie Qa Ja Ga Ia Aa=some r)∧ga (kq ≤ k)∧ga (w'.heap[ya]? = some (.cells #[(.slice Ya Qa.length Za),.int .i64 Ja,.int .i64 Ga,.int .i64 Ia,(.slice Mb Aa.length Cb)] 30 (0,0)))∧ga (Below w.heap.size w w'))
 case atStart=>exact ⟨(0),AaH,H',⟨Nat.le_refl _⟩,⟨zaH⟩,⟨xaH⟩⟩
 case round =>
  clear H'
  try clear p2
  (try clear HA);(try clear wg);(try clear oa);(try clear HB);obtain ⟨ie,rfl,HA,wg,oa,HB⟩:=hrel;cases gk with
  | zero=>exact absurd HA.out (by simp [mb.l0])
  | succ k1 =>
   have H:=HA.out;clear HA;simp only [mb.l0] at H
   by_cases c3:ie < (Qa.length:Int)
   ·rw [if_pos c3] at H;have Xh:decide (ie < (Qa.length:Int))=true:=decide_eq_true c3;clear c3
    by_cases c4:0 ≤ ie
    ·rw [if_pos c4] at H;have jk:decide (0 ≤ ie)=true:=decide_eq_true c4;clear c4;replace H:=Option.bind_eq_some_iff.mp H;obtain ⟨t103,w_,H⟩:=H;replace H:(if t103=true then (mb.l0 k1 (wrap64 (ie + 1)) Qa Ja Ga Ia Aa) else (some false))=some r:=H;have A5:=ga.mk w_;clear w_
     by_cases c6:t103=true
     ·subst c6;have H1:(mb.l0 k1 (wrap64 (ie + 1)) Qa Ja Ga Ia Aa)=some r:=by rw [if_pos rfl] at H;exact H
      clear H;have H:=H1;clear H1;have H':=ga.mk H;clear H;have Hu:wr.cell? ⟨ya,0,none⟩=some (.slice Ya Qa.length Za):=(ia oa.out 0).trans rfl;have Gu:wr.cell? ⟨ya,1,none⟩=some (.int .i64 Ja):=(ia oa.out 1).trans rfl;have Fu:wr.cell? ⟨ya,2,none⟩=some (.int .i64 Ga):=(ia oa.out 2).trans rfl;have Eu:wr.cell? ⟨ya,3,none⟩=some (.int .i64 Ia):=(ia oa.out 3).trans rfl;have Du:wr.cell? ⟨ya,4,none⟩=some (.slice Mb Aa.length Cb):=(ia oa.out 4).trans rfl;have Zt:=aa oa.out 0;have Yt:=aa oa.out 1;have Xt:=aa oa.out 2;have Wt:=aa oa.out 3;have Vt:=aa oa.out 4;have zj:0 ≤ (ie:Int):=Ua;have yj:ie < (Qa.length:Int):=Ua;obtain ⟨Jf,qv,Mf⟩:=Kd.Bi Ze.out ie zj yj;cases qv;replace Mf:=Sa HB.out Mf;replace zj:=eq_true zj;replace yj:=eq_true yj;go_wp2_with (first|((with_reducible refine yb (f:=53) rfl ?_);refine Pc (some 18) rfl rfl Try.func53 (by kernel_rfl) rfl #[.int .i64 (rd Qa ie),.int .i64 1,.int .i64 16] rfl waH ?_;(with_reducible refine (qb.calls (rd Qa ie) 1 16 true _ A5.out).mono ?_);rintro e w' ⟨rfl,⟨nd,rfl⟩⟩;refine ⟨_,rfl,?_⟩))
      go_roundg k1
      case measure=>have:=wg.out;omega
      case rel=>exact ⟨(wrap64 (ie + 1)),AaH,H',⟨by have:=wg.out;omega⟩,⟨zaH⟩,⟨xaH⟩⟩
     ·replace c6:=Bool.eq_false_iff.mpr c6;subst c6;have H1:(some false)=some r:=by rw [if_neg (show ¬ (false=true) by decide)] at H;exact H
      clear H;have H:=H1;clear H1;obtain rfl:=Option.some.inj H;have Rn:wr.cell? ⟨ya,0,none⟩=some (.slice Ya Qa.length Za):=(ia oa.out 0).trans rfl;have Qn:wr.cell? ⟨ya,1,none⟩=some (.int .i64 Ja):=(ia oa.out 1).trans rfl;have Pn:wr.cell? ⟨ya,2,none⟩=some (.int .i64 Ga):=(ia oa.out 2).trans rfl;have Nn:wr.cell? ⟨ya,3,none⟩=some (.int .i64 Ia):=(ia oa.out 3).trans rfl;have Mn:wr.cell? ⟨ya,4,none⟩=some (.slice Mb Aa.length Cb):=(ia oa.out 4).trans rfl;have sn:=aa oa.out 0;have qn:=aa oa.out 1;have pn:=aa oa.out 2;have kn:=aa oa.out 3;have jn:=aa oa.out 4;have zj:0 ≤ (ie:Int):=Ua;have yj:ie < (Qa.length:Int):=Ua;obtain ⟨Jf,qv,Mf⟩:=Kd.Bi Ze.out ie zj yj;cases qv;replace Mf:=Sa HB.out Mf;replace zj:=eq_true zj;replace yj:=eq_true yj;go_wp2_with (first|((with_reducible refine yb (f:=53) rfl ?_);refine Pc (some 18) rfl rfl Try.func53 (by kernel_rfl) rfl #[.int .i64 (rd Qa ie),.int .i64 1,.int .i64 16] rfl waH ?_;(with_reducible refine (qb.calls (rd Qa ie) 1 16 false _ A5.out).mono ?_);rintro e w' ⟨rfl,⟨nd,rfl⟩⟩;refine ⟨_,rfl,?_⟩));go_ret;exact ⟨by first|rfl|(simp [Pa,Oa] <;> rfl)|(simp [*,Pa,Oa] <;> rfl),xaH⟩
    ·rw [if_neg c4] at H;exact absurd H (by simp)
   ·rw [if_neg c3] at H;have Xh:decide (ie < (Qa.length:Int))=false:=decide_eq_false c3;clear c3;have HC9:=ga.mk H;clear H;have Nh:wr.cell? ⟨ya,0,none⟩=some (.slice Ya Qa.length Za):=(ia oa.out 0).trans rfl;have Mh:wr.cell? ⟨ya,1,none⟩=some (.int .i64 Ja):=(ia oa.out 1).trans rfl;have Lh:wr.cell? ⟨ya,2,none⟩=some (.int .i64 Ga):=(ia oa.out 2).trans rfl;have Kh:wr.cell? ⟨ya,3,none⟩=some (.int .i64 Ia):=(ia oa.out 3).trans rfl;have Jh:wr.cell? ⟨ya,4,none⟩=some (.slice Mb Aa.length Cb):=(ia oa.out 4).trans rfl;have Ih:=aa oa.out 0;have Hh:=aa oa.out 1;have Gh:=aa oa.out 2;have Fh:=aa oa.out 3;have Eh:=aa oa.out 4
    go_upto_region 6 with (fail)
    go_cut [58] (fun v58 wc=>∃ (kq:Nat) (pP:Bool),v58 = .bool pP∧ga (mb.j1 kq pP Qa Ja Ga Ia Aa=some r)∧ga (kq ≤ k1)∧ga (wc.heap[ya]? = some (.cells #[(.slice Ya Qa.length Za),.int .i64 Ja,.int .i64 Ga,.int .i64 Ia,(.slice Mb Aa.length Cb)] 30 (0,0)))∧ga (Below w.heap.size w wc))
    case first =>
     have H:=HC9.out;clear HC9;replace H:=Option.bind_eq_some_iff.mp H;obtain ⟨t104,UM,H⟩:=H;replace H:(if t104=true then ((qb.f Ga 0 20).bind fun t105=>(if t105=true then ((qb.f Ja 0 6).bind fun t106=>(if t106=true then (if Ja > Ga then (mb.j1 k1 true Qa Ja Ga Ia Aa) else ((qb.f Ia Ga 1000).bind fun t107=>(if t107=true then ((qb.f (Aa.length:Int) 1 300).bind fun t108=>(mb.j1 k1 (!t108) Qa Ja Ga Ia Aa)) else (mb.j1 k1 true Qa Ja Ga Ia Aa)))) else (mb.j1 k1 true Qa Ja Ga Ia Aa))) else (mb.j1 k1 true Qa Ja Ga Ia Aa))) else (mb.j1 k1 true Qa Ja Ga Ia Aa))=some r:=H;have KV:=ga.mk UM;clear UM
     by_cases Ss:t104=true
     ·subst Ss;have H1:((qb.f Ga 0 20).bind fun t105=>(if t105=true then ((qb.f Ja 0 6).bind fun t106=>(if t106=true then (if Ja > Ga then (mb.j1 k1 true Qa Ja Ga Ia Aa) else ((qb.f Ia Ga 1000).bind fun t107=>(if t107=true then ((qb.f (Aa.length:Int) 1 300).bind fun t108=>(mb.j1 k1 (!t108) Qa Ja Ga Ia Aa)) else (mb.j1 k1 true Qa Ja Ga Ia Aa)))) else (mb.j1 k1 true Qa Ja Ga Ia Aa))) else (mb.j1 k1 true Qa Ja Ga Ia Aa)))=some r:=by rw [if_pos rfl] at H;exact H
      clear H;have H:=H1;clear H1;replace H:=Option.bind_eq_some_iff.mp H;obtain ⟨t105,uZ,H⟩:=H;replace H:(if t105=true then ((qb.f Ja 0 6).bind fun t106=>(if t106=true then (if Ja > Ga then (mb.j1 k1 true Qa Ja Ga Ia Aa) else ((qb.f Ia Ga 1000).bind fun t107=>(if t107=true then ((qb.f (Aa.length:Int) 1 300).bind fun t108=>(mb.j1 k1 (!t108) Qa Ja Ga Ia Aa)) else (mb.j1 k1 true Qa Ja Ga Ia Aa)))) else (mb.j1 k1 true Qa Ja Ga Ia Aa))) else (mb.j1 k1 true Qa Ja Ga Ia Aa))=some r:=H;have A13:=ga.mk uZ;clear uZ
      by_cases cL:t105=true
      ·subst cL;have H1:((qb.f Ja 0 6).bind fun t106=>(if t106=true then (if Ja > Ga then (mb.j1 k1 true Qa Ja Ga Ia Aa) else ((qb.f Ia Ga 1000).bind fun t107=>(if t107=true then ((qb.f (Aa.length:Int) 1 300).bind fun t108=>(mb.j1 k1 (!t108) Qa Ja Ga Ia Aa)) else (mb.j1 k1 true Qa Ja Ga Ia Aa)))) else (mb.j1 k1 true Qa Ja Ga Ia Aa)))=some r:=by rw [if_pos rfl] at H;exact H
       clear H;have H:=H1;clear H1;replace H:=Option.bind_eq_some_iff.mp H;obtain ⟨t106,SM,H⟩:=H;replace H:(if t106=true then (if Ja > Ga then (mb.j1 k1 true Qa Ja Ga Ia Aa) else ((qb.f Ia Ga 1000).bind fun t107=>(if t107=true then ((qb.f (Aa.length:Int) 1 300).bind fun t108=>(mb.j1 k1 (!t108) Qa Ja Ga Ia Aa)) else (mb.j1 k1 true Qa Ja Ga Ia Aa)))) else (mb.j1 k1 true Qa Ja Ga Ia Aa))=some r:=H;have A_:=ga.mk SM;clear SM
       by_cases uM:t106=true
       ·subst uM;have H1:(if Ja > Ga then (mb.j1 k1 true Qa Ja Ga Ia Aa) else ((qb.f Ia Ga 1000).bind fun t107=>(if t107=true then ((qb.f (Aa.length:Int) 1 300).bind fun t108=>(mb.j1 k1 (!t108) Qa Ja Ga Ia Aa)) else (mb.j1 k1 true Qa Ja Ga Ia Aa))))=some r:=by rw [if_pos rfl] at H;exact H
        clear H;have H:=H1;clear H1
        by_cases yt:Ja > Ga
        ·rw [if_pos yt] at H;have Hp:decide (Ga < Ja)=true:=decide_eq_true yt;clear yt;(first|rw [Hp]|(simp only [nc,oc];rw [Hp])|skip);have H':=ga.mk H;clear H;have qy:wr.cell? ⟨ya,0,none⟩=some (.slice Ya Qa.length Za):=(ia oa.out 0).trans rfl;have oy:wr.cell? ⟨ya,1,none⟩=some (.int .i64 Ja):=(ia oa.out 1).trans rfl;have ny:wr.cell? ⟨ya,2,none⟩=some (.int .i64 Ga):=(ia oa.out 2).trans rfl;have jy:wr.cell? ⟨ya,3,none⟩=some (.int .i64 Ia):=(ia oa.out 3).trans rfl;have iy:wr.cell? ⟨ya,4,none⟩=some (.slice Mb Aa.length Cb):=(ia oa.out 4).trans rfl;have Ex:=aa oa.out 0;have Dx:=aa oa.out 1;have Cx:=aa oa.out 2;have Bx:=aa oa.out 3;have zx:=aa oa.out 4;go_wp2_with (first|((with_reducible refine yb (f:=53) rfl ?_);refine Pc (some 23) rfl rfl Try.func53 (by kernel_rfl) rfl #[.int .i64 (Qa.length:Int),.int .i64 1,.int .i64 4] rfl waH ?_;(with_reducible refine (qb.calls (Qa.length:Int) 1 4 true _ KV.out).mono ?_);rintro e w' ⟨rfl,⟨nd,rfl⟩⟩;refine ⟨_,rfl,?_⟩)|(go_at_call 53;(with_reducible refine (qb.calls Ga 0 20 true _ A13.out).mono ?_);rintro e w' ⟨rfl,⟨nd,rfl⟩⟩)|(go_at_call 53;(with_reducible refine (qb.calls Ja 0 6 true _ A_.out).mono ?_);rintro e w' ⟨rfl,⟨nd,rfl⟩⟩))
         go_meet
         case rel=>exact ⟨_,(true),AaH,H',⟨by have:=wg.out;first|omega|exact Nat.le_refl _⟩,⟨zaH⟩,⟨xaH⟩⟩
        ·rw [if_neg yt] at H;have Hp:decide (Ga < Ja)=false:=decide_eq_false yt;clear yt;(first|rw [Hp]|(simp only [nc,oc];rw [Hp])|skip);replace H:=Option.bind_eq_some_iff.mp H;obtain ⟨t107,Sal,H⟩:=H;replace H:(if t107=true then ((qb.f (Aa.length:Int) 1 300).bind fun t108=>(mb.j1 k1 (!t108) Qa Ja Ga Ia Aa)) else (mb.j1 k1 true Qa Ja Ga Ia Aa))=some r:=H;have A19:=ga.mk Sal;clear Sal
         by_cases tr:t107=true
         ·subst tr;have H1:((qb.f (Aa.length:Int) 1 300).bind fun t108=>(mb.j1 k1 (!t108) Qa Ja Ga Ia Aa))=some r:=by rw [if_pos rfl] at H;exact H
          clear H;have H:=H1;clear H1;replace H:=Option.bind_eq_some_iff.mp H;obtain ⟨t108,Ral,H⟩:=H;replace H:(mb.j1 k1 (!t108) Qa Ja Ga Ia Aa)=some r:=H;have z_:=ga.mk Ral;clear Ral;have H':=ga.mk H;clear H;have Tu:wr.cell? ⟨ya,0,none⟩=some (.slice Ya Qa.length Za):=(ia oa.out 0).trans rfl;have Su:wr.cell? ⟨ya,1,none⟩=some (.int .i64 Ja):=(ia oa.out 1).trans rfl;have Ru:wr.cell? ⟨ya,2,none⟩=some (.int .i64 Ga):=(ia oa.out 2).trans rfl;have Qu:wr.cell? ⟨ya,3,none⟩=some (.int .i64 Ia):=(ia oa.out 3).trans rfl;have Pu:wr.cell? ⟨ya,4,none⟩=some (.slice Mb Aa.length Cb):=(ia oa.out 4).trans rfl;have ru:=aa oa.out 0;have qu:=aa oa.out 1;have ou:=aa oa.out 2;have nu:=aa oa.out 3;have lu:=aa oa.out 4;go_wp2_with (first|((with_reducible refine yb (f:=53) rfl ?_);refine Pc (some 23) rfl rfl Try.func53 (by kernel_rfl) rfl #[.int .i64 (Qa.length:Int),.int .i64 1,.int .i64 4] rfl waH ?_;(with_reducible refine (qb.calls (Qa.length:Int) 1 4 true _ KV.out).mono ?_);rintro e w' ⟨rfl,⟨nd,rfl⟩⟩;refine ⟨_,rfl,?_⟩)|(go_at_call 53;(with_reducible refine (qb.calls Ga 0 20 true _ A13.out).mono ?_);rintro e w' ⟨rfl,⟨nd,rfl⟩⟩)|(go_at_call 53;(with_reducible refine (qb.calls Ja 0 6 true _ A_.out).mono ?_);rintro e w' ⟨rfl,⟨nd,rfl⟩⟩)|(go_at_call 53;(with_reducible refine (qb.calls Ia Ga 1000 true _ A19.out).mono ?_);rintro e w' ⟨rfl,⟨nd,rfl⟩⟩)|(go_at_call 53;(with_reducible refine (qb.calls (Aa.length:Int) 1 300 t108 _ z_.out).mono ?_);rintro e w' ⟨rfl,⟨nd,rfl⟩⟩))
          go_meet
          case rel=>exact ⟨_,(!t108),AaH,H',⟨by have:=wg.out;first|omega|exact Nat.le_refl _⟩,⟨zaH⟩,⟨xaH⟩⟩
         ·replace tr:=Bool.eq_false_iff.mpr tr;subst tr;have H1:(mb.j1 k1 true Qa Ja Ga Ia Aa)=some r:=by rw [if_neg (show ¬ (false=true) by decide)] at H;exact H
          clear H;have H:=H1;clear H1;have H':=ga.mk H;clear H;have Bs:wr.cell? ⟨ya,0,none⟩=some (.slice Ya Qa.length Za):=(ia oa.out 0).trans rfl;have js:wr.cell? ⟨ya,1,none⟩=some (.int .i64 Ja):=(ia oa.out 1).trans rfl;have Zr:wr.cell? ⟨ya,2,none⟩=some (.int .i64 Ga):=(ia oa.out 2).trans rfl;have Yr:wr.cell? ⟨ya,3,none⟩=some (.int .i64 Ia):=(ia oa.out 3).trans rfl;have Xr:wr.cell? ⟨ya,4,none⟩=some (.slice Mb Aa.length Cb):=(ia oa.out 4).trans rfl;have Qr:=aa oa.out 0;have Pr:=aa oa.out 1;have Nr:=aa oa.out 2;have Mr:=aa oa.out 3;have Lr:=aa oa.out 4;go_wp2_with (first|((with_reducible refine yb (f:=53) rfl ?_);refine Pc (some 23) rfl rfl Try.func53 (by kernel_rfl) rfl #[.int .i64 (Qa.length:Int),.int .i64 1,.int .i64 4] rfl waH ?_;(with_reducible refine (qb.calls (Qa.length:Int) 1 4 true _ KV.out).mono ?_);rintro e w' ⟨rfl,⟨nd,rfl⟩⟩;refine ⟨_,rfl,?_⟩)|(go_at_call 53;(with_reducible refine (qb.calls Ga 0 20 true _ A13.out).mono ?_);rintro e w' ⟨rfl,⟨nd,rfl⟩⟩)|(go_at_call 53;(with_reducible refine (qb.calls Ja 0 6 true _ A_.out).mono ?_);rintro e w' ⟨rfl,⟨nd,rfl⟩⟩)|(go_at_call 53;(with_reducible refine (qb.calls Ia Ga 1000 false _ A19.out).mono ?_);rintro e w' ⟨rfl,⟨nd,rfl⟩⟩))
          go_meet
          case rel=>exact ⟨_,(true),AaH,H',⟨by have:=wg.out;first|omega|exact Nat.le_refl _⟩,⟨zaH⟩,⟨xaH⟩⟩
       ·replace uM:=Bool.eq_false_iff.mpr uM;subst uM;have H1:(mb.j1 k1 true Qa Ja Ga Ia Aa)=some r:=by rw [if_neg (show ¬ (false=true) by decide)] at H;exact H
        clear H;have H:=H1;clear H1;have H':=ga.mk H;clear H;have Ou:wr.cell? ⟨ya,0,none⟩=some (.slice Ya Qa.length Za):=(ia oa.out 0).trans rfl;have Nu:wr.cell? ⟨ya,1,none⟩=some (.int .i64 Ja):=(ia oa.out 1).trans rfl;have Mu:wr.cell? ⟨ya,2,none⟩=some (.int .i64 Ga):=(ia oa.out 2).trans rfl;have Lu:wr.cell? ⟨ya,3,none⟩=some (.int .i64 Ia):=(ia oa.out 3).trans rfl;have Ku:wr.cell? ⟨ya,4,none⟩=some (.slice Mb Aa.length Cb):=(ia oa.out 4).trans rfl;have ju:=aa oa.out 0;have iu:=aa oa.out 1;have gu:=aa oa.out 2;have fu:=aa oa.out 3;have eu:=aa oa.out 4;go_wp2_with (first|((with_reducible refine yb (f:=53) rfl ?_);refine Pc (some 23) rfl rfl Try.func53 (by kernel_rfl) rfl #[.int .i64 (Qa.length:Int),.int .i64 1,.int .i64 4] rfl waH ?_;(with_reducible refine (qb.calls (Qa.length:Int) 1 4 true _ KV.out).mono ?_);rintro e w' ⟨rfl,⟨nd,rfl⟩⟩;refine ⟨_,rfl,?_⟩)|(go_at_call 53;(with_reducible refine (qb.calls Ga 0 20 true _ A13.out).mono ?_);rintro e w' ⟨rfl,⟨nd,rfl⟩⟩)|(go_at_call 53;(with_reducible refine (qb.calls Ja 0 6 false _ A_.out).mono ?_);rintro e w' ⟨rfl,⟨nd,rfl⟩⟩))
        go_meet
        case rel=>exact ⟨_,(true),AaH,H',⟨by have:=wg.out;first|omega|exact Nat.le_refl _⟩,⟨zaH⟩,⟨xaH⟩⟩
      ·replace cL:=Bool.eq_false_iff.mpr cL;subst cL;have H1:(mb.j1 k1 true Qa Ja Ga Ia Aa)=some r:=by rw [if_neg (show ¬ (false=true) by decide)] at H;exact H
       clear H;have H:=H1;clear H1;have H':=ga.mk H;clear H;have gy:wr.cell? ⟨ya,0,none⟩=some (.slice Ya Qa.length Za):=(ia oa.out 0).trans rfl;have fy:wr.cell? ⟨ya,1,none⟩=some (.int .i64 Ja):=(ia oa.out 1).trans rfl;have ey:wr.cell? ⟨ya,2,none⟩=some (.int .i64 Ga):=(ia oa.out 2).trans rfl;have dy:wr.cell? ⟨ya,3,none⟩=some (.int .i64 Ia):=(ia oa.out 3).trans rfl;have Zx:wr.cell? ⟨ya,4,none⟩=some (.slice Mb Aa.length Cb):=(ia oa.out 4).trans rfl;have yx:=aa oa.out 0;have xx:=aa oa.out 1;have ux:=aa oa.out 2;have sx:=aa oa.out 3;have qx:=aa oa.out 4;go_wp2_with (first|((with_reducible refine yb (f:=53) rfl ?_);refine Pc (some 23) rfl rfl Try.func53 (by kernel_rfl) rfl #[.int .i64 (Qa.length:Int),.int .i64 1,.int .i64 4] rfl waH ?_;(with_reducible refine (qb.calls (Qa.length:Int) 1 4 true _ KV.out).mono ?_);rintro e w' ⟨rfl,⟨nd,rfl⟩⟩;refine ⟨_,rfl,?_⟩)|(go_at_call 53;(with_reducible refine (qb.calls Ga 0 20 false _ A13.out).mono ?_);rintro e w' ⟨rfl,⟨nd,rfl⟩⟩))
       go_meet
       case rel=>exact ⟨_,(true),AaH,H',⟨by have:=wg.out;first|omega|exact Nat.le_refl _⟩,⟨zaH⟩,⟨xaH⟩⟩
     ·replace Ss:=Bool.eq_false_iff.mpr Ss;subst Ss;have H1:(mb.j1 k1 true Qa Ja Ga Ia Aa)=some r:=by rw [if_neg (show ¬ (false=true) by decide)] at H;exact H
      clear H;have H:=H1;clear H1;have H':=ga.mk H;clear H;have Yx:wr.cell? ⟨ya,0,none⟩=some (.slice Ya Qa.length Za):=(ia oa.out 0).trans rfl;have Xx:wr.cell? ⟨ya,1,none⟩=some (.int .i64 Ja):=(ia oa.out 1).trans rfl;have Wx:wr.cell? ⟨ya,2,none⟩=some (.int .i64 Ga):=(ia oa.out 2).trans rfl;have Vx:wr.cell? ⟨ya,3,none⟩=some (.int .i64 Ia):=(ia oa.out 3).trans rfl;have Ux:wr.cell? ⟨ya,4,none⟩=some (.slice Mb Aa.length Cb):=(ia oa.out 4).trans rfl;have ox:=aa oa.out 0;have jx:=aa oa.out 1;have gx:=aa oa.out 2;have dx:=aa oa.out 3;have bx:=aa oa.out 4;go_wp2_with (first|((with_reducible refine yb (f:=53) rfl ?_);refine Pc (some 23) rfl rfl Try.func53 (by kernel_rfl) rfl #[.int .i64 (Qa.length:Int),.int .i64 1,.int .i64 4] rfl waH ?_;(with_reducible refine (qb.calls (Qa.length:Int) 1 4 false _ KV.out).mono ?_);rintro e w' ⟨rfl,⟨nd,rfl⟩⟩;refine ⟨_,rfl,?_⟩))
      go_meet
      case rel=>exact ⟨_,(true),AaH,H',⟨by have:=wg.out;first|omega|exact Nat.le_refl _⟩,⟨zaH⟩,⟨xaH⟩⟩
    case rest =>
     clear HC9
     try clear c1
     try clear p1
     try clear q1
     try clear hx1
     try clear c2
     try clear p2
     try clear c3
     try clear Xh
     try clear c4
     try clear jk
     try clear c5
     try clear c6
     try clear p6
     try clear fI
     try clear cI
     try clear MW
     try clear Ss
     try clear cL
     try clear uM
     try clear yt
     try clear Hp
     try clear tr
     try clear Nh
     try clear Mh
     try clear Lh
     try clear Kh
     try clear Jh
     try clear qy
     try clear oy
     try clear ny
     try clear jy
     try clear iy
     try clear Tu
     try clear Su
     try clear Ru
     try clear Qu
     try clear Pu
     try clear Bs
     try clear js
     try clear Zr
     try clear Yr
     try clear Xr
     try clear Ou
     try clear Nu
     try clear Mu
     try clear Lu
     try clear Ku
     try clear gy
     try clear fy
     try clear ey
     try clear dy
     try clear Zx
     try clear Yx
     try clear Xx
     try clear Wx
     try clear Vx
     try clear Ux
     try clear Hu
     try clear Gu
     try clear Fu
     try clear Eu
     try clear Du
     try clear Rn
     try clear Qn
     try clear Pn
     try clear Nn
     try clear Mn
     try clear Ih
     try clear Hh
     try clear Gh
     try clear Fh
     try clear Eh
     try clear Ex
     try clear Dx
     try clear Cx
     try clear Bx
     try clear zx
     try clear ru
     try clear qu
     try clear ou
     try clear nu
     try clear lu
     try clear Qr
     try clear Pr
     try clear Nr
     try clear Mr
     try clear Lr
     try clear ju
     try clear iu
     try clear gu
     try clear fu
     try clear eu
     try clear yx
     try clear xx
     try clear ux
     try clear sx
     try clear qx
     try clear ox
     try clear jx
     try clear gx
     try clear dx
     try clear bx
     try clear Zt
     try clear Yt
     try clear Xt
     try clear Wt
     try clear Vt
     try clear sn
     try clear qn
     try clear pn
     try clear kn
     try clear jn
     try clear Mf
     try clear zj
     try clear p2
     try clear yj
     obtain ⟨kq,pP,rfl,HA,HJ8,oa,HB⟩:=hcut;cases kq with
     | zero=>exact absurd HA.out (by simp [mb.j1])
     | succ kj8 =>
      have H:=HA.out;clear HA;simp only [mb.j1] at H
      by_cases PE:pP=true
      ·subst PE;have H1:(some false)=some r:=by rw [if_pos rfl] at H;exact H
       clear H;have H:=H1;clear H1;obtain rfl:=Option.some.inj H;go_wp2;go_ret;exact ⟨by first|rfl|(simp [Pa,Oa] <;> rfl)|(simp [*,Pa,Oa] <;> rfl),xaH⟩
      ·replace PE:=Bool.eq_false_iff.mpr PE;subst PE;have H1:(mb.l1 kj8 0 0 Qa Ja Ga Ia Aa)=some r:=by rw [if_neg (show ¬ (false=true) by decide)] at H;exact H
       clear H;have H:=H1;clear H1;have H':=ga.mk H;clear H;go_wp2
       go_loopg [4,5] kj8 (fun kq v4 v5 w'=>∃ (SH:Int) (zf:Int),v4 = .int .i64 SH∧v5 = .int .i64 zf∧ga (mb.l1 kq SH zf Qa Ja Ga Ia Aa=some r)∧ga (kq ≤ kj8)∧ga (w'.heap[ya]? = some (.cells #[(.slice Ya Qa.length Za),.int .i64 Ja,.int .i64 Ga,.int .i64 Ia,(.slice Mb Aa.length Cb)] 30 (0,0)))∧ga (Below w.heap.size w w'))
       case atStart=>exact ⟨(0),(0),AaH,AaH,H',⟨Nat.le_refl _⟩,⟨zaH⟩,⟨xaH⟩⟩
       case round =>
        clear H'
        try clear c1
        try clear p1
        try clear q1
        try clear hx1
        try clear c2
        try clear p2
        try clear c3
        try clear Xh
        try clear c4
        try clear jk
        try clear c5
        try clear c6
        try clear p6
        try clear fI
        try clear cI
        try clear MW
        try clear Ss
        try clear cL
        try clear uM
        try clear yt
        try clear Hp
        try clear tr
        try clear PE
        try clear Nh
        try clear Mh
        try clear Lh
        try clear Kh
        try clear Jh
        try clear qy
        try clear oy
        try clear ny
        try clear jy
        try clear iy
        try clear Tu
        try clear Su
        try clear Ru
        try clear Qu
        try clear Pu
        try clear Bs
        try clear js
        try clear Zr
        try clear Yr
        try clear Xr
        try clear Ou
        try clear Nu
        try clear Mu
        try clear Lu
        try clear Ku
        try clear gy
        try clear fy
        try clear ey
        try clear dy
        try clear Zx
        try clear Yx
        try clear Xx
        try clear Wx
        try clear Vx
        try clear Ux
        try clear Hu
        try clear Gu
        try clear Fu
        try clear Eu
        try clear Du
        try clear Rn
        try clear Qn
        try clear Pn
        try clear Nn
        try clear Mn
        try clear Ih
        try clear Hh
        try clear Gh
        try clear Fh
        try clear Eh
        try clear Ex
        try clear Dx
        try clear Cx
        try clear Bx
        try clear zx
        try clear ru
        try clear qu
        try clear ou
        try clear nu
        try clear lu
        try clear Qr
        try clear Pr
        try clear Nr
        try clear Mr
        try clear Lr
        try clear ju
        try clear iu
        try clear gu
        try clear fu
        try clear eu
        try clear yx
        try clear xx
        try clear ux
        try clear sx
        try clear qx
        try clear ox
        try clear jx
        try clear gx
        try clear dx
        try clear bx
        try clear Zt
        try clear Yt
        try clear Xt
        try clear Wt
        try clear Vt
        try clear sn
        try clear qn
        try clear pn
        try clear kn
        try clear jn
        try clear Mf
        try clear p1
        try clear fI
        try clear zj
        try clear p2
        try clear p6
        try clear q1
        try clear cI
        try clear yj
        (try clear HA);(try clear Aq);(try clear oa);(try clear HB);obtain ⟨SH,zf,rfl,rfl,HA,Aq,oa,HB⟩:=hrel;cases gk with
        | zero=>exact absurd HA.out (by simp [mb.l1])
        | succ k3 =>
         have H:=HA.out;clear HA;simp only [mb.l1] at H
         by_cases dN:zf < (Aa.length:Int)
         ·rw [if_pos dN] at H;have X8:decide (zf < (Aa.length:Int))=true:=decide_eq_true dN;clear dN
          by_cases bL:0 ≤ zf
          ·rw [if_pos bL] at H;have tD:decide (0 ≤ zf)=true:=decide_eq_true bL;clear bL
           by_cases ZK:(wrap64 (SH + (((za Aa zf).f0).length:Int))) > 1000
           ·rw [if_pos ZK] at H;have yT:decide (1000 < (wrap64 (SH + (((za Aa zf).f0).length:Int))))=true:=decide_eq_true ZK;clear ZK;obtain rfl:=Option.some.inj H;have nB:wr.cell? ⟨ya,0,none⟩=some (.slice Ya Qa.length Za):=(ia oa.out 0).trans rfl;have mB:wr.cell? ⟨ya,1,none⟩=some (.int .i64 Ja):=(ia oa.out 1).trans rfl;have lB:wr.cell? ⟨ya,2,none⟩=some (.int .i64 Ga):=(ia oa.out 2).trans rfl;have kB:wr.cell? ⟨ya,3,none⟩=some (.int .i64 Ia):=(ia oa.out 3).trans rfl;have jB:wr.cell? ⟨ya,4,none⟩=some (.slice Mb Aa.length Cb):=(ia oa.out 4).trans rfl;have YA:=aa oa.out 0;have XA:=aa oa.out 1;have WA:=aa oa.out 2;have VA:=aa oa.out 3;have UA:=aa oa.out 4;have Ot:0 ≤ (zf:Int):=Ua;have Nt:zf < (Aa.length:Int):=Ua;obtain ⟨jh,jo,Yn,rK,Kk,Jk,Ik,Gk,Fk,Nk,Ok⟩:=sj xg.out zf Ot Nt;cases rK;replace Kk:=Sa HB.out Kk;replace Jk:=Sa HB.out Jk;replace Ik:=Sa HB.out Ik;replace Gk:=Sa HB.out Gk;replace Fk:=Sa HB.out Fk;have WE:=ga.mk Ok;have XE:=ga.mk Nk;clear Ok Nk;replace Ot:=eq_true Ot;replace Nt:=eq_true Nt
            try go_wp2
            have Eb:=ga.mk (Fa oa.out);have Fb:=ga.mk (ta HB.out);clear oa HB;have oa:=Eb;have HB:=Fb;clear Eb Fb;refine uo (n:=12) (S:=fun w'=>True) (ds:=[]) #[false,false,false,false,false,false,false,false,false,false,false,false] (by kernel_rfl) rfl rfl trivial (fun hHeld=>?_);refine qk mb.WV mb.MO (fun Lg Gy=>?_);generalize wr.drew=XM at oa HB hHeld ⊢;refine Od (i:=0) (N:=some 75) (v:=?_) (a':=?_) #[true,false,false,false,false,false,false,false,false,false,false,false] rfl rfl (qd Lg.out (by kernel_rfl)) (fun _ _ _ h=>h) (Or.inl ⟨by rfl,?_⟩) ?_ ?_;rotate_left
            ·intro w';go_simp;with_reducible rfl
            rotate_left
            ·simp only [Act.put,List.setIfInBounds_toArray,List.set_cons_zero,List.set_cons_succ,nc,oc]
             rfl
            refine Od (i:=1) (N:=some 76) (v:=?_) (a':=?_) #[true,true,false,false,false,false,false,false,false,false,false,false] rfl rfl (qd Lg.out (by kernel_rfl)) (fun _ _ _ h=>h) (Or.inl ⟨by rfl,?_⟩) ?_ ?_;rotate_left
            ·intro w';go_simp;with_reducible rfl
            rotate_left
            ·simp only [Act.put,List.setIfInBounds_toArray,List.set_cons_zero,List.set_cons_succ,nc,oc]
             rfl
            refine Od (i:=2) (N:=some 77) (v:=?_) (a':=?_) #[true,true,true,false,false,false,false,false,false,false,false,false] rfl rfl (qd Lg.out (by kernel_rfl)) (fun _ _ _ h=>h) (Or.inl ⟨by rfl,?_⟩) ?_ ?_;rotate_left
            ·intro w';go_simp;with_reducible rfl
            rotate_left
            ·simp only [Act.put,List.setIfInBounds_toArray,List.set_cons_zero,List.set_cons_succ,nc,oc]
             rfl
            refine Od (i:=3) (N:=some 78) (v:=undef) (a':=?_) #[true,true,true,true,false,false,false,false,false,false,false,false] rfl rfl (qd Lg.out (by kernel_rfl)) (fun _ _ _ h=>h) (Or.inr ⟨by rfl,rfl⟩) ?_ ?_;rotate_left
            ·simp only [Act.put,List.setIfInBounds_toArray,List.set_cons_zero,List.set_cons_succ,nc,oc]
             rfl
            refine Od (i:=4) (N:=some 79) (v:=undef) (a':=?_) #[true,true,true,true,true,false,false,false,false,false,false,false] rfl rfl (qd Lg.out (by kernel_rfl)) (fun _ _ _ h=>h) (Or.inr ⟨by rfl,rfl⟩) ?_ ?_;rotate_left
            ·simp only [Act.put,List.setIfInBounds_toArray,List.set_cons_zero,List.set_cons_succ,nc,oc]
             rfl
            refine Od (i:=5) (N:=some 80) (v:=undef) (a':=?_) #[true,true,true,true,true,true,false,false,false,false,false,false] rfl rfl (qd Lg.out (by kernel_rfl)) (fun _ _ _ h=>h) (Or.inr ⟨by rfl,rfl⟩) ?_ ?_;rotate_left
            ·simp only [Act.put,List.setIfInBounds_toArray,List.set_cons_zero,List.set_cons_succ,nc,oc]
             rfl
            refine Od (i:=6) (N:=some 81) (v:=undef) (a':=?_) #[true,true,true,true,true,true,true,false,false,false,false,false] rfl rfl (qd Lg.out (by kernel_rfl)) (fun _ _ _ h=>h) (Or.inr ⟨by rfl,rfl⟩) ?_ ?_;rotate_left
            ·simp only [Act.put,List.setIfInBounds_toArray,List.set_cons_zero,List.set_cons_succ,nc,oc]
             rfl
            refine Od (i:=7) (N:=some 82) (v:=undef) (a':=?_) #[true,true,true,true,true,true,true,true,false,false,false,false] rfl rfl (qd Lg.out (by kernel_rfl)) (fun _ _ _ h=>h) (Or.inr ⟨by rfl,rfl⟩) ?_ ?_;rotate_left
            ·simp only [Act.put,List.setIfInBounds_toArray,List.set_cons_zero,List.set_cons_succ,nc,oc]
             rfl
            refine Od (i:=8) (N:=some 83) (v:=undef) (a':=?_) #[true,true,true,true,true,true,true,true,true,false,false,false] rfl rfl (qd Lg.out (by kernel_rfl)) (fun _ _ _ h=>h) (Or.inr ⟨by rfl,rfl⟩) ?_ ?_;rotate_left
            ·simp only [Act.put,List.setIfInBounds_toArray,List.set_cons_zero,List.set_cons_succ,nc,oc]
             rfl
            refine Od (i:=9) (N:=some 84) (v:=undef) (a':=?_) #[true,true,true,true,true,true,true,true,true,true,false,false] rfl rfl (qd Lg.out (by kernel_rfl)) (fun _ _ _ h=>h) (Or.inr ⟨by rfl,rfl⟩) ?_ ?_;rotate_left
            ·simp only [Act.put,List.setIfInBounds_toArray,List.set_cons_zero,List.set_cons_succ,nc,oc]
             rfl
            refine Od (i:=10) (N:=some 85) (v:=undef) (a':=?_) #[true,true,true,true,true,true,true,true,true,true,true,false] rfl rfl (qd Lg.out (by kernel_rfl)) (fun _ _ _ h=>h) (Or.inr ⟨by rfl,rfl⟩) ?_ ?_;rotate_left
            ·simp only [Act.put,List.setIfInBounds_toArray,List.set_cons_zero,List.set_cons_succ,nc,oc]
             rfl
            refine Od (i:=11) (N:=some 86) (v:=?_) (a':=?_) #[true,true,true,true,true,true,true,true,true,true,true,true] rfl rfl (qd Lg.out (by kernel_rfl)) (fun _ _ _ h=>h) (Or.inl ⟨by rfl,?_⟩) ?_ ?_;rotate_left
            ·intro w';go_simp;with_reducible rfl
            rotate_left
            ·simp only [Act.put,List.setIfInBounds_toArray,List.set_cons_zero,List.set_cons_succ,nc,oc]
             rfl
            refine ot (Ro Lg.out (by kernel_rfl)) ?_
            try go_wp2
            go_ret;exact ⟨by first|rfl|(simp [Pa,Oa] <;> rfl)|(simp [*,Pa,Oa] <;> rfl),xaH⟩
           ·rw [if_neg ZK] at H;have yT:decide (1000 < (wrap64 (SH + (((za Aa zf).f0).length:Int))))=false:=decide_eq_false ZK;clear ZK;replace H:=Option.bind_eq_some_iff.mp H;obtain ⟨t111,rZ,H⟩:=H;replace H:(if t111=true then (mb.l1 k3 (wrap64 (SH + (((za Aa zf).f0).length:Int))) (wrap64 (zf + 1)) Qa Ja Ga Ia Aa) else (some false))=some r:=H;have A33:=ga.mk rZ;clear rZ
            by_cases Iz:t111=true
            ·subst Iz;have H1:(mb.l1 k3 (wrap64 (SH + (((za Aa zf).f0).length:Int))) (wrap64 (zf + 1)) Qa Ja Ga Ia Aa)=some r:=by rw [if_pos rfl] at H;exact H
             clear H;have H:=H1;clear H1;have H':=ga.mk H;clear H;have LS:wr.cell? ⟨ya,0,none⟩=some (.slice Ya Qa.length Za):=(ia oa.out 0).trans rfl;have KS:wr.cell? ⟨ya,1,none⟩=some (.int .i64 Ja):=(ia oa.out 1).trans rfl;have JS:wr.cell? ⟨ya,2,none⟩=some (.int .i64 Ga):=(ia oa.out 2).trans rfl;have GS:wr.cell? ⟨ya,3,none⟩=some (.int .i64 Ia):=(ia oa.out 3).trans rfl;have ES:wr.cell? ⟨ya,4,none⟩=some (.slice Mb Aa.length Cb):=(ia oa.out 4).trans rfl;have qR:=aa oa.out 0;have pR:=aa oa.out 1;have oR:=aa oa.out 2;have nR:=aa oa.out 3;have mR:=aa oa.out 4;have Ot:0 ≤ (zf:Int):=Ua;have Nt:zf < (Aa.length:Int):=Ua;obtain ⟨jh,jo,Yn,rK,Kk,Jk,Ik,Gk,Fk,Nk,Ok⟩:=sj xg.out zf Ot Nt;cases rK;replace Kk:=Sa HB.out Kk;replace Jk:=Sa HB.out Jk;replace Ik:=Sa HB.out Ik;replace Gk:=Sa HB.out Gk;replace Fk:=Sa HB.out Fk;have WE:=ga.mk Ok;have XE:=ga.mk Nk;clear Ok Nk;replace Ot:=eq_true Ot;replace Nt:=eq_true Nt
             try go_wp2
             have Eb:=ga.mk (Fa oa.out);have Fb:=ga.mk (ta HB.out);clear oa HB;have oa:=Eb;have HB:=Fb;clear Eb Fb;have zN:0 ≤ (zf:Int):=Ua;have wN:zf < (Aa.length:Int):=Ua;obtain ⟨AY,yG,eG,vab,Sp,Rp,Qp,Pp,Np,PA,SA⟩:=sj xg.out zf zN wN;have rA:=Np;have sA:=Pp;have tA:=Qp;have uA:=Rp;have vA:=Sp;obtain rfl:jh=AY:=(by injection vab);replace Sp:=Sa HB.out Sp;replace Rp:=Sa HB.out Rp;replace Qp:=Sa HB.out Qp;replace Pp:=Sa HB.out Pp;replace Np:=Sa HB.out Np;have KB:=ga.mk SA;have LK:=ga.mk PA;clear SA PA;replace zN:=eq_true zN;replace wN:=eq_true wN;refine uo (n:=12) (S:=fun w'=>w'.cell? ⟨ya,0,none⟩=some (.slice Ya Qa.length Za)∧w'.cell? ⟨ya,1,none⟩=some (.int .i64 Ja)∧w'.cell? ⟨ya,2,none⟩=some (.int .i64 Ga)∧w'.cell? ⟨ya,3,none⟩=some (.int .i64 Ia)∧w'.cell? ⟨ya,4,none⟩=some (.slice (some jh) Aa.length Cb)∧w'.cell? (jh.add ((zf).toNat * 5))=some (.slice yG ((za Aa zf).f0).length eG)∧w'.cell? ⟨(jh.add ((zf).toNat * 5)).block,(jh.add ((zf).toNat * 5)).off + 1,none⟩=some (.int .i64 ((za Aa zf).f1))∧w'.cell? ⟨(jh.add ((zf).toNat * 5)).block,(jh.add ((zf).toNat * 5)).off + 2,none⟩=some (.int .i64 ((za Aa zf).f2))∧w'.cell? ⟨(jh.add ((zf).toNat * 5)).block,(jh.add ((zf).toNat * 5)).off + 3,none⟩=some (.int .i64 ((za Aa zf).f3))∧w'.cell? ⟨(jh.add ((zf).toNat * 5)).block,(jh.add ((zf).toNat * 5)).off + 4,none⟩=some (.int .i64 ((za Aa zf).f4))) (ds:=[]) #[false,false,false,false,false,false,false,false,false,false,false,false] (by kernel_rfl) rfl rfl ⟨(ia oa.out 0).trans rfl,(ia oa.out 1).trans rfl,(ia oa.out 2).trans rfl,(ia oa.out 3).trans rfl,(ia oa.out 4).trans rfl,(Sa HB.out vA),(Sa HB.out uA),(Sa HB.out tA),(Sa HB.out sA),(Sa HB.out rA)⟩ (fun hHeld=>?_);refine qk mb.WV mb.MO (fun Lg Gy=>?_);generalize wr.drew=eF at oa HB KB Sp Rp Qp Pp Np hHeld ⊢;refine Od (i:=0) (N:=some 75) (v:=?_) (a':=?_) #[true,false,false,false,false,false,false,false,false,false,false,false] rfl rfl (qd Lg.out (by kernel_rfl)) (fun _ _ _ h=>h) (Or.inl ⟨by rfl,?_⟩) ?_ ?_;rotate_left
             ·intro w';go_simp;with_reducible rfl
             rotate_left
             ·simp only [Act.put,List.setIfInBounds_toArray,List.set_cons_zero,List.set_cons_succ,nc,oc]
              rfl
             refine Od (i:=1) (N:=some 76) (v:=?_) (a':=?_) #[true,true,false,false,false,false,false,false,false,false,false,false] rfl rfl (qd Lg.out (by kernel_rfl)) (fun _ _ _ h=>h) (Or.inl ⟨by rfl,?_⟩) ?_ ?_;rotate_left
             ·intro w';go_simp;with_reducible rfl
             rotate_left
             ·simp only [Act.put,List.setIfInBounds_toArray,List.set_cons_zero,List.set_cons_succ,nc,oc]
              rfl
             refine Od (i:=2) (N:=some 77) (v:=?_) (a':=?_) #[true,true,true,false,false,false,false,false,false,false,false,false] rfl rfl (qd Lg.out (by kernel_rfl)) (fun _ _ _ h=>h) (Or.inl ⟨by rfl,?_⟩) ?_ ?_;rotate_left
             ·intro w';go_simp;with_reducible rfl
             rotate_left
             ·simp only [Act.put,List.setIfInBounds_toArray,List.set_cons_zero,List.set_cons_succ,nc,oc]
              rfl
             refine Od (i:=4) (N:=some 79) (v:=?_) (a':=?_) #[true,true,true,false,true,false,false,false,false,false,false,false] rfl rfl (qd Lg.out (by kernel_rfl)) (fun _ _ _ h=>h) (Or.inl ⟨by rfl,?_⟩) ?_ ?_;rotate_left
             ·intro w';go_simp;with_reducible rfl
             rotate_left
             ·simp only [Act.put,List.setIfInBounds_toArray,List.set_cons_zero,List.set_cons_succ,nc,oc]
              rfl
             refine Od (i:=6) (N:=some 81) (v:=?_) (a':=?_) #[true,true,true,false,true,false,true,false,false,false,false,false] rfl rfl (qd Lg.out (by kernel_rfl)) (fun _ _ _ h=>h) (Or.inl ⟨by rfl,?_⟩) ?_ ?_;rotate_left
             ·intro w';go_simp;with_reducible rfl
             rotate_left
             ·simp only [Act.put,List.setIfInBounds_toArray,List.set_cons_zero,List.set_cons_succ,nc,oc]
              rfl
             refine Qh (i:=3) (N:=some 78) (v:=?_) (a':=?_) #[true,true,true,true,true,false,true,false,false,false,false,false] rfl rfl (Uf Lg.out Gy.out (by kernel_rfl)) (fun _ _ _ h=>h) (Or.inl ⟨by rfl,?_⟩) hHeld ?_ ?_;rotate_left
             ·rintro w' ⟨s0,s1,s2,s3,s4,s5,s6,s7,s8,s9⟩;go_simp;with_reducible rfl
             rotate_left
             ·simp only [Act.put,List.setIfInBounds_toArray,List.set_cons_zero,List.set_cons_succ,nc,oc]
              rfl
             refine Qh (i:=5) (N:=some 80) (v:=?_) (a':=?_) #[true,true,true,true,true,true,true,false,false,false,false,false] rfl rfl (Uf Lg.out Gy.out (by kernel_rfl)) (fun _ _ _ h=>h) (Or.inl ⟨by rfl,?_⟩) hHeld ?_ ?_;rotate_left
             ·rintro w' ⟨s0,s1,s2,s3,s4,s5,s6,s7,s8,s9⟩;go_simp;with_reducible rfl
             rotate_left
             ·simp only [Act.put,List.setIfInBounds_toArray,List.set_cons_zero,List.set_cons_succ,nc,oc]
              rfl
             refine Od (i:=7) (N:=some 82) (v:=?_) (a':=?_) #[true,true,true,true,true,true,true,true,false,false,false,false] rfl rfl (qd Lg.out (by kernel_rfl)) (fun _ _ _ h=>h) (Or.inl ⟨by rfl,?_⟩) ?_ ?_;rotate_left
             ·intro w';go_simp;with_reducible rfl
             rotate_left
             ·simp only [Act.put,List.setIfInBounds_toArray,List.set_cons_zero,List.set_cons_succ,nc,oc]
              rfl
             refine Qh (i:=8) (N:=some 83) (v:=?_) (a':=?_) #[true,true,true,true,true,true,true,true,true,false,false,false] rfl rfl (Uf Lg.out Gy.out (by kernel_rfl)) (fun _ _ _ h=>h) (Or.inl ⟨by rfl,?_⟩) hHeld ?_ ?_;rotate_left
             ·rintro w' ⟨s0,s1,s2,s3,s4,s5,s6,s7,s8,s9⟩;go_simp;with_reducible rfl
             rotate_left
             ·simp only [Act.put,List.setIfInBounds_toArray,List.set_cons_zero,List.set_cons_succ,nc,oc]
              rfl
             refine rz (i:=9) (N:=some 84) #[true,true,true,true,true,true,true,true,true,true,false,false] rfl rfl (Qt Lg.out (by kernel_rfl)) (by decide) (fun K hK=>?_);refine Hv Try.func71 (by kernel_rfl) rfl #[.agg #[.slice Ya Qa.length Za,.int .i64 Ja,.int .i64 Ga,.int .i64 Ia,.slice (some jh) Aa.length Cb],.agg #[.slice yG ((za Aa zf).f0).length eG,.int .i64 ((za Aa zf).f1),.int .i64 ((za Aa zf).f2),.int .i64 ((za Aa zf).f3),.int .i64 ((za Aa zf).f4)]] (by rfl) rfl rfl waH ?_;with_reducible refine (uc.calls k3 _ _ Qa Ja Ga Ia _ _ Aa _ _ ((za Aa zf).f0) ((za Aa zf).f1) ((za Aa zf).f2) ((za Aa zf).f3) ((za Aa zf).f4) true _ ?Uc ?Tc ?we ?ue ?Vz ?Uz A33.out).mono ?_
             (case Uc=>repeat (first|exact (Kd.Nb Ze.out HB.out)|(with_reducible refine Kd.dc ?_ _)|(with_reducible refine Kd.Zb ?_ _)|(with_reducible refine Kd.Fc ?_)))
             (case Tc=>exact Af.out)
             (case we=>repeat (first|exact (Kd.Nb xg.out HB.out)|(with_reducible refine Kd.dc ?_ _)|(with_reducible refine Kd.Zb ?_ _)|(with_reducible refine Kd.Fc ?_)))
             (case ue=>exact ki.out)
             (case Vz=>repeat (first|exact (Kd.Nb KB.out HB.out)|(with_reducible refine Kd.dc ?_ _)|(with_reducible refine Kd.Zb ?_ _)|(with_reducible refine Kd.Fc ?_)))
             (case Uz=>exact LK.out)
             rintro e VZ ⟨rfl,hb⟩;refine ⟨_,rfl,?_⟩;have Eb:=ga.mk (Va (g:=ya) (o:=.cells #[.slice Ya Qa.length Za,.int .i64 Ja,.int .i64 Ga,.int .i64 Ia,.slice (some jh) Aa.length Cb] 30 (0,0)) vaH hb);have Fb:=ga.mk (Ra taH hb);clear oa HB;have oa:=Eb;have HB:=Fb;clear Eb Fb;(try clear hb);(try clear Uj);(try clear hk);(try clear hi);refine hK.out _ _ ⟨(ia oa.out 0).trans rfl,(ia oa.out 1).trans rfl,(ia oa.out 2).trans rfl,(ia oa.out 3).trans rfl,(ia oa.out 4).trans rfl,(Sa HB.out vA),(Sa HB.out uA),(Sa HB.out tA),(Sa HB.out sA),(Sa HB.out rA)⟩ (fun hHeld=>?_);clear hK K;refine Dq (a':=?_) ?_ ?_;rotate_left
             ·show Act.put _ (some 84) _=_
              simp only [Act.put,List.setIfInBounds_toArray,List.set_cons_zero,List.set_cons_succ,nc,oc]
              rfl
             refine Od (i:=10) (N:=some 85) (v:=?_) (a':=?_) #[true,true,true,true,true,true,true,true,true,true,true,false] rfl rfl (qd Lg.out (by kernel_rfl)) (fun _ _ _ h=>h) (Or.inl ⟨by rfl,?_⟩) ?_ ?_;rotate_left
             ·intro w';go_simp;with_reducible rfl
             rotate_left
             ·simp only [Act.put,List.setIfInBounds_toArray,List.set_cons_zero,List.set_cons_succ,nc,oc]
              rfl
             refine Od (i:=11) (N:=some 86) (v:=?_) (a':=?_) #[true,true,true,true,true,true,true,true,true,true,true,true] rfl rfl (qd Lg.out (by kernel_rfl)) (fun _ _ _ h=>h) (Or.inl ⟨by rfl,?_⟩) ?_ ?_;rotate_left
             ·intro w';go_simp;with_reducible rfl
             rotate_left
             ·simp only [Act.put,List.setIfInBounds_toArray,List.set_cons_zero,List.set_cons_succ,nc,oc]
              rfl
             refine ot (Ro Lg.out (by kernel_rfl)) ?_
             try go_wp2
             go_roundg k3
             case measure=>have:=wg.out;have:=HJ8.out;have:=Aq.out;omega
             case rel=>exact ⟨(wrap64 (SH + (((za Aa zf).f0).length:Int))),(wrap64 (zf + 1)),AaH,AaH,H',⟨by have:=wg.out;have:=HJ8.out;have:=Aq.out;omega⟩,⟨zaH⟩,⟨xaH⟩⟩
            ·replace Iz:=Bool.eq_false_iff.mpr Iz;subst Iz;have H1:(some false)=some r:=by rw [if_neg (show ¬ (false=true) by decide)] at H;exact H
             clear H;have H:=H1;clear H1;obtain rfl:=Option.some.inj H;have XJ:wr.cell? ⟨ya,0,none⟩=some (.slice Ya Qa.length Za):=(ia oa.out 0).trans rfl;have WJ:wr.cell? ⟨ya,1,none⟩=some (.int .i64 Ja):=(ia oa.out 1).trans rfl;have VJ:wr.cell? ⟨ya,2,none⟩=some (.int .i64 Ga):=(ia oa.out 2).trans rfl;have UJ:wr.cell? ⟨ya,3,none⟩=some (.int .i64 Ia):=(ia oa.out 3).trans rfl;have TJ:wr.cell? ⟨ya,4,none⟩=some (.slice Mb Aa.length Cb):=(ia oa.out 4).trans rfl;have hJ:=aa oa.out 0;have gJ:=aa oa.out 1;have fJ:=aa oa.out 2;have eJ:=aa oa.out 3;have dJ:=aa oa.out 4;have Ot:0 ≤ (zf:Int):=Ua;have Nt:zf < (Aa.length:Int):=Ua;obtain ⟨jh,jo,Yn,rK,Kk,Jk,Ik,Gk,Fk,Nk,Ok⟩:=sj xg.out zf Ot Nt;cases rK;replace Kk:=Sa HB.out Kk;replace Jk:=Sa HB.out Jk;replace Ik:=Sa HB.out Ik;replace Gk:=Sa HB.out Gk;replace Fk:=Sa HB.out Fk;have WE:=ga.mk Ok;have XE:=ga.mk Nk;clear Ok Nk;replace Ot:=eq_true Ot;replace Nt:=eq_true Nt
             try go_wp2
             have Eb:=ga.mk (Fa oa.out);have Fb:=ga.mk (ta HB.out);clear oa HB;have oa:=Eb;have HB:=Fb;clear Eb Fb;have zN:0 ≤ (zf:Int):=Ua;have wN:zf < (Aa.length:Int):=Ua;obtain ⟨AY,yG,eG,vab,Sp,Rp,Qp,Pp,Np,PA,SA⟩:=sj xg.out zf zN wN;have rA:=Np;have sA:=Pp;have tA:=Qp;have uA:=Rp;have vA:=Sp;obtain rfl:jh=AY:=(by injection vab);replace Sp:=Sa HB.out Sp;replace Rp:=Sa HB.out Rp;replace Qp:=Sa HB.out Qp;replace Pp:=Sa HB.out Pp;replace Np:=Sa HB.out Np;have KB:=ga.mk SA;have LK:=ga.mk PA;clear SA PA;replace zN:=eq_true zN;replace wN:=eq_true wN;refine uo (n:=12) (S:=fun w'=>w'.cell? ⟨ya,0,none⟩=some (.slice Ya Qa.length Za)∧w'.cell? ⟨ya,1,none⟩=some (.int .i64 Ja)∧w'.cell? ⟨ya,2,none⟩=some (.int .i64 Ga)∧w'.cell? ⟨ya,3,none⟩=some (.int .i64 Ia)∧w'.cell? ⟨ya,4,none⟩=some (.slice (some jh) Aa.length Cb)∧w'.cell? (jh.add ((zf).toNat * 5))=some (.slice yG ((za Aa zf).f0).length eG)∧w'.cell? ⟨(jh.add ((zf).toNat * 5)).block,(jh.add ((zf).toNat * 5)).off + 1,none⟩=some (.int .i64 ((za Aa zf).f1))∧w'.cell? ⟨(jh.add ((zf).toNat * 5)).block,(jh.add ((zf).toNat * 5)).off + 2,none⟩=some (.int .i64 ((za Aa zf).f2))∧w'.cell? ⟨(jh.add ((zf).toNat * 5)).block,(jh.add ((zf).toNat * 5)).off + 3,none⟩=some (.int .i64 ((za Aa zf).f3))∧w'.cell? ⟨(jh.add ((zf).toNat * 5)).block,(jh.add ((zf).toNat * 5)).off + 4,none⟩=some (.int .i64 ((za Aa zf).f4))) (ds:=[]) #[false,false,false,false,false,false,false,false,false,false,false,false] (by kernel_rfl) rfl rfl ⟨(ia oa.out 0).trans rfl,(ia oa.out 1).trans rfl,(ia oa.out 2).trans rfl,(ia oa.out 3).trans rfl,(ia oa.out 4).trans rfl,(Sa HB.out vA),(Sa HB.out uA),(Sa HB.out tA),(Sa HB.out sA),(Sa HB.out rA)⟩ (fun hHeld=>?_);refine qk mb.WV mb.MO (fun Lg Gy=>?_);generalize wr.drew=w39 at oa HB KB Sp Rp Qp Pp Np hHeld ⊢;refine Od (i:=0) (N:=some 75) (v:=?_) (a':=?_) #[true,false,false,false,false,false,false,false,false,false,false,false] rfl rfl (qd Lg.out (by kernel_rfl)) (fun _ _ _ h=>h) (Or.inl ⟨by rfl,?_⟩) ?_ ?_;rotate_left
             ·intro w';go_simp;with_reducible rfl
             rotate_left
             ·simp only [Act.put,List.setIfInBounds_toArray,List.set_cons_zero,List.set_cons_succ,nc,oc]
              rfl
             refine Od (i:=1) (N:=some 76) (v:=?_) (a':=?_) #[true,true,false,false,false,false,false,false,false,false,false,false] rfl rfl (qd Lg.out (by kernel_rfl)) (fun _ _ _ h=>h) (Or.inl ⟨by rfl,?_⟩) ?_ ?_;rotate_left
             ·intro w';go_simp;with_reducible rfl
             rotate_left
             ·simp only [Act.put,List.setIfInBounds_toArray,List.set_cons_zero,List.set_cons_succ,nc,oc]
              rfl
             refine Od (i:=2) (N:=some 77) (v:=?_) (a':=?_) #[true,true,true,false,false,false,false,false,false,false,false,false] rfl rfl (qd Lg.out (by kernel_rfl)) (fun _ _ _ h=>h) (Or.inl ⟨by rfl,?_⟩) ?_ ?_;rotate_left
             ·intro w';go_simp;with_reducible rfl
             rotate_left
             ·simp only [Act.put,List.setIfInBounds_toArray,List.set_cons_zero,List.set_cons_succ,nc,oc]
              rfl
             refine Od (i:=4) (N:=some 79) (v:=?_) (a':=?_) #[true,true,true,false,true,false,false,false,false,false,false,false] rfl rfl (qd Lg.out (by kernel_rfl)) (fun _ _ _ h=>h) (Or.inl ⟨by rfl,?_⟩) ?_ ?_;rotate_left
             ·intro w';go_simp;with_reducible rfl
             rotate_left
             ·simp only [Act.put,List.setIfInBounds_toArray,List.set_cons_zero,List.set_cons_succ,nc,oc]
              rfl
             refine Od (i:=6) (N:=some 81) (v:=?_) (a':=?_) #[true,true,true,false,true,false,true,false,false,false,false,false] rfl rfl (qd Lg.out (by kernel_rfl)) (fun _ _ _ h=>h) (Or.inl ⟨by rfl,?_⟩) ?_ ?_;rotate_left
             ·intro w';go_simp;with_reducible rfl
             rotate_left
             ·simp only [Act.put,List.setIfInBounds_toArray,List.set_cons_zero,List.set_cons_succ,nc,oc]
              rfl
             refine Qh (i:=3) (N:=some 78) (v:=?_) (a':=?_) #[true,true,true,true,true,false,true,false,false,false,false,false] rfl rfl (Uf Lg.out Gy.out (by kernel_rfl)) (fun _ _ _ h=>h) (Or.inl ⟨by rfl,?_⟩) hHeld ?_ ?_;rotate_left
             ·rintro w' ⟨s0,s1,s2,s3,s4,s5,s6,s7,s8,s9⟩;go_simp;with_reducible rfl
             rotate_left
             ·simp only [Act.put,List.setIfInBounds_toArray,List.set_cons_zero,List.set_cons_succ,nc,oc]
              rfl
             refine Qh (i:=5) (N:=some 80) (v:=?_) (a':=?_) #[true,true,true,true,true,true,true,false,false,false,false,false] rfl rfl (Uf Lg.out Gy.out (by kernel_rfl)) (fun _ _ _ h=>h) (Or.inl ⟨by rfl,?_⟩) hHeld ?_ ?_;rotate_left
             ·rintro w' ⟨s0,s1,s2,s3,s4,s5,s6,s7,s8,s9⟩;go_simp;with_reducible rfl
             rotate_left
             ·simp only [Act.put,List.setIfInBounds_toArray,List.set_cons_zero,List.set_cons_succ,nc,oc]
              rfl
             refine Od (i:=7) (N:=some 82) (v:=?_) (a':=?_) #[true,true,true,true,true,true,true,true,false,false,false,false] rfl rfl (qd Lg.out (by kernel_rfl)) (fun _ _ _ h=>h) (Or.inl ⟨by rfl,?_⟩) ?_ ?_;rotate_left
             ·intro w';go_simp;with_reducible rfl
             rotate_left
             ·simp only [Act.put,List.setIfInBounds_toArray,List.set_cons_zero,List.set_cons_succ,nc,oc]
              rfl
             refine Qh (i:=8) (N:=some 83) (v:=?_) (a':=?_) #[true,true,true,true,true,true,true,true,true,false,false,false] rfl rfl (Uf Lg.out Gy.out (by kernel_rfl)) (fun _ _ _ h=>h) (Or.inl ⟨by rfl,?_⟩) hHeld ?_ ?_;rotate_left
             ·rintro w' ⟨s0,s1,s2,s3,s4,s5,s6,s7,s8,s9⟩;go_simp;with_reducible rfl
             rotate_left
             ·simp only [Act.put,List.setIfInBounds_toArray,List.set_cons_zero,List.set_cons_succ,nc,oc]
              rfl
             refine rz (i:=9) (N:=some 84) #[true,true,true,true,true,true,true,true,true,true,false,false] rfl rfl (Qt Lg.out (by kernel_rfl)) (by decide) (fun K hK=>?_);refine Hv Try.func71 (by kernel_rfl) rfl #[.agg #[.slice Ya Qa.length Za,.int .i64 Ja,.int .i64 Ga,.int .i64 Ia,.slice (some jh) Aa.length Cb],.agg #[.slice yG ((za Aa zf).f0).length eG,.int .i64 ((za Aa zf).f1),.int .i64 ((za Aa zf).f2),.int .i64 ((za Aa zf).f3),.int .i64 ((za Aa zf).f4)]] (by rfl) rfl rfl waH ?_;with_reducible refine (uc.calls k3 _ _ Qa Ja Ga Ia _ _ Aa _ _ ((za Aa zf).f0) ((za Aa zf).f1) ((za Aa zf).f2) ((za Aa zf).f3) ((za Aa zf).f4) false _ ?Uc ?Tc ?we ?ue ?Vz ?Uz A33.out).mono ?_
             (case Uc=>repeat (first|exact (Kd.Nb Ze.out HB.out)|(with_reducible refine Kd.dc ?_ _)|(with_reducible refine Kd.Zb ?_ _)|(with_reducible refine Kd.Fc ?_)))
             (case Tc=>exact Af.out)
             (case we=>repeat (first|exact (Kd.Nb xg.out HB.out)|(with_reducible refine Kd.dc ?_ _)|(with_reducible refine Kd.Zb ?_ _)|(with_reducible refine Kd.Fc ?_)))
             (case ue=>exact ki.out)
             (case Vz=>repeat (first|exact (Kd.Nb KB.out HB.out)|(with_reducible refine Kd.dc ?_ _)|(with_reducible refine Kd.Zb ?_ _)|(with_reducible refine Kd.Fc ?_)))
             (case Uz=>exact LK.out)
             rintro e w40 ⟨rfl,hb⟩;refine ⟨_,rfl,?_⟩;have Eb:=ga.mk (Va (g:=ya) (o:=.cells #[.slice Ya Qa.length Za,.int .i64 Ja,.int .i64 Ga,.int .i64 Ia,.slice (some jh) Aa.length Cb] 30 (0,0)) vaH hb);have Fb:=ga.mk (Ra taH hb);clear oa HB;have oa:=Eb;have HB:=Fb;clear Eb Fb;(try clear hb);(try clear Uj);(try clear hk);(try clear hi);refine hK.out _ _ ⟨(ia oa.out 0).trans rfl,(ia oa.out 1).trans rfl,(ia oa.out 2).trans rfl,(ia oa.out 3).trans rfl,(ia oa.out 4).trans rfl,(Sa HB.out vA),(Sa HB.out uA),(Sa HB.out tA),(Sa HB.out sA),(Sa HB.out rA)⟩ (fun hHeld=>?_);clear hK K;refine Dq (a':=?_) ?_ ?_;rotate_left
             ·show Act.put _ (some 84) _=_
              simp only [Act.put,List.setIfInBounds_toArray,List.set_cons_zero,List.set_cons_succ,nc,oc]
              rfl
             refine Od (i:=10) (N:=some 85) (v:=?_) (a':=?_) #[true,true,true,true,true,true,true,true,true,true,true,false] rfl rfl (qd Lg.out (by kernel_rfl)) (fun _ _ _ h=>h) (Or.inl ⟨by rfl,?_⟩) ?_ ?_;rotate_left
             ·intro w';go_simp;with_reducible rfl
             rotate_left
             ·simp only [Act.put,List.setIfInBounds_toArray,List.set_cons_zero,List.set_cons_succ,nc,oc]
              rfl
             refine Od (i:=11) (N:=some 86) (v:=?_) (a':=?_) #[true,true,true,true,true,true,true,true,true,true,true,true] rfl rfl (qd Lg.out (by kernel_rfl)) (fun _ _ _ h=>h) (Or.inl ⟨by rfl,?_⟩) ?_ ?_;rotate_left
             ·intro w';go_simp;with_reducible rfl
             rotate_left
             ·simp only [Act.put,List.setIfInBounds_toArray,List.set_cons_zero,List.set_cons_succ,nc,oc]
              rfl
             refine ot (Ro Lg.out (by kernel_rfl)) ?_
             try go_wp2
             go_ret;exact ⟨by first|rfl|(simp [Pa,Oa] <;> rfl)|(simp [*,Pa,Oa] <;> rfl),xaH⟩
          ·rw [if_neg bL] at H;exact absurd H (by simp)
         ·rw [if_neg dN] at H;have X8:decide (zf < (Aa.length:Int))=false:=decide_eq_false dN;clear dN;obtain rfl:=Option.some.inj H;have vS:wr.cell? ⟨ya,0,none⟩=some (.slice Ya Qa.length Za):=(ia oa.out 0).trans rfl;have uS:wr.cell? ⟨ya,1,none⟩=some (.int .i64 Ja):=(ia oa.out 1).trans rfl;have tS:wr.cell? ⟨ya,2,none⟩=some (.int .i64 Ga):=(ia oa.out 2).trans rfl;have sS:wr.cell? ⟨ya,3,none⟩=some (.int .i64 Ia):=(ia oa.out 3).trans rfl;have rS:wr.cell? ⟨ya,4,none⟩=some (.slice Mb Aa.length Cb):=(ia oa.out 4).trans rfl;have dR:=aa oa.out 0;have cR:=aa oa.out 1;have bR:=aa oa.out 2;have ZQ:=aa oa.out 3;have YQ:=aa oa.out 4;go_wp2;go_ret;exact ⟨by first|rfl|(simp [Pa,Oa] <;> rfl)|(simp [*,Pa,Oa] <;> rfl),xaH⟩
end Go.Proofs.Ytkigbdceceeenaa.P
end
