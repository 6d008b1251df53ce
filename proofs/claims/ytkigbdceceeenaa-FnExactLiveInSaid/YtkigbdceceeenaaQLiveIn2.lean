import Derived.Test.YtkigbdceceeenaaQLiveIn1
set_option maxHeartbeats 8000000
set_option maxRecDepth 100000
section
namespace Go.Proofs.Ytkigbdceceeenaa.P
open Go.RowKit Go.Proofs.Sa.Wb Go.Proofs.Sa.je Go.Proofs.Sa.Qf
set_option linter.unusedVariables false
set_option linter.unusedSimpArgs false
attribute [local go_sem] ei ai Tj Sj Yg Xg di Zh
def ic.l0:Nat→Int→List Int→Int→Int→Int→List (We)→List (ye)→Int→Int→Int→Int→Option (Bool)
 | 0,_,_,_,_,_,_,_,_,_,_,_=>none
 | k + 1,x5,jc,Ec,tc,oc,Rb,Gf,zj,Rj,Ei,Di=>if x5 < (Gf.length:Int) then (if 0 ≤ x5 then ((jb.f k jc Ec tc oc Rb ((Ca Gf x5).f0) ((Ca Gf x5).f1) ((Ca Gf x5).f2) ((Ca Gf x5).f3) ((Ca Gf x5).f4) ((Ca Gf x5).f5) ((Ca Gf x5).f6)).bind fun t104=>(if t104=true then (ic.l0 k (wrap64 (x5 + 1)) jc Ec tc oc Rb Gf zj Rj Ei Di) else (some false))) else (none)) else ((Xa.f Ei 0 (wrap64 ((Rb.length:Int) - 1))).bind fun t105=>((Xa.f Rj 0 (wrap64 (oc - 1))).bind fun t106=>(if zj=0 then (if t105=true then (if Rj=0 then (some (Di == 0)) else (some false)) else (some false)) else (if zj=1 then (if t105=true then (if t106=true then ((Xa.f Di 0 (wrap64 ((Rb.length:Int) - 1))).bind fun t107=>(some t107)) else (some false)) else (some false)) else (if zj=2 then (if t106=true then (if Ei=0 then (some (Di == 0)) else (some false)) else (some false)) else (some false))))))
def ic.f (k:Nat) (Ra:List Int) (La:Int) (Ja:Int) (Ia:Int) (Fa:List (We)) (Nc:List (ye)) (Qb:Int) (Jb:Int) (Kb:Int) (ec:Int):Option (Bool):=ic.l0 k 0 Ra La Ja Ia Fa Nc Qb Jb Kb ec
def ic.T4:Bool × List (List Nat × List Nat):=(true,[([],[]),([],[]),([1],[1]),([],[]),([2,3],[2,3]),([4],[4]),([0,5],[0,5]),([6],[6])])
def ic.B4:List Nat:=[0,0,2,0,14,30,63,127]
theorem ic.iS:Lm .any (opsOf Try.f71 4)=ic.T4:=by kernel_rfl
theorem ic.SM:rm ic.T4.2 ic.B4=true:=by kernel_rfl
theorem ic.calls (k:Nat) (Za:Option Addr) (gb:Nat) (Ra:List Int) (La:Int) (Ja:Int) (Ia:Int) (Vb:Option Addr) (Lb:Nat) (Fa:List (We)) (qf:Option Addr) (jf:Nat) (Nc:List (ye)) (Qb:Int) (Jb:Int) (Kb:Int) (ec:Int) (r:Bool) (w:World) (Zd:Kd.C (Kd.int .i64) w Za Ra.length Ra) (Xd:Ra.length ≤ gb) (Tf:Kd.C Kp w Vb Fa.length Fa) (Kf:Fa.length ≤ Lb) (wu:Kd.C Gi w qf Nc.length Nc) (xu:Nc.length ≤ jf) (h:ic.f k Ra La Ja Ia Fa Nc Qb Jb Kb ec=some r) :
  Calls Try.prog 71 #[.agg #[.slice Za Ra.length gb,.int .i64 La,.int .i64 Ja,.int .i64 Ia,.slice Vb Fa.length Lb],.agg #[.slice qf Nc.length jf,.int .i64 Qb,.int .i64 Jb,.int .i64 Kb,.int .i64 ec]] w fun e w'=>e = .returned (.bool r)∧Below w.heap.size w w':=by
 have vC:=Try.underlying30;have gy:=Try.underlying59;have fy:=Try.underlying65;have He:=ja.mk Zd;have Me:=ja.mk Xd;clear Zd Xd;have Uf:=ja.mk Tf;have Ug:=ja.mk Kf;clear Tf Kf;have gn:=ja.mk wu;have Bp:=ja.mk xu;clear wu xu;have HB:=ja.mk (Below.refl w.heap.size w);have H:(ic.l0 k 0 Ra La Ja Ia Fa Nc Qb Jb Kb ec)=some r:=h;clear h;have H':=ja.mk H;clear H;go_enter Try.func71,Try.ntmps71;go_wp2_with (first|((with_reducible refine xb (N:=2) rfl ?_);(try (refine ug (by rfl) ?_;dsimp only));refine Fb ?hg (N:=2) ?hd (cs:=#[.slice Za Ra.length gb,.int .i64 La,.int .i64 Ja,.int .i64 Ia,.slice Vb Fa.length Lb]) (t:=30) ?hr ?_;(case hd=>rfl);(case hg=>rfl);(case hr=>first|(go_simp;done)|(go_simp;rfl));intro ya hg w3 Pb hb;have Bb:=ja.mk (Qa (by repeat (first|(with_reducible first|exact HB.out|apply qa|apply ia|apply ta)|exact HB.out)) hb);have Gb:=ja.mk (Pb);have Nb:=ja.mk ((by rw [hg];exact (Ka (by repeat (first|(with_reducible first|exact HB.out|apply qa|apply ia|apply ta)|exact HB.out))):w.heap.size ≤ ya));have Dc:=ja.mk ((by rw [hg];exact (Ka (by repeat (first|(with_reducible first|exact HB.out|apply qa|apply ia|apply ta)|exact HB.out))):w.heap.size ≤ ya));clear HB;have HB:=Bb;have oa:=Gb;have Ad:=Nb;have Ta:=Dc;clear Bb Gb Nb Dc hb Pb hg)|((with_reducible refine xb (N:=3) rfl ?_);(try (refine ug (by rfl) ?_;dsimp only));refine Fb ?hg (N:=3) ?hd (cs:=#[.slice qf Nc.length jf,.int .i64 Qb,.int .i64 Jb,.int .i64 Kb,.int .i64 ec]) (t:=59) ?hr ?_;(case hd=>rfl);(case hg=>rfl);(case hr=>first|(go_simp;done)|(go_simp;rfl));intro Ga hg w4 Pb hb;have Bb:=ja.mk (Va (g:=ya) (o:=.cells #[.slice Za Ra.length gb,.int .i64 La,.int .i64 Ja,.int .i64 Ia,.slice Vb Fa.length Lb] 30 (0,0)) (by (with_reducible repeat (first|refine Aa ?_ _|refine Da ?_|refine Ba ?_ _));exact oa.out) hb);have Gb:=ja.mk (Qa (by repeat (first|(with_reducible first|exact HB.out|apply qa|apply ia|apply ta|refine ua ?_ Ta.out)|exact HB.out)) hb);have Nb:=ja.mk (Pb);have Dc:=ja.mk ((by rw [hg];exact (Ka (by repeat (first|(with_reducible first|exact HB.out|apply qa|apply ia|apply ta|refine ua ?_ Ta.out)|exact HB.out))):w.heap.size ≤ Ga));have Jf:=ja.mk ((by rw [hg];exact (Ka (by repeat (first|(with_reducible first|exact HB.out|apply qa|apply ia|apply ta|refine ua ?_ Ta.out)|exact HB.out))):w.heap.size ≤ Ga));have sg:=ja.mk ((by rw [hg];exact Nat.ne_of_lt (Rc (g:=ya) (o:=.cells #[.slice Za Ra.length gb,.int .i64 La,.int .i64 Ja,.int .i64 Ia,.slice Vb Fa.length Lb] 30 (0,0)) (by (with_reducible repeat (first|refine Aa ?_ _|refine Da ?_|refine Ba ?_ _));exact oa.out)):ya ≠ Ga));have Bg:=ja.mk ((by rw [hg];exact Nat.ne_of_gt (Rc (g:=ya) (o:=.cells #[.slice Za Ra.length gb,.int .i64 La,.int .i64 Ja,.int .i64 Ia,.slice Vb Fa.length Lb] 30 (0,0)) (by (with_reducible repeat (first|refine Aa ?_ _|refine Da ?_|refine Ba ?_ _));exact oa.out)):Ga ≠ ya));clear oa HB;have oa:=Bb;have HB:=Gb;have za:=Nb;have mj:=Dc;have uc:=Jf;have Db:=sg;have Cb:=Bg;clear Bb Gb Nb Dc Jf sg Bg hb Pb hg))
 go_loopg [5] k (fun kq v5 w'=>∃ (Ea:Int),v5 = .int .i64 Ea∧ja (ic.l0 kq Ea Ra La Ja Ia Fa Nc Qb Jb Kb ec=some r)∧ja (kq ≤ k)∧ja (w'.heap[ya]? = some (.cells #[(.slice Za Ra.length gb),.int .i64 La,.int .i64 Ja,.int .i64 Ia,(.slice Vb Fa.length Lb)] 30 (0,0)))∧ja (w'.heap[Ga]? = some (.cells #[(.slice qf Nc.length jf),.int .i64 Qb,.int .i64 Jb,.int .i64 Kb,.int .i64 ec] 59 (0,0)))∧ja (Below w.heap.size w w'))
 case atStart=>exact ⟨(0),(by first|rfl|(simp;done)|(simp [*];done)),H',⟨Nat.le_refl _⟩,⟨by (with_reducible repeat (first|refine Aa ?_ _|refine Da ?_|refine Ba ?_ _));exact oa.out⟩,⟨by (with_reducible repeat (first|refine Aa ?_ _|refine Da ?_|refine Ba ?_ _));exact za.out⟩,⟨by repeat (first|(with_reducible first|exact HB.out|apply qa|apply ia|apply ta|refine ua ?_ Ta.out|refine ua ?_ uc.out)|exact HB.out)⟩⟩
 case round =>
  clear H'
  try clear c1
  try clear p2
  (try clear HA);(try clear qg);(try clear oa);(try clear za);(try clear HB);obtain ⟨Ea,rfl,HA,qg,oa,za,HB⟩:=hrel;cases gk with
  | zero=>exact absurd HA.out (by simp [ic.l0])
  | succ k1 =>
   have H:=HA.out;clear HA;simp only [ic.l0] at H
   by_cases c5:Ea < (Nc.length:Int)
   ·rw [if_pos c5] at H;have ki:decide (Ea < (Nc.length:Int))=true:=decide_eq_true c5;clear c5
    by_cases c6:0 ≤ Ea
    ·rw [if_pos c6] at H;have Sm:decide (0 ≤ Ea)=true:=decide_eq_true c6;clear c6;replace H:=Option.bind_eq_some_iff.mp H;obtain ⟨t104,uG,H⟩:=H;replace H:(if t104=true then (ic.l0 k1 (wrap64 (Ea + 1)) Ra La Ja Ia Fa Nc Qb Jb Kb ec) else (some false))=some r:=H;have A7:=ja.mk uG;clear uG
     by_cases c8:t104=true
     ·subst c8;have H1:(ic.l0 k1 (wrap64 (Ea + 1)) Ra La Ja Ia Fa Nc Qb Jb Kb ec)=some r:=by rw [if_pos rfl] at H;exact H
      clear H;have H:=H1;clear H1;have H':=ja.mk H;clear H;have wak:=Cb.out;have iak:=Db.out;have uh:wr.cell? ⟨Ga,0,none⟩=some (.slice qf Nc.length jf):=(ga za.out 0).trans rfl;have th:wr.cell? ⟨Ga,1,none⟩=some (.int .i64 Qb):=(ga za.out 1).trans rfl;have qh:wr.cell? ⟨Ga,2,none⟩=some (.int .i64 Jb):=(ga za.out 2).trans rfl;have oh:wr.cell? ⟨Ga,3,none⟩=some (.int .i64 Kb):=(ga za.out 3).trans rfl;have nh:wr.cell? ⟨Ga,4,none⟩=some (.int .i64 ec):=(ga za.out 4).trans rfl;have mh:=aa za.out 0;have jh:=aa za.out 1;have gh:=aa za.out 2;have fh:=aa za.out 3;have dh:=aa za.out 4
      try go_wp2
      have Bb:=ja.mk (Da oa.out);have Gb:=ja.mk (Da za.out);have Nb:=ja.mk (ta HB.out);clear oa za HB;have oa:=Bb;have za:=Gb;have HB:=Nb;clear Bb Gb Nb;have GI:0 ≤ (Ea:Int):=Ua;have DI:Ea < (Nc.length:Int):=Ua;obtain ⟨Mg,QZ,Mn,Ln,Kn,Jn,Gn,En,Dn⟩:=Hp gn.out Ea GI DI;have Vv:=Dn;have Wv:=En;have Xv:=Gn;have Yv:=Jn;have Zv:=Kn;have bw:=Ln;have cw:=Mn;cases QZ;replace Mn:=Pa HB.out Mn;replace Ln:=Pa HB.out Ln;replace Kn:=Pa HB.out Kn;replace Jn:=Pa HB.out Jn;replace Gn:=Pa HB.out Gn;replace En:=Pa HB.out En;replace Dn:=Pa HB.out Dn;replace GI:=eq_true GI;replace DI:=eq_true DI;refine mm (n:=8) (S:=fun w'=>w'.cell? ⟨ya,0,none⟩=some (.slice Za Ra.length gb)∧w'.cell? ⟨ya,1,none⟩=some (.int .i64 La)∧w'.cell? ⟨ya,2,none⟩=some (.int .i64 Ja)∧w'.cell? ⟨ya,3,none⟩=some (.int .i64 Ia)∧w'.cell? ⟨ya,4,none⟩=some (.slice Vb Fa.length Lb)∧w'.cell? ⟨Ga,0,none⟩=some (.slice (some Mg) Nc.length jf)∧w'.cell? ⟨Ga,1,none⟩=some (.int .i64 Qb)∧w'.cell? ⟨Ga,2,none⟩=some (.int .i64 Jb)∧w'.cell? ⟨Ga,3,none⟩=some (.int .i64 Kb)∧w'.cell? ⟨Ga,4,none⟩=some (.int .i64 ec)∧w'.cell? (Mg.add ((Ea).toNat * 7))=some (.int .i64 ((Ca Nc Ea).f0))∧w'.cell? ⟨(Mg.add ((Ea).toNat * 7)).block,(Mg.add ((Ea).toNat * 7)).off + 1,none⟩=some (.int .i64 ((Ca Nc Ea).f1))∧w'.cell? ⟨(Mg.add ((Ea).toNat * 7)).block,(Mg.add ((Ea).toNat * 7)).off + 2,none⟩=some (.int .i64 ((Ca Nc Ea).f2))∧w'.cell? ⟨(Mg.add ((Ea).toNat * 7)).block,(Mg.add ((Ea).toNat * 7)).off + 3,none⟩=some (.int .i64 ((Ca Nc Ea).f3))∧w'.cell? ⟨(Mg.add ((Ea).toNat * 7)).block,(Mg.add ((Ea).toNat * 7)).off + 4,none⟩=some (.int .i64 ((Ca Nc Ea).f4))∧w'.cell? ⟨(Mg.add ((Ea).toNat * 7)).block,(Mg.add ((Ea).toNat * 7)).off + 5,none⟩=some (.int .i64 ((Ca Nc Ea).f5))∧w'.cell? ⟨(Mg.add ((Ea).toNat * 7)).block,(Mg.add ((Ea).toNat * 7)).off + 6,none⟩=some (.string ((Ca Nc Ea).f6))) (ds:=[]) #[false,false,false,false,false,false,false,false] (by kernel_rfl) rfl rfl ⟨(ga oa.out 0).trans rfl,(ga oa.out 1).trans rfl,(ga oa.out 2).trans rfl,(ga oa.out 3).trans rfl,(ga oa.out 4).trans rfl,(ga za.out 0).trans rfl,(ga za.out 1).trans rfl,(ga za.out 2).trans rfl,(ga za.out 3).trans rfl,(ga za.out 4).trans rfl,(Pa HB.out cw),(Pa HB.out bw),(Pa HB.out Zv),(Pa HB.out Yv),(Pa HB.out Xv),(Pa HB.out Wv),(Pa HB.out Vv)⟩ (fun hHeld=>?_);refine Dh ic.iS ic.SM (fun Bf Xq=>?_);generalize wr.drew=Fi at oa za HB Mn Ln Kn Jn Gn En Dn hHeld ⊢;refine Zc (i:=1) (N:=some 16) (v:=?_) (a':=?_) #[false,true,false,false,false,false,false,false] rfl rfl (Oc Bf.out (by kernel_rfl)) (fun _ _ _ h=>h) (Or.inl ⟨by rfl,?_⟩) ?_ ?_;rotate_left
      ·intro w';go_simp;with_reducible rfl
      rotate_left
      ·simp only [Act.put,List.setIfInBounds_toArray,List.set_cons_zero,List.set_cons_succ,Yb,Zb]
       rfl
      refine Zc (i:=3) (N:=some 18) (v:=?_) (a':=?_) #[false,true,false,true,false,false,false,false] rfl rfl (Oc Bf.out (by kernel_rfl)) (fun _ _ _ h=>h) (Or.inl ⟨by rfl,?_⟩) ?_ ?_;rotate_left
      ·intro w';go_simp;with_reducible rfl
      rotate_left
      ·simp only [Act.put,List.setIfInBounds_toArray,List.set_cons_zero,List.set_cons_succ,Yb,Zb]
       rfl
      refine yg (i:=0) (N:=some 15) (v:=?_) (a':=?_) #[true,true,false,true,false,false,false,false] rfl rfl (Ce Bf.out Xq.out (by kernel_rfl)) (fun _ _ _ h=>h) (Or.inl ⟨by rfl,?_⟩) hHeld ?_ ?_;rotate_left
      ·rintro w' ⟨s0,s1,s2,s3,s4,s5,s6,s7,s8,s9,AG,YJ,XJ,lS,p4,m4,j4⟩;go_simp;with_reducible rfl
      rotate_left
      ·simp only [Act.put,List.setIfInBounds_toArray,List.set_cons_zero,List.set_cons_succ,Yb,Zb]
       rfl
      refine yg (i:=2) (N:=some 17) (v:=?_) (a':=?_) #[true,true,true,true,false,false,false,false] rfl rfl (Ce Bf.out Xq.out (by kernel_rfl)) (fun _ _ _ h=>h) (Or.inl ⟨by rfl,?_⟩) hHeld ?_ ?_;rotate_left
      ·rintro w' ⟨s0,s1,s2,s3,s4,s5,s6,s7,s8,s9,AG,YJ,XJ,lS,p4,m4,j4⟩;go_simp;with_reducible rfl
      rotate_left
      ·simp only [Act.put,List.setIfInBounds_toArray,List.set_cons_zero,List.set_cons_succ,Yb,Zb]
       rfl
      refine Zc (i:=4) (N:=some 19) (v:=?_) (a':=?_) #[true,true,true,true,true,false,false,false] rfl rfl (Oc Bf.out (by kernel_rfl)) (fun _ _ _ h=>h) (Or.inl ⟨by rfl,?_⟩) ?_ ?_;rotate_left
      ·intro w';go_simp;with_reducible rfl
      rotate_left
      ·simp only [Act.put,List.setIfInBounds_toArray,List.set_cons_zero,List.set_cons_succ,Yb,Zb]
       rfl
      refine yg (i:=5) (N:=some 20) (v:=?_) (a':=?_) #[true,true,true,true,true,true,false,false] rfl rfl (Ce Bf.out Xq.out (by kernel_rfl)) (fun _ _ _ h=>h) (Or.inl ⟨by rfl,?_⟩) hHeld ?_ ?_;rotate_left
      ·rintro w' ⟨s0,s1,s2,s3,s4,s5,s6,s7,s8,s9,AG,YJ,XJ,lS,p4,m4,j4⟩;go_simp;with_reducible rfl
      rotate_left
      ·simp only [Act.put,List.setIfInBounds_toArray,List.set_cons_zero,List.set_cons_succ,Yb,Zb]
       rfl
      refine ku (i:=6) (N:=some 21) #[true,true,true,true,true,true,true,false] rfl rfl (vo Bf.out (by kernel_rfl)) (by decide) (fun K hK=>?_);refine dn Try.func97 (by kernel_rfl) rfl #[.agg #[.slice Za Ra.length gb,.int .i64 La,.int .i64 Ja,.int .i64 Ia,.slice Vb Fa.length Lb],.agg #[.int .i64 ((Ca Nc Ea).f0),.int .i64 ((Ca Nc Ea).f1),.int .i64 ((Ca Nc Ea).f2),.int .i64 ((Ca Nc Ea).f3),.int .i64 ((Ca Nc Ea).f4),.int .i64 ((Ca Nc Ea).f5),.string ((Ca Nc Ea).f6)]] (by rfl) rfl rfl (by (try simp only [List.map_toArray,List.map_cons,List.map_nil]);first|done|rfl|(simp only [List.length_drop,List.length_take];rfl)) ?_;with_reducible refine (jb.calls k1 _ _ Ra La Ja Ia _ _ Fa ((Ca Nc Ea).f0) ((Ca Nc Ea).f1) ((Ca Nc Ea).f2) ((Ca Nc Ea).f3) ((Ca Nc Ea).f4) ((Ca Nc Ea).f5) ((Ca Nc Ea).f6) true _ ?Jc ?Ic ?Qd ?Pd A7.out).mono ?_
      (case Jc=>repeat (first|exact (Kd.Mb He.out HB.out)|(with_reducible refine Kd.Tb ?_ _)|(with_reducible refine Kd.Sb ?_ _)|(with_reducible refine Kd.qc ?_)))
      (case Ic=>exact Me.out)
      (case Qd=>repeat (first|exact (Kd.Mb Uf.out HB.out)|(with_reducible refine Kd.Tb ?_ _)|(with_reducible refine Kd.Sb ?_ _)|(with_reducible refine Kd.qc ?_)))
      (case Pd=>exact Ug.out)
      rintro e dr ⟨rfl,hb⟩;refine ⟨_,rfl,?_⟩;have Bb:=ja.mk (Va (g:=ya) (o:=.cells #[.slice Za Ra.length gb,.int .i64 La,.int .i64 Ja,.int .i64 Ia,.slice Vb Fa.length Lb] 30 (0,0)) (by (with_reducible repeat (first|refine Aa ?_ _|refine Da ?_|refine Ba ?_ _));exact oa.out) hb);have Gb:=ja.mk (Va (g:=Ga) (o:=.cells #[.slice (some Mg) Nc.length jf,.int .i64 Qb,.int .i64 Jb,.int .i64 Kb,.int .i64 ec] 59 (0,0)) (by (with_reducible repeat (first|refine Aa ?_ _|refine Da ?_|refine Ba ?_ _));exact za.out) hb);have Nb:=ja.mk (Qa (by repeat (first|(with_reducible first|exact HB.out|apply qa|apply ia|apply ta|refine ua ?_ Ta.out|refine ua ?_ uc.out)|exact HB.out)) hb);clear oa za HB;have oa:=Bb;have za:=Gb;have HB:=Nb;clear Bb Gb Nb;(try clear hb);(try clear si);(try clear hk);(try clear hi);refine hK.out _ _ ⟨(ga oa.out 0).trans rfl,(ga oa.out 1).trans rfl,(ga oa.out 2).trans rfl,(ga oa.out 3).trans rfl,(ga oa.out 4).trans rfl,(ga za.out 0).trans rfl,(ga za.out 1).trans rfl,(ga za.out 2).trans rfl,(ga za.out 3).trans rfl,(ga za.out 4).trans rfl,(Pa HB.out cw),(Pa HB.out bw),(Pa HB.out Zv),(Pa HB.out Yv),(Pa HB.out Xv),(Pa HB.out Wv),(Pa HB.out Vv)⟩ (fun hHeld=>?_);clear hK K;refine bn (a':=?_) ?_ ?_;rotate_left
      ·show Act.put _ (some 21) _=_
       simp only [Act.put,List.setIfInBounds_toArray,List.set_cons_zero,List.set_cons_succ,Yb,Zb]
       rfl
      refine Zc (i:=7) (N:=some 22) (v:=?_) (a':=?_) #[true,true,true,true,true,true,true,true] rfl rfl (Oc Bf.out (by kernel_rfl)) (fun _ _ _ h=>h) (Or.inl ⟨by rfl,?_⟩) ?_ ?_;rotate_left
      ·intro w';go_simp;with_reducible rfl
      rotate_left
      ·simp only [Act.put,List.setIfInBounds_toArray,List.set_cons_zero,List.set_cons_succ,Yb,Zb]
       rfl
      refine Np (Ul Bf.out (by kernel_rfl)) ?_
      try go_wp2
      go_roundg k1
      case measure=>have:=qg.out;omega
      case rel=>exact ⟨(wrap64 (Ea + 1)),(by first|rfl|(simp;done)|(simp [*];done)),H',⟨by have:=qg.out;omega⟩,⟨by (with_reducible repeat (first|refine Aa ?_ _|refine Da ?_|refine Ba ?_ _));exact oa.out⟩,⟨by (with_reducible repeat (first|refine Aa ?_ _|refine Da ?_|refine Ba ?_ _));exact za.out⟩,⟨by repeat (first|(with_reducible first|exact HB.out|apply qa|apply ia|apply ta|refine ua ?_ Ta.out|refine ua ?_ uc.out)|exact HB.out)⟩⟩
     ·replace c8:=Bool.eq_false_iff.mpr c8;subst c8;have H1:(some false)=some r:=by rw [if_neg (show ¬ (false=true) by decide)] at H;exact H
      clear H;have H:=H1;clear H1;obtain rfl:=Option.some.inj H;have Fap:=Cb.out;have Sao:=Db.out;have fj:wr.cell? ⟨Ga,0,none⟩=some (.slice qf Nc.length jf):=(ga za.out 0).trans rfl;have ej:wr.cell? ⟨Ga,1,none⟩=some (.int .i64 Qb):=(ga za.out 1).trans rfl;have cj:wr.cell? ⟨Ga,2,none⟩=some (.int .i64 Jb):=(ga za.out 2).trans rfl;have aj:wr.cell? ⟨Ga,3,none⟩=some (.int .i64 Kb):=(ga za.out 3).trans rfl;have Zi:wr.cell? ⟨Ga,4,none⟩=some (.int .i64 ec):=(ga za.out 4).trans rfl;have Wi:=aa za.out 0;have Vi:=aa za.out 1;have Ui:=aa za.out 2;have Ti:=aa za.out 3;have Si:=aa za.out 4
      try go_wp2
      have Bb:=ja.mk (Da oa.out);have Gb:=ja.mk (Da za.out);have Nb:=ja.mk (ta HB.out);clear oa za HB;have oa:=Bb;have za:=Gb;have HB:=Nb;clear Bb Gb Nb;have GI:0 ≤ (Ea:Int):=Ua;have DI:Ea < (Nc.length:Int):=Ua;obtain ⟨Mg,QZ,Mn,Ln,Kn,Jn,Gn,En,Dn⟩:=Hp gn.out Ea GI DI;have Vv:=Dn;have Wv:=En;have Xv:=Gn;have Yv:=Jn;have Zv:=Kn;have bw:=Ln;have cw:=Mn;cases QZ;replace Mn:=Pa HB.out Mn;replace Ln:=Pa HB.out Ln;replace Kn:=Pa HB.out Kn;replace Jn:=Pa HB.out Jn;replace Gn:=Pa HB.out Gn;replace En:=Pa HB.out En;replace Dn:=Pa HB.out Dn;replace GI:=eq_true GI;replace DI:=eq_true DI;refine mm (n:=8) (S:=fun w'=>w'.cell? ⟨ya,0,none⟩=some (.slice Za Ra.length gb)∧w'.cell? ⟨ya,1,none⟩=some (.int .i64 La)∧w'.cell? ⟨ya,2,none⟩=some (.int .i64 Ja)∧w'.cell? ⟨ya,3,none⟩=some (.int .i64 Ia)∧w'.cell? ⟨ya,4,none⟩=some (.slice Vb Fa.length Lb)∧w'.cell? ⟨Ga,0,none⟩=some (.slice (some Mg) Nc.length jf)∧w'.cell? ⟨Ga,1,none⟩=some (.int .i64 Qb)∧w'.cell? ⟨Ga,2,none⟩=some (.int .i64 Jb)∧w'.cell? ⟨Ga,3,none⟩=some (.int .i64 Kb)∧w'.cell? ⟨Ga,4,none⟩=some (.int .i64 ec)∧w'.cell? (Mg.add ((Ea).toNat * 7))=some (.int .i64 ((Ca Nc Ea).f0))∧w'.cell? ⟨(Mg.add ((Ea).toNat * 7)).block,(Mg.add ((Ea).toNat * 7)).off + 1,none⟩=some (.int .i64 ((Ca Nc Ea).f1))∧w'.cell? ⟨(Mg.add ((Ea).toNat * 7)).block,(Mg.add ((Ea).toNat * 7)).off + 2,none⟩=some (.int .i64 ((Ca Nc Ea).f2))∧w'.cell? ⟨(Mg.add ((Ea).toNat * 7)).block,(Mg.add ((Ea).toNat * 7)).off + 3,none⟩=some (.int .i64 ((Ca Nc Ea).f3))∧w'.cell? ⟨(Mg.add ((Ea).toNat * 7)).block,(Mg.add ((Ea).toNat * 7)).off + 4,none⟩=some (.int .i64 ((Ca Nc Ea).f4))∧w'.cell? ⟨(Mg.add ((Ea).toNat * 7)).block,(Mg.add ((Ea).toNat * 7)).off + 5,none⟩=some (.int .i64 ((Ca Nc Ea).f5))∧w'.cell? ⟨(Mg.add ((Ea).toNat * 7)).block,(Mg.add ((Ea).toNat * 7)).off + 6,none⟩=some (.string ((Ca Nc Ea).f6))) (ds:=[]) #[false,false,false,false,false,false,false,false] (by kernel_rfl) rfl rfl ⟨(ga oa.out 0).trans rfl,(ga oa.out 1).trans rfl,(ga oa.out 2).trans rfl,(ga oa.out 3).trans rfl,(ga oa.out 4).trans rfl,(ga za.out 0).trans rfl,(ga za.out 1).trans rfl,(ga za.out 2).trans rfl,(ga za.out 3).trans rfl,(ga za.out 4).trans rfl,(Pa HB.out cw),(Pa HB.out bw),(Pa HB.out Zv),(Pa HB.out Yv),(Pa HB.out Xv),(Pa HB.out Wv),(Pa HB.out Vv)⟩ (fun hHeld=>?_);refine Dh ic.iS ic.SM (fun Bf Xq=>?_);generalize wr.drew=Xp at oa za HB Mn Ln Kn Jn Gn En Dn hHeld ⊢;refine Zc (i:=1) (N:=some 16) (v:=?_) (a':=?_) #[false,true,false,false,false,false,false,false] rfl rfl (Oc Bf.out (by kernel_rfl)) (fun _ _ _ h=>h) (Or.inl ⟨by rfl,?_⟩) ?_ ?_;rotate_left
      ·intro w';go_simp;with_reducible rfl
      rotate_left
      ·simp only [Act.put,List.setIfInBounds_toArray,List.set_cons_zero,List.set_cons_succ,Yb,Zb]
       rfl
      refine Zc (i:=3) (N:=some 18) (v:=?_) (a':=?_) #[false,true,false,true,false,false,false,false] rfl rfl (Oc Bf.out (by kernel_rfl)) (fun _ _ _ h=>h) (Or.inl ⟨by rfl,?_⟩) ?_ ?_;rotate_left
      ·intro w';go_simp;with_reducible rfl
      rotate_left
      ·simp only [Act.put,List.setIfInBounds_toArray,List.set_cons_zero,List.set_cons_succ,Yb,Zb]
       rfl
      refine yg (i:=0) (N:=some 15) (v:=?_) (a':=?_) #[true,true,false,true,false,false,false,false] rfl rfl (Ce Bf.out Xq.out (by kernel_rfl)) (fun _ _ _ h=>h) (Or.inl ⟨by rfl,?_⟩) hHeld ?_ ?_;rotate_left
      ·rintro w' ⟨s0,s1,s2,s3,s4,s5,s6,s7,s8,s9,AG,YJ,XJ,lS,p4,m4,j4⟩;go_simp;with_reducible rfl
      rotate_left
      ·simp only [Act.put,List.setIfInBounds_toArray,List.set_cons_zero,List.set_cons_succ,Yb,Zb]
       rfl
      refine yg (i:=2) (N:=some 17) (v:=?_) (a':=?_) #[true,true,true,true,false,false,false,false] rfl rfl (Ce Bf.out Xq.out (by kernel_rfl)) (fun _ _ _ h=>h) (Or.inl ⟨by rfl,?_⟩) hHeld ?_ ?_;rotate_left
      ·rintro w' ⟨s0,s1,s2,s3,s4,s5,s6,s7,s8,s9,AG,YJ,XJ,lS,p4,m4,j4⟩;go_simp;with_reducible rfl
      rotate_left
      ·simp only [Act.put,List.setIfInBounds_toArray,List.set_cons_zero,List.set_cons_succ,Yb,Zb]
       rfl
      refine Zc (i:=4) (N:=some 19) (v:=?_) (a':=?_) #[true,true,true,true,true,false,false,false] rfl rfl (Oc Bf.out (by kernel_rfl)) (fun _ _ _ h=>h) (Or.inl ⟨by rfl,?_⟩) ?_ ?_;rotate_left
      ·intro w';go_simp;with_reducible rfl
      rotate_left
      ·simp only [Act.put,List.setIfInBounds_toArray,List.set_cons_zero,List.set_cons_succ,Yb,Zb]
       rfl
      refine yg (i:=5) (N:=some 20) (v:=?_) (a':=?_) #[true,true,true,true,true,true,false,false] rfl rfl (Ce Bf.out Xq.out (by kernel_rfl)) (fun _ _ _ h=>h) (Or.inl ⟨by rfl,?_⟩) hHeld ?_ ?_;rotate_left
      ·rintro w' ⟨s0,s1,s2,s3,s4,s5,s6,s7,s8,s9,AG,YJ,XJ,lS,p4,m4,j4⟩;go_simp;with_reducible rfl
      rotate_left
      ·simp only [Act.put,List.setIfInBounds_toArray,List.set_cons_zero,List.set_cons_succ,Yb,Zb]
       rfl
      refine ku (i:=6) (N:=some 21) #[true,true,true,true,true,true,true,false] rfl rfl (vo Bf.out (by kernel_rfl)) (by decide) (fun K hK=>?_);refine dn Try.func97 (by kernel_rfl) rfl #[.agg #[.slice Za Ra.length gb,.int .i64 La,.int .i64 Ja,.int .i64 Ia,.slice Vb Fa.length Lb],.agg #[.int .i64 ((Ca Nc Ea).f0),.int .i64 ((Ca Nc Ea).f1),.int .i64 ((Ca Nc Ea).f2),.int .i64 ((Ca Nc Ea).f3),.int .i64 ((Ca Nc Ea).f4),.int .i64 ((Ca Nc Ea).f5),.string ((Ca Nc Ea).f6)]] (by rfl) rfl rfl (by (try simp only [List.map_toArray,List.map_cons,List.map_nil]);first|done|rfl|(simp only [List.length_drop,List.length_take];rfl)) ?_;with_reducible refine (jb.calls k1 _ _ Ra La Ja Ia _ _ Fa ((Ca Nc Ea).f0) ((Ca Nc Ea).f1) ((Ca Nc Ea).f2) ((Ca Nc Ea).f3) ((Ca Nc Ea).f4) ((Ca Nc Ea).f5) ((Ca Nc Ea).f6) false _ ?Jc ?Ic ?Qd ?Pd A7.out).mono ?_
      (case Jc=>repeat (first|exact (Kd.Mb He.out HB.out)|(with_reducible refine Kd.Tb ?_ _)|(with_reducible refine Kd.Sb ?_ _)|(with_reducible refine Kd.qc ?_)))
      (case Ic=>exact Me.out)
      (case Qd=>repeat (first|exact (Kd.Mb Uf.out HB.out)|(with_reducible refine Kd.Tb ?_ _)|(with_reducible refine Kd.Sb ?_ _)|(with_reducible refine Kd.qc ?_)))
      (case Pd=>exact Ug.out)
      rintro e cv ⟨rfl,hb⟩;refine ⟨_,rfl,?_⟩;have Bb:=ja.mk (Va (g:=ya) (o:=.cells #[.slice Za Ra.length gb,.int .i64 La,.int .i64 Ja,.int .i64 Ia,.slice Vb Fa.length Lb] 30 (0,0)) (by (with_reducible repeat (first|refine Aa ?_ _|refine Da ?_|refine Ba ?_ _));exact oa.out) hb);have Gb:=ja.mk (Va (g:=Ga) (o:=.cells #[.slice (some Mg) Nc.length jf,.int .i64 Qb,.int .i64 Jb,.int .i64 Kb,.int .i64 ec] 59 (0,0)) (by (with_reducible repeat (first|refine Aa ?_ _|refine Da ?_|refine Ba ?_ _));exact za.out) hb);have Nb:=ja.mk (Qa (by repeat (first|(with_reducible first|exact HB.out|apply qa|apply ia|apply ta|refine ua ?_ Ta.out|refine ua ?_ uc.out)|exact HB.out)) hb);clear oa za HB;have oa:=Bb;have za:=Gb;have HB:=Nb;clear Bb Gb Nb;(try clear hb);(try clear si);(try clear hk);(try clear hi);refine hK.out _ _ ⟨(ga oa.out 0).trans rfl,(ga oa.out 1).trans rfl,(ga oa.out 2).trans rfl,(ga oa.out 3).trans rfl,(ga oa.out 4).trans rfl,(ga za.out 0).trans rfl,(ga za.out 1).trans rfl,(ga za.out 2).trans rfl,(ga za.out 3).trans rfl,(ga za.out 4).trans rfl,(Pa HB.out cw),(Pa HB.out bw),(Pa HB.out Zv),(Pa HB.out Yv),(Pa HB.out Xv),(Pa HB.out Wv),(Pa HB.out Vv)⟩ (fun hHeld=>?_);clear hK K;refine bn (a':=?_) ?_ ?_;rotate_left
      ·show Act.put _ (some 21) _=_
       simp only [Act.put,List.setIfInBounds_toArray,List.set_cons_zero,List.set_cons_succ,Yb,Zb]
       rfl
      refine Zc (i:=7) (N:=some 22) (v:=?_) (a':=?_) #[true,true,true,true,true,true,true,true] rfl rfl (Oc Bf.out (by kernel_rfl)) (fun _ _ _ h=>h) (Or.inl ⟨by rfl,?_⟩) ?_ ?_;rotate_left
      ·intro w';go_simp;with_reducible rfl
      rotate_left
      ·simp only [Act.put,List.setIfInBounds_toArray,List.set_cons_zero,List.set_cons_succ,Yb,Zb]
       rfl
      refine Np (Ul Bf.out (by kernel_rfl)) ?_
      try go_wp2
      go_ret;exact ⟨by first|rfl|(simp [Na,Ma] <;> rfl)|(simp [*,Na,Ma] <;> rfl),by repeat (first|(with_reducible first|exact HB.out|apply qa|apply ia|apply ta|refine ua ?_ Ta.out|refine ua ?_ uc.out)|exact HB.out)⟩
    ·rw [if_neg c6] at H;exact absurd H (by simp)
   ·rw [if_neg c5] at H;have ki:decide (Ea < (Nc.length:Int))=false:=decide_eq_false c5;clear c5;replace H:=Option.bind_eq_some_iff.mp H;obtain ⟨t105,jac,H⟩:=H;replace H:((Xa.f Jb 0 (wrap64 (Ia - 1))).bind fun t106=>(if Qb=0 then (if t105=true then (if Jb=0 then (some (ec == 0)) else (some false)) else (some false)) else (if Qb=1 then (if t105=true then (if t106=true then ((Xa.f ec 0 (wrap64 ((Fa.length:Int) - 1))).bind fun t107=>(some t107)) else (some false)) else (some false)) else (if Qb=2 then (if t106=true then (if Kb=0 then (some (ec == 0)) else (some false)) else (some false)) else (some false)))))=some r:=H;have bS:=ja.mk jac;clear jac;replace H:=Option.bind_eq_some_iff.mp H;obtain ⟨t106,LR,H⟩:=H;replace H:(if Qb=0 then (if t105=true then (if Jb=0 then (some (ec == 0)) else (some false)) else (some false)) else (if Qb=1 then (if t105=true then (if t106=true then ((Xa.f ec 0 (wrap64 ((Fa.length:Int) - 1))).bind fun t107=>(some t107)) else (some false)) else (some false)) else (if Qb=2 then (if t106=true then (if Kb=0 then (some (ec == 0)) else (some false)) else (some false)) else (some false))))=some r:=H;have AO:=ja.mk LR;clear LR
    by_cases Xm:Qb=0
    ·rw [if_pos Xm] at H;have er:(Qb == 0)=true:=beq_iff_eq.mpr Xm;have TQ:(Qb != 0)=false:=bne_eq_false_iff_eq.mpr Xm;clear Xm
     by_cases Yp:t105=true
     ·subst Yp;have H1:(if Jb=0 then (some (ec == 0)) else (some false))=some r:=by rw [if_pos rfl] at H;exact H
      clear H;have H:=H1;clear H1
      by_cases zx:Jb=0
      ·rw [if_pos zx] at H;have PM:(Jb == 0)=true:=beq_iff_eq.mpr zx;have oaa:(Jb != 0)=false:=bne_eq_false_iff_eq.mpr zx;clear zx;obtain rfl:=Option.some.inj H;have G5:=Cb.out;have X4:=Db.out;have yp:wr.cell? ⟨Ga,0,none⟩=some (.slice qf Nc.length jf):=(ga za.out 0).trans rfl;have xp:wr.cell? ⟨Ga,1,none⟩=some (.int .i64 Qb):=(ga za.out 1).trans rfl;have vp:wr.cell? ⟨Ga,2,none⟩=some (.int .i64 Jb):=(ga za.out 2).trans rfl;have qp:wr.cell? ⟨Ga,3,none⟩=some (.int .i64 Kb):=(ga za.out 3).trans rfl;have lp:wr.cell? ⟨Ga,4,none⟩=some (.int .i64 ec):=(ga za.out 4).trans rfl;have gp:=aa za.out 0;have ep:=aa za.out 1;have bp:=aa za.out 2;have Zo:=aa za.out 3;have Yo:=aa za.out 4;have Pq:wr.cell? ⟨ya,0,none⟩=some (.slice Za Ra.length gb):=(ga oa.out 0).trans rfl;have Oq:wr.cell? ⟨ya,1,none⟩=some (.int .i64 La):=(ga oa.out 1).trans rfl;have Nq:wr.cell? ⟨ya,2,none⟩=some (.int .i64 Ja):=(ga oa.out 2).trans rfl;have Mq:wr.cell? ⟨ya,3,none⟩=some (.int .i64 Ia):=(ga oa.out 3).trans rfl;have Kq:wr.cell? ⟨ya,4,none⟩=some (.slice Vb Fa.length Lb):=(ga oa.out 4).trans rfl;have Bq:=aa oa.out 0;have Aq:=aa oa.out 1;have zq:=aa oa.out 2;have yq:=aa oa.out 3;have xq:=aa oa.out 4;go_wp2_with (first|((with_reducible refine qb (f:=53) rfl ?_);refine Mc (some 29) rfl rfl Try.func53 (by kernel_rfl) rfl #[.int .i64 Kb,.int .i64 0,.int .i64 (wrap64 ((Fa.length:Int) - 1))] rfl (by (try simp only [List.map_toArray,List.map_cons,List.map_nil]);first|done|rfl|(simp only [List.length_drop,List.length_take];rfl)) ?_;(with_reducible refine (Xa.calls Kb 0 (wrap64 ((Fa.length:Int) - 1)) true _ bS.out).mono ?_);rintro e w' ⟨rfl,⟨nd,rfl⟩⟩;refine ⟨_,rfl,?_⟩)|((with_reducible refine qb (f:=53) rfl ?_);refine Mc (some 35) rfl rfl Try.func53 (by kernel_rfl) rfl #[.int .i64 Jb,.int .i64 0,.int .i64 (wrap64 (Ia - 1))] rfl (by (try simp only [List.map_toArray,List.map_cons,List.map_nil]);first|done|rfl|(simp only [List.length_drop,List.length_take];rfl)) ?_;(with_reducible refine (Xa.calls Jb 0 (wrap64 (Ia - 1)) t106 _ AO.out).mono ?_);rintro e w' ⟨rfl,⟨nd,rfl⟩⟩;refine ⟨_,rfl,?_⟩));go_ret;exact ⟨by first|rfl|(simp [Na,Ma] <;> rfl)|(simp [*,Na,Ma] <;> rfl),by repeat (first|(with_reducible first|exact HB.out|apply qa|apply ia|apply ta|refine ua ?_ Ta.out|refine ua ?_ uc.out)|exact HB.out)⟩
      ·rw [if_neg zx] at H;have PM:(Jb == 0)=false:=beq_eq_false_iff_ne.mpr zx;have oaa:(Jb != 0)=true:=bne_iff_ne.mpr zx;obtain rfl:=Option.some.inj H;have E5:=Cb.out;have V4:=Db.out;have Rt:wr.cell? ⟨Ga,0,none⟩=some (.slice qf Nc.length jf):=(ga za.out 0).trans rfl;have Qt:wr.cell? ⟨Ga,1,none⟩=some (.int .i64 Qb):=(ga za.out 1).trans rfl;have Pt:wr.cell? ⟨Ga,2,none⟩=some (.int .i64 Jb):=(ga za.out 2).trans rfl;have Ot:wr.cell? ⟨Ga,3,none⟩=some (.int .i64 Kb):=(ga za.out 3).trans rfl;have Nt:wr.cell? ⟨Ga,4,none⟩=some (.int .i64 ec):=(ga za.out 4).trans rfl;have Ys:=aa za.out 0;have Xs:=aa za.out 1;have Ws:=aa za.out 2;have Vs:=aa za.out 3;have Us:=aa za.out 4;have Mt:wr.cell? ⟨ya,0,none⟩=some (.slice Za Ra.length gb):=(ga oa.out 0).trans rfl;have Lt:wr.cell? ⟨ya,1,none⟩=some (.int .i64 La):=(ga oa.out 1).trans rfl;have Kt:wr.cell? ⟨ya,2,none⟩=some (.int .i64 Ja):=(ga oa.out 2).trans rfl;have Jt:wr.cell? ⟨ya,3,none⟩=some (.int .i64 Ia):=(ga oa.out 3).trans rfl;have Ht:wr.cell? ⟨ya,4,none⟩=some (.slice Vb Fa.length Lb):=(ga oa.out 4).trans rfl;have Ts:=aa oa.out 0;have Ss:=aa oa.out 1;have Rs:=aa oa.out 2;have Qs:=aa oa.out 3;have Ns:=aa oa.out 4;go_wp2_with (first|((with_reducible refine qb (f:=53) rfl ?_);refine Mc (some 29) rfl rfl Try.func53 (by kernel_rfl) rfl #[.int .i64 Kb,.int .i64 0,.int .i64 (wrap64 ((Fa.length:Int) - 1))] rfl (by (try simp only [List.map_toArray,List.map_cons,List.map_nil]);first|done|rfl|(simp only [List.length_drop,List.length_take];rfl)) ?_;(with_reducible refine (Xa.calls Kb 0 (wrap64 ((Fa.length:Int) - 1)) true _ bS.out).mono ?_);rintro e w' ⟨rfl,⟨nd,rfl⟩⟩;refine ⟨_,rfl,?_⟩)|((with_reducible refine qb (f:=53) rfl ?_);refine Mc (some 35) rfl rfl Try.func53 (by kernel_rfl) rfl #[.int .i64 Jb,.int .i64 0,.int .i64 (wrap64 (Ia - 1))] rfl (by (try simp only [List.map_toArray,List.map_cons,List.map_nil]);first|done|rfl|(simp only [List.length_drop,List.length_take];rfl)) ?_;(with_reducible refine (Xa.calls Jb 0 (wrap64 (Ia - 1)) t106 _ AO.out).mono ?_);rintro e w' ⟨rfl,⟨nd,rfl⟩⟩;refine ⟨_,rfl,?_⟩));go_ret;exact ⟨by first|rfl|(simp [Na,Ma] <;> rfl)|(simp [*,Na,Ma] <;> rfl),by repeat (first|(with_reducible first|exact HB.out|apply qa|apply ia|apply ta|refine ua ?_ Ta.out|refine ua ?_ uc.out)|exact HB.out)⟩
     ·replace Yp:=Bool.eq_false_iff.mpr Yp;subst Yp;have H1:(some false)=some r:=by rw [if_neg (show ¬ (false=true) by decide)] at H;exact H
      clear H;have H:=H1;clear H1;obtain rfl:=Option.some.inj H;have zap:=Cb.out;have Nao:=Db.out;have nA:wr.cell? ⟨Ga,0,none⟩=some (.slice qf Nc.length jf):=(ga za.out 0).trans rfl;have mA:wr.cell? ⟨Ga,1,none⟩=some (.int .i64 Qb):=(ga za.out 1).trans rfl;have lA:wr.cell? ⟨Ga,2,none⟩=some (.int .i64 Jb):=(ga za.out 2).trans rfl;have kA:wr.cell? ⟨Ga,3,none⟩=some (.int .i64 Kb):=(ga za.out 3).trans rfl;have jA:wr.cell? ⟨Ga,4,none⟩=some (.int .i64 ec):=(ga za.out 4).trans rfl;have Qz:=aa za.out 0;have Pz:=aa za.out 1;have Oz:=aa za.out 2;have Nz:=aa za.out 3;have Mz:=aa za.out 4;have LU:wr.cell? ⟨ya,0,none⟩=some (.slice Za Ra.length gb):=(ga oa.out 0).trans rfl;have KU:wr.cell? ⟨ya,1,none⟩=some (.int .i64 La):=(ga oa.out 1).trans rfl;have JU:wr.cell? ⟨ya,2,none⟩=some (.int .i64 Ja):=(ga oa.out 2).trans rfl;have IU:wr.cell? ⟨ya,3,none⟩=some (.int .i64 Ia):=(ga oa.out 3).trans rfl;have GU:wr.cell? ⟨ya,4,none⟩=some (.slice Vb Fa.length Lb):=(ga oa.out 4).trans rfl;have zT:=aa oa.out 0;have yT:=aa oa.out 1;have xT:=aa oa.out 2;have wT:=aa oa.out 3;have vT:=aa oa.out 4;go_wp2_with (first|((with_reducible refine qb (f:=53) rfl ?_);refine Mc (some 29) rfl rfl Try.func53 (by kernel_rfl) rfl #[.int .i64 Kb,.int .i64 0,.int .i64 (wrap64 ((Fa.length:Int) - 1))] rfl (by (try simp only [List.map_toArray,List.map_cons,List.map_nil]);first|done|rfl|(simp only [List.length_drop,List.length_take];rfl)) ?_;(with_reducible refine (Xa.calls Kb 0 (wrap64 ((Fa.length:Int) - 1)) false _ bS.out).mono ?_);rintro e w' ⟨rfl,⟨nd,rfl⟩⟩;refine ⟨_,rfl,?_⟩)|((with_reducible refine qb (f:=53) rfl ?_);refine Mc (some 35) rfl rfl Try.func53 (by kernel_rfl) rfl #[.int .i64 Jb,.int .i64 0,.int .i64 (wrap64 (Ia - 1))] rfl (by (try simp only [List.map_toArray,List.map_cons,List.map_nil]);first|done|rfl|(simp only [List.length_drop,List.length_take];rfl)) ?_;(with_reducible refine (Xa.calls Jb 0 (wrap64 (Ia - 1)) t106 _ AO.out).mono ?_);rintro e w' ⟨rfl,⟨nd,rfl⟩⟩;refine ⟨_,rfl,?_⟩));go_ret;exact ⟨by first|rfl|(simp [Na,Ma] <;> rfl)|(simp [*,Na,Ma] <;> rfl),by repeat (first|(with_reducible first|exact HB.out|apply qa|apply ia|apply ta|refine ua ?_ Ta.out|refine ua ?_ uc.out)|exact HB.out)⟩
    ·rw [if_neg Xm] at H;have er:(Qb == 0)=false:=beq_eq_false_iff_ne.mpr Xm;have TQ:(Qb != 0)=true:=bne_iff_ne.mpr Xm
     by_cases TW:Qb=1
     ·rw [if_pos TW] at H;have kaa:(Qb == 1)=true:=beq_iff_eq.mpr TW;have jaa:(Qb != 1)=false:=bne_eq_false_iff_eq.mpr TW;clear TW
      by_cases c32:t105=true
      ·subst c32;have H1:(if t106=true then ((Xa.f ec 0 (wrap64 ((Fa.length:Int) - 1))).bind fun t107=>(some t107)) else (some false))=some r:=by rw [if_pos rfl] at H;exact H
       clear H;have H:=H1;clear H1
       by_cases yO:t106=true
       ·subst yO;have H1:((Xa.f ec 0 (wrap64 ((Fa.length:Int) - 1))).bind fun t107=>(some t107))=some r:=by rw [if_pos rfl] at H;exact H
        clear H;have H:=H1;clear H1;replace H:=Option.bind_eq_some_iff.mp H;obtain ⟨t107,cac,H⟩:=H;replace H:(some t107)=some r:=H;have A34:=ja.mk cac;clear cac;obtain rfl:=Option.some.inj H;have B5:=Cb.out;have R4:=Db.out;have iA:wr.cell? ⟨Ga,0,none⟩=some (.slice qf Nc.length jf):=(ga za.out 0).trans rfl;have gA:wr.cell? ⟨Ga,1,none⟩=some (.int .i64 Qb):=(ga za.out 1).trans rfl;have fA:wr.cell? ⟨Ga,2,none⟩=some (.int .i64 Jb):=(ga za.out 2).trans rfl;have eA:wr.cell? ⟨Ga,3,none⟩=some (.int .i64 Kb):=(ga za.out 3).trans rfl;have dA:wr.cell? ⟨Ga,4,none⟩=some (.int .i64 ec):=(ga za.out 4).trans rfl;have Lz:=aa za.out 0;have Kz:=aa za.out 1;have Jz:=aa za.out 2;have Iz:=aa za.out 3;have Hz:=aa za.out 4;have dM:wr.cell? ⟨ya,0,none⟩=some (.slice Za Ra.length gb):=(ga oa.out 0).trans rfl;have cM:wr.cell? ⟨ya,1,none⟩=some (.int .i64 La):=(ga oa.out 1).trans rfl;have bM:wr.cell? ⟨ya,2,none⟩=some (.int .i64 Ja):=(ga oa.out 2).trans rfl;have aM:wr.cell? ⟨ya,3,none⟩=some (.int .i64 Ia):=(ga oa.out 3).trans rfl;have ZL:wr.cell? ⟨ya,4,none⟩=some (.slice Vb Fa.length Lb):=(ga oa.out 4).trans rfl;have cL:=aa oa.out 0;have bL:=aa oa.out 1;have ZK:=aa oa.out 2;have YK:=aa oa.out 3;have XK:=aa oa.out 4;go_wp2_with (first|((with_reducible refine qb (f:=53) rfl ?_);refine Mc (some 29) rfl rfl Try.func53 (by kernel_rfl) rfl #[.int .i64 Kb,.int .i64 0,.int .i64 (wrap64 ((Fa.length:Int) - 1))] rfl (by (try simp only [List.map_toArray,List.map_cons,List.map_nil]);first|done|rfl|(simp only [List.length_drop,List.length_take];rfl)) ?_;(with_reducible refine (Xa.calls Kb 0 (wrap64 ((Fa.length:Int) - 1)) true _ bS.out).mono ?_);rintro e w' ⟨rfl,⟨nd,rfl⟩⟩;refine ⟨_,rfl,?_⟩)|((with_reducible refine qb (f:=53) rfl ?_);refine Mc (some 35) rfl rfl Try.func53 (by kernel_rfl) rfl #[.int .i64 Jb,.int .i64 0,.int .i64 (wrap64 (Ia - 1))] rfl (by (try simp only [List.map_toArray,List.map_cons,List.map_nil]);first|done|rfl|(simp only [List.length_drop,List.length_take];rfl)) ?_;(with_reducible refine (Xa.calls Jb 0 (wrap64 (Ia - 1)) true _ AO.out).mono ?_);rintro e w' ⟨rfl,⟨nd,rfl⟩⟩;refine ⟨_,rfl,?_⟩)|(go_at_call 53;(with_reducible refine (Xa.calls ec 0 (wrap64 ((Fa.length:Int) - 1)) t107 _ A34.out).mono ?_);rintro e w' ⟨rfl,⟨nd,rfl⟩⟩));go_ret;exact ⟨by first|rfl|(simp [Na,Ma] <;> rfl)|(simp [*,Na,Ma] <;> rfl),by repeat (first|(with_reducible first|exact HB.out|apply qa|apply ia|apply ta|refine ua ?_ Ta.out|refine ua ?_ uc.out)|exact HB.out)⟩
       ·replace yO:=Bool.eq_false_iff.mpr yO;subst yO;have H1:(some false)=some r:=by rw [if_neg (show ¬ (false=true) by decide)] at H;exact H
        clear H;have H:=H1;clear H1;obtain rfl:=Option.some.inj H;have sap:=Cb.out;have Gao:=Db.out;have wF:wr.cell? ⟨Ga,0,none⟩=some (.slice qf Nc.length jf):=(ga za.out 0).trans rfl;have vF:wr.cell? ⟨Ga,1,none⟩=some (.int .i64 Qb):=(ga za.out 1).trans rfl;have uF:wr.cell? ⟨Ga,2,none⟩=some (.int .i64 Jb):=(ga za.out 2).trans rfl;have sF:wr.cell? ⟨Ga,3,none⟩=some (.int .i64 Kb):=(ga za.out 3).trans rfl;have rF:wr.cell? ⟨Ga,4,none⟩=some (.int .i64 ec):=(ga za.out 4).trans rfl;have pE:=aa za.out 0;have oE:=aa za.out 1;have nE:=aa za.out 2;have mE:=aa za.out 3;have lE:=aa za.out 4;have Vw:wr.cell? ⟨ya,0,none⟩=some (.slice Za Ra.length gb):=(ga oa.out 0).trans rfl;have Uw:wr.cell? ⟨ya,1,none⟩=some (.int .i64 La):=(ga oa.out 1).trans rfl;have Tw:wr.cell? ⟨ya,2,none⟩=some (.int .i64 Ja):=(ga oa.out 2).trans rfl;have Sw:wr.cell? ⟨ya,3,none⟩=some (.int .i64 Ia):=(ga oa.out 3).trans rfl;have Rw:wr.cell? ⟨ya,4,none⟩=some (.slice Vb Fa.length Lb):=(ga oa.out 4).trans rfl;have Dw:=aa oa.out 0;have Cw:=aa oa.out 1;have Bw:=aa oa.out 2;have Aw:=aa oa.out 3;have zw:=aa oa.out 4;go_wp2_with (first|((with_reducible refine qb (f:=53) rfl ?_);refine Mc (some 29) rfl rfl Try.func53 (by kernel_rfl) rfl #[.int .i64 Kb,.int .i64 0,.int .i64 (wrap64 ((Fa.length:Int) - 1))] rfl (by (try simp only [List.map_toArray,List.map_cons,List.map_nil]);first|done|rfl|(simp only [List.length_drop,List.length_take];rfl)) ?_;(with_reducible refine (Xa.calls Kb 0 (wrap64 ((Fa.length:Int) - 1)) true _ bS.out).mono ?_);rintro e w' ⟨rfl,⟨nd,rfl⟩⟩;refine ⟨_,rfl,?_⟩)|((with_reducible refine qb (f:=53) rfl ?_);refine Mc (some 35) rfl rfl Try.func53 (by kernel_rfl) rfl #[.int .i64 Jb,.int .i64 0,.int .i64 (wrap64 (Ia - 1))] rfl (by (try simp only [List.map_toArray,List.map_cons,List.map_nil]);first|done|rfl|(simp only [List.length_drop,List.length_take];rfl)) ?_;(with_reducible refine (Xa.calls Jb 0 (wrap64 (Ia - 1)) false _ AO.out).mono ?_);rintro e w' ⟨rfl,⟨nd,rfl⟩⟩;refine ⟨_,rfl,?_⟩));go_ret;exact ⟨by first|rfl|(simp [Na,Ma] <;> rfl)|(simp [*,Na,Ma] <;> rfl),by repeat (first|(with_reducible first|exact HB.out|apply qa|apply ia|apply ta|refine ua ?_ Ta.out|refine ua ?_ uc.out)|exact HB.out)⟩
      ·replace c32:=Bool.eq_false_iff.mpr c32;subst c32;have H1:(some false)=some r:=by rw [if_neg (show ¬ (false=true) by decide)] at H;exact H
       clear H;have H:=H1;clear H1;obtain rfl:=Option.some.inj H;have j5:=Cb.out;have O4:=Db.out;have qF:wr.cell? ⟨Ga,0,none⟩=some (.slice qf Nc.length jf):=(ga za.out 0).trans rfl;have pF:wr.cell? ⟨Ga,1,none⟩=some (.int .i64 Qb):=(ga za.out 1).trans rfl;have oF:wr.cell? ⟨Ga,2,none⟩=some (.int .i64 Jb):=(ga za.out 2).trans rfl;have nF:wr.cell? ⟨Ga,3,none⟩=some (.int .i64 Kb):=(ga za.out 3).trans rfl;have mF:wr.cell? ⟨Ga,4,none⟩=some (.int .i64 ec):=(ga za.out 4).trans rfl;have kE:=aa za.out 0;have jE:=aa za.out 1;have iE:=aa za.out 2;have gE:=aa za.out 3;have fE:=aa za.out 4;have NL:wr.cell? ⟨ya,0,none⟩=some (.slice Za Ra.length gb):=(ga oa.out 0).trans rfl;have ML:wr.cell? ⟨ya,1,none⟩=some (.int .i64 La):=(ga oa.out 1).trans rfl;have LL:wr.cell? ⟨ya,2,none⟩=some (.int .i64 Ja):=(ga oa.out 2).trans rfl;have KL:wr.cell? ⟨ya,3,none⟩=some (.int .i64 Ia):=(ga oa.out 3).trans rfl;have JL:wr.cell? ⟨ya,4,none⟩=some (.slice Vb Fa.length Lb):=(ga oa.out 4).trans rfl;have LK:=aa oa.out 0;have KK:=aa oa.out 1;have JK:=aa oa.out 2;have IK:=aa oa.out 3;have GK:=aa oa.out 4;go_wp2_with (first|((with_reducible refine qb (f:=53) rfl ?_);refine Mc (some 29) rfl rfl Try.func53 (by kernel_rfl) rfl #[.int .i64 Kb,.int .i64 0,.int .i64 (wrap64 ((Fa.length:Int) - 1))] rfl (by (try simp only [List.map_toArray,List.map_cons,List.map_nil]);first|done|rfl|(simp only [List.length_drop,List.length_take];rfl)) ?_;(with_reducible refine (Xa.calls Kb 0 (wrap64 ((Fa.length:Int) - 1)) false _ bS.out).mono ?_);rintro e w' ⟨rfl,⟨nd,rfl⟩⟩;refine ⟨_,rfl,?_⟩)|((with_reducible refine qb (f:=53) rfl ?_);refine Mc (some 35) rfl rfl Try.func53 (by kernel_rfl) rfl #[.int .i64 Jb,.int .i64 0,.int .i64 (wrap64 (Ia - 1))] rfl (by (try simp only [List.map_toArray,List.map_cons,List.map_nil]);first|done|rfl|(simp only [List.length_drop,List.length_take];rfl)) ?_;(with_reducible refine (Xa.calls Jb 0 (wrap64 (Ia - 1)) t106 _ AO.out).mono ?_);rintro e w' ⟨rfl,⟨nd,rfl⟩⟩;refine ⟨_,rfl,?_⟩));go_ret;exact ⟨by first|rfl|(simp [Na,Ma] <;> rfl)|(simp [*,Na,Ma] <;> rfl),by repeat (first|(with_reducible first|exact HB.out|apply qa|apply ia|apply ta|refine ua ?_ Ta.out|refine ua ?_ uc.out)|exact HB.out)⟩
     ·rw [if_neg TW] at H;have kaa:(Qb == 1)=false:=beq_eq_false_iff_ne.mpr TW;have jaa:(Qb != 1)=true:=bne_iff_ne.mpr TW
      by_cases sJ:Qb=2
      ·rw [if_pos sJ] at H;have RQ:(Qb == 2)=true:=beq_iff_eq.mpr sJ;have OQ:(Qb != 2)=false:=bne_eq_false_iff_eq.mpr sJ;clear sJ
       by_cases sV:t106=true
       ·subst sV;have H1:(if Kb=0 then (some (ec == 0)) else (some false))=some r:=by rw [if_pos rfl] at H;exact H
        clear H;have H:=H1;clear H1
        by_cases rJ:Kb=0
        ·rw [if_pos rJ] at H;have NQ:(Kb == 0)=true:=beq_iff_eq.mpr rJ;have MQ:(Kb != 0)=false:=bne_eq_false_iff_eq.mpr rJ;clear rJ;obtain rfl:=Option.some.inj H;have pW:=Cb.out;have nW:=Db.out;have fF:wr.cell? ⟨Ga,0,none⟩=some (.slice qf Nc.length jf):=(ga za.out 0).trans rfl;have eF:wr.cell? ⟨Ga,1,none⟩=some (.int .i64 Qb):=(ga za.out 1).trans rfl;have dF:wr.cell? ⟨Ga,2,none⟩=some (.int .i64 Jb):=(ga za.out 2).trans rfl;have cF:wr.cell? ⟨Ga,3,none⟩=some (.int .i64 Kb):=(ga za.out 3).trans rfl;have bF:wr.cell? ⟨Ga,4,none⟩=some (.int .i64 ec):=(ga za.out 4).trans rfl;have YD:=aa za.out 0;have XD:=aa za.out 1;have WD:=aa za.out 2;have VD:=aa za.out 3;have UD:=aa za.out 4;have sU:wr.cell? ⟨ya,0,none⟩=some (.slice Za Ra.length gb):=(ga oa.out 0).trans rfl;have rU:wr.cell? ⟨ya,1,none⟩=some (.int .i64 La):=(ga oa.out 1).trans rfl;have qU:wr.cell? ⟨ya,2,none⟩=some (.int .i64 Ja):=(ga oa.out 2).trans rfl;have pU:wr.cell? ⟨ya,3,none⟩=some (.int .i64 Ia):=(ga oa.out 3).trans rfl;have oU:wr.cell? ⟨ya,4,none⟩=some (.slice Vb Fa.length Lb):=(ga oa.out 4).trans rfl;have fT:=aa oa.out 0;have eT:=aa oa.out 1;have cT:=aa oa.out 2;have bT:=aa oa.out 3;have aT:=aa oa.out 4;go_wp2_with (first|((with_reducible refine qb (f:=53) rfl ?_);refine Mc (some 29) rfl rfl Try.func53 (by kernel_rfl) rfl #[.int .i64 Kb,.int .i64 0,.int .i64 (wrap64 ((Fa.length:Int) - 1))] rfl (by (try simp only [List.map_toArray,List.map_cons,List.map_nil]);first|done|rfl|(simp only [List.length_drop,List.length_take];rfl)) ?_;(with_reducible refine (Xa.calls Kb 0 (wrap64 ((Fa.length:Int) - 1)) t105 _ bS.out).mono ?_);rintro e w' ⟨rfl,⟨nd,rfl⟩⟩;refine ⟨_,rfl,?_⟩)|((with_reducible refine qb (f:=53) rfl ?_);refine Mc (some 35) rfl rfl Try.func53 (by kernel_rfl) rfl #[.int .i64 Jb,.int .i64 0,.int .i64 (wrap64 (Ia - 1))] rfl (by (try simp only [List.map_toArray,List.map_cons,List.map_nil]);first|done|rfl|(simp only [List.length_drop,List.length_take];rfl)) ?_;(with_reducible refine (Xa.calls Jb 0 (wrap64 (Ia - 1)) true _ AO.out).mono ?_);rintro e w' ⟨rfl,⟨nd,rfl⟩⟩;refine ⟨_,rfl,?_⟩));go_ret;exact ⟨by first|rfl|(simp [Na,Ma] <;> rfl)|(simp [*,Na,Ma] <;> rfl),by repeat (first|(with_reducible first|exact HB.out|apply qa|apply ia|apply ta|refine ua ?_ Ta.out|refine ua ?_ uc.out)|exact HB.out)⟩
        ·rw [if_neg rJ] at H;have NQ:(Kb == 0)=false:=beq_eq_false_iff_ne.mpr rJ;have MQ:(Kb != 0)=true:=bne_iff_ne.mpr rJ;obtain rfl:=Option.some.inj H;have nap:=Cb.out;have Cao:=Db.out;have fai:wr.cell? ⟨Ga,0,none⟩=some (.slice qf Nc.length jf):=(ga za.out 0).trans rfl;have eai:wr.cell? ⟨Ga,1,none⟩=some (.int .i64 Qb):=(ga za.out 1).trans rfl;have dai:wr.cell? ⟨Ga,2,none⟩=some (.int .i64 Jb):=(ga za.out 2).trans rfl;have cai:wr.cell? ⟨Ga,3,none⟩=some (.int .i64 Kb):=(ga za.out 3).trans rfl;have bai:wr.cell? ⟨Ga,4,none⟩=some (.int .i64 ec):=(ga za.out 4).trans rfl;have Vae:=aa za.out 0;have Uae:=aa za.out 1;have Tae:=aa za.out 2;have Sae:=aa za.out 3;have Rae:=aa za.out 4;have XE:wr.cell? ⟨ya,0,none⟩=some (.slice Za Ra.length gb):=(ga oa.out 0).trans rfl;have WE:wr.cell? ⟨ya,1,none⟩=some (.int .i64 La):=(ga oa.out 1).trans rfl;have VE:wr.cell? ⟨ya,2,none⟩=some (.int .i64 Ja):=(ga oa.out 2).trans rfl;have UE:wr.cell? ⟨ya,3,none⟩=some (.int .i64 Ia):=(ga oa.out 3).trans rfl;have SE:wr.cell? ⟨ya,4,none⟩=some (.slice Vb Fa.length Lb):=(ga oa.out 4).trans rfl;have RD:=aa oa.out 0;have QD:=aa oa.out 1;have PD:=aa oa.out 2;have OD:=aa oa.out 3;have ND:=aa oa.out 4;go_wp2_with (first|((with_reducible refine qb (f:=53) rfl ?_);refine Mc (some 29) rfl rfl Try.func53 (by kernel_rfl) rfl #[.int .i64 Kb,.int .i64 0,.int .i64 (wrap64 ((Fa.length:Int) - 1))] rfl (by (try simp only [List.map_toArray,List.map_cons,List.map_nil]);first|done|rfl|(simp only [List.length_drop,List.length_take];rfl)) ?_;(with_reducible refine (Xa.calls Kb 0 (wrap64 ((Fa.length:Int) - 1)) t105 _ bS.out).mono ?_);rintro e w' ⟨rfl,⟨nd,rfl⟩⟩;refine ⟨_,rfl,?_⟩)|((with_reducible refine qb (f:=53) rfl ?_);refine Mc (some 35) rfl rfl Try.func53 (by kernel_rfl) rfl #[.int .i64 Jb,.int .i64 0,.int .i64 (wrap64 (Ia - 1))] rfl (by (try simp only [List.map_toArray,List.map_cons,List.map_nil]);first|done|rfl|(simp only [List.length_drop,List.length_take];rfl)) ?_;(with_reducible refine (Xa.calls Jb 0 (wrap64 (Ia - 1)) true _ AO.out).mono ?_);rintro e w' ⟨rfl,⟨nd,rfl⟩⟩;refine ⟨_,rfl,?_⟩));go_ret;exact ⟨by first|rfl|(simp [Na,Ma] <;> rfl)|(simp [*,Na,Ma] <;> rfl),by repeat (first|(with_reducible first|exact HB.out|apply qa|apply ia|apply ta|refine ua ?_ Ta.out|refine ua ?_ uc.out)|exact HB.out)⟩
       ·replace sV:=Bool.eq_false_iff.mpr sV;subst sV;have H1:(some false)=some r:=by rw [if_neg (show ¬ (false=true) by decide)] at H;exact H
        clear H;have H:=H1;clear H1;obtain rfl:=Option.some.inj H;have lap:=Cb.out;have Bao:=Db.out;have Tah:wr.cell? ⟨Ga,0,none⟩=some (.slice qf Nc.length jf):=(ga za.out 0).trans rfl;have Sah:wr.cell? ⟨Ga,1,none⟩=some (.int .i64 Qb):=(ga za.out 1).trans rfl;have Rah:wr.cell? ⟨Ga,2,none⟩=some (.int .i64 Jb):=(ga za.out 2).trans rfl;have Qah:wr.cell? ⟨Ga,3,none⟩=some (.int .i64 Kb):=(ga za.out 3).trans rfl;have Pah:wr.cell? ⟨Ga,4,none⟩=some (.int .i64 ec):=(ga za.out 4).trans rfl;have Jae:=aa za.out 0;have Iae:=aa za.out 1;have Hae:=aa za.out 2;have Gae:=aa za.out 3;have Fae:=aa za.out 4;have Oah:wr.cell? ⟨ya,0,none⟩=some (.slice Za Ra.length gb):=(ga oa.out 0).trans rfl;have Nah:wr.cell? ⟨ya,1,none⟩=some (.int .i64 La):=(ga oa.out 1).trans rfl;have Mah:wr.cell? ⟨ya,2,none⟩=some (.int .i64 Ja):=(ga oa.out 2).trans rfl;have Lah:wr.cell? ⟨ya,3,none⟩=some (.int .i64 Ia):=(ga oa.out 3).trans rfl;have Kah:wr.cell? ⟨ya,4,none⟩=some (.slice Vb Fa.length Lb):=(ga oa.out 4).trans rfl;have Eae:=aa oa.out 0;have Dae:=aa oa.out 1;have Cae:=aa oa.out 2;have Bae:=aa oa.out 3;have Aae:=aa oa.out 4;go_wp2_with (first|((with_reducible refine qb (f:=53) rfl ?_);refine Mc (some 29) rfl rfl Try.func53 (by kernel_rfl) rfl #[.int .i64 Kb,.int .i64 0,.int .i64 (wrap64 ((Fa.length:Int) - 1))] rfl (by (try simp only [List.map_toArray,List.map_cons,List.map_nil]);first|done|rfl|(simp only [List.length_drop,List.length_take];rfl)) ?_;(with_reducible refine (Xa.calls Kb 0 (wrap64 ((Fa.length:Int) - 1)) t105 _ bS.out).mono ?_);rintro e w' ⟨rfl,⟨nd,rfl⟩⟩;refine ⟨_,rfl,?_⟩)|((with_reducible refine qb (f:=53) rfl ?_);refine Mc (some 35) rfl rfl Try.func53 (by kernel_rfl) rfl #[.int .i64 Jb,.int .i64 0,.int .i64 (wrap64 (Ia - 1))] rfl (by (try simp only [List.map_toArray,List.map_cons,List.map_nil]);first|done|rfl|(simp only [List.length_drop,List.length_take];rfl)) ?_;(with_reducible refine (Xa.calls Jb 0 (wrap64 (Ia - 1)) false _ AO.out).mono ?_);rintro e w' ⟨rfl,⟨nd,rfl⟩⟩;refine ⟨_,rfl,?_⟩));go_ret;exact ⟨by first|rfl|(simp [Na,Ma] <;> rfl)|(simp [*,Na,Ma] <;> rfl),by repeat (first|(with_reducible first|exact HB.out|apply qa|apply ia|apply ta|refine ua ?_ Ta.out|refine ua ?_ uc.out)|exact HB.out)⟩
      ·rw [if_neg sJ] at H;have RQ:(Qb == 2)=false:=beq_eq_false_iff_ne.mpr sJ;have OQ:(Qb != 2)=true:=bne_iff_ne.mpr sJ;obtain rfl:=Option.some.inj H;have kap:=Cb.out;have Aao:=Db.out;have Jah:wr.cell? ⟨Ga,0,none⟩=some (.slice qf Nc.length jf):=(ga za.out 0).trans rfl;have Iah:wr.cell? ⟨Ga,1,none⟩=some (.int .i64 Qb):=(ga za.out 1).trans rfl;have Hah:wr.cell? ⟨Ga,2,none⟩=some (.int .i64 Jb):=(ga za.out 2).trans rfl;have Gah:wr.cell? ⟨Ga,3,none⟩=some (.int .i64 Kb):=(ga za.out 3).trans rfl;have Fah:wr.cell? ⟨Ga,4,none⟩=some (.int .i64 ec):=(ga za.out 4).trans rfl;have zae:=aa za.out 0;have yae:=aa za.out 1;have xae:=aa za.out 2;have wae:=aa za.out 3;have vae:=aa za.out 4;have iU:wr.cell? ⟨ya,0,none⟩=some (.slice Za Ra.length gb):=(ga oa.out 0).trans rfl;have hU:wr.cell? ⟨ya,1,none⟩=some (.int .i64 La):=(ga oa.out 1).trans rfl;have gU:wr.cell? ⟨ya,2,none⟩=some (.int .i64 Ja):=(ga oa.out 2).trans rfl;have fU:wr.cell? ⟨ya,3,none⟩=some (.int .i64 Ia):=(ga oa.out 3).trans rfl;have eU:wr.cell? ⟨ya,4,none⟩=some (.slice Vb Fa.length Lb):=(ga oa.out 4).trans rfl;have US:=aa oa.out 0;have TS:=aa oa.out 1;have SS:=aa oa.out 2;have RS:=aa oa.out 3;have QS:=aa oa.out 4;go_wp2_with (first|((with_reducible refine qb (f:=53) rfl ?_);refine Mc (some 29) rfl rfl Try.func53 (by kernel_rfl) rfl #[.int .i64 Kb,.int .i64 0,.int .i64 (wrap64 ((Fa.length:Int) - 1))] rfl (by (try simp only [List.map_toArray,List.map_cons,List.map_nil]);first|done|rfl|(simp only [List.length_drop,List.length_take];rfl)) ?_;(with_reducible refine (Xa.calls Kb 0 (wrap64 ((Fa.length:Int) - 1)) t105 _ bS.out).mono ?_);rintro e w' ⟨rfl,⟨nd,rfl⟩⟩;refine ⟨_,rfl,?_⟩)|((with_reducible refine qb (f:=53) rfl ?_);refine Mc (some 35) rfl rfl Try.func53 (by kernel_rfl) rfl #[.int .i64 Jb,.int .i64 0,.int .i64 (wrap64 (Ia - 1))] rfl (by (try simp only [List.map_toArray,List.map_cons,List.map_nil]);first|done|rfl|(simp only [List.length_drop,List.length_take];rfl)) ?_;(with_reducible refine (Xa.calls Jb 0 (wrap64 (Ia - 1)) t106 _ AO.out).mono ?_);rintro e w' ⟨rfl,⟨nd,rfl⟩⟩;refine ⟨_,rfl,?_⟩));go_ret;exact ⟨by first|rfl|(simp [Na,Ma] <;> rfl)|(simp [*,Na,Ma] <;> rfl),by repeat (first|(with_reducible first|exact HB.out|apply qa|apply ia|apply ta|refine ua ?_ Ta.out|refine ua ?_ uc.out)|exact HB.out)⟩
mutual
def Wa.l0:Nat→Int→List Int→Int→Int→Int→List (We)→Option (Bool)
 | 0,_,_,_,_,_,_=>none
 | k + 1,x3,jc,Ec,tc,oc,Rb=>if x3 < (jc.length:Int) then (if 0 ≤ x3 then ((Xa.f (rd jc x3) 1 16).bind fun t103=>(if t103=true then (Wa.l0 k (wrap64 (x3 + 1)) jc Ec tc oc Rb) else (some false))) else (none)) else ((Xa.f (jc.length:Int) 1 4).bind fun t104=>(if t104=true then ((Xa.f tc 0 20).bind fun t105=>(if t105=true then ((Xa.f Ec 0 6).bind fun t106=>(if t106=true then (if Ec > tc then (Wa.j1 k true jc Ec tc oc Rb) else ((Xa.f oc tc 1000).bind fun t107=>(if t107=true then ((Xa.f (Rb.length:Int) 1 300).bind fun t108=>(Wa.j1 k (!t108) jc Ec tc oc Rb)) else (Wa.j1 k true jc Ec tc oc Rb)))) else (Wa.j1 k true jc Ec tc oc Rb))) else (Wa.j1 k true jc Ec tc oc Rb))) else (Wa.j1 k true jc Ec tc oc Rb)))
def Wa.j1:Nat→Bool→List Int→Int→Int→Int→List (We)→Option (Bool)
 | 0,_,_,_,_,_,_=>none
 | k + 1,x58,jc,Ec,tc,oc,Rb=>if x58=true then (some false) else (Wa.l1 k 0 0 jc Ec tc oc Rb)
def Wa.l1:Nat→Int→Int→List Int→Int→Int→Int→List (We)→Option (Bool)
 | 0,_,_,_,_,_,_,_=>none
 | k + 1,x4,x5,jc,Ec,tc,oc,Rb=>if x5 < (Rb.length:Int) then (if 0 ≤ x5 then (if (wrap64 (x4 + (((Oa Rb x5).f0).length:Int))) > 1000 then (some false) else ((ic.f k jc Ec tc oc Rb ((Oa Rb x5).f0) ((Oa Rb x5).f1) ((Oa Rb x5).f2) ((Oa Rb x5).f3) ((Oa Rb x5).f4)).bind fun t111=>(if t111=true then (Wa.l1 k (wrap64 (x4 + (((Oa Rb x5).f0).length:Int))) (wrap64 (x5 + 1)) jc Ec tc oc Rb) else (some false)))) else (none)) else (some true)
end
def Wa.f (k:Nat) (Ra:List Int) (La:Int) (Ja:Int) (Ia:Int) (Fa:List (We)):Option (Bool):=Wa.l0 k 0 Ra La Ja Ia Fa
def Wa.T13:Bool × List (List Nat × List Nat):=(true,[([],[]),([0],[0]),([1],[1]),([2],[2]),([2],[2]),([4,2],[2,4]),([2],[2]),([5,6,2],[2,5,6]),([7,2],[2,7]),([3,8,2,2],[2,3,8]),([9,2],[2,9]),([2,10],[2,10])])
def Wa.B13:List Nat:=[0,1,3,7,7,23,7,119,247,511,1023,2047]
theorem Wa.OO:Lm .any (opsOf Try.f40 13)=Wa.T13:=by kernel_rfl
theorem Wa.BJ:rm Wa.T13.2 Wa.B13=true:=by kernel_rfl
theorem Wa.calls (k:Nat) (Za:Option Addr) (gb:Nat) (Ra:List Int) (La:Int) (Ja:Int) (Ia:Int) (Vb:Option Addr) (Lb:Nat) (Fa:List (We)) (r:Bool) (w:World) (Zd:Kd.C (Kd.int .i64) w Za Ra.length Ra) (Xd:Ra.length ≤ gb) (Tf:Kd.C Kp w Vb Fa.length Fa) (Kf:Fa.length ≤ Lb) (h:Wa.f k Ra La Ja Ia Fa=some r) :
  Calls Try.prog 40 #[.agg #[.slice Za Ra.length gb,.int .i64 La,.int .i64 Ja,.int .i64 Ia,.slice Vb Fa.length Lb]] w fun e w'=>e = .returned (.bool r)∧Below w.heap.size w w':=by
 have vC:=Try.underlying30;have gy:=Try.underlying59;have He:=ja.mk Zd;have Me:=ja.mk Xd;clear Zd Xd;have Uf:=ja.mk Tf;have Ug:=ja.mk Kf;clear Tf Kf;have HB:=ja.mk (Below.refl w.heap.size w);have H:(Wa.l0 k 0 Ra La Ja Ia Fa)=some r:=h;clear h;have H':=ja.mk H;clear H;go_enter Try.func40,Try.ntmps40;go_wp2_with (first|((with_reducible refine xb (N:=1) rfl ?_);(try (refine ug (by rfl) ?_;dsimp only));refine Fb ?hg (N:=1) ?hd (cs:=#[.slice Za Ra.length gb,.int .i64 La,.int .i64 Ja,.int .i64 Ia,.slice Vb Fa.length Lb]) (t:=30) ?hr ?_;(case hd=>rfl);(case hg=>rfl);(case hr=>first|(go_simp;done)|(go_simp;rfl));intro ya hg w2 Pb hb;have Bb:=ja.mk (Qa (by repeat (first|(with_reducible first|exact HB.out|apply qa|apply ia|apply ta)|exact HB.out)) hb);have Gb:=ja.mk (Pb);have Nb:=ja.mk ((by rw [hg];exact (Ka (by repeat (first|(with_reducible first|exact HB.out|apply qa|apply ia|apply ta)|exact HB.out))):w.heap.size ≤ ya));have Dc:=ja.mk ((by rw [hg];exact (Ka (by repeat (first|(with_reducible first|exact HB.out|apply qa|apply ia|apply ta)|exact HB.out))):w.heap.size ≤ ya));clear HB;have HB:=Bb;have oa:=Gb;have Ad:=Nb;have Ta:=Dc;clear Bb Gb Nb Dc hb Pb hg))
 go_loopg [3] k (fun kq v3 w'=>∃ (Od:Int),v3 = .int .i64 Od∧ja (Wa.l0 kq Od Ra La Ja Ia Fa=some r)∧ja (kq ≤ k)∧ja (w'.heap[ya]? = some (.cells #[(.slice Za Ra.length gb),.int .i64 La,.int .i64 Ja,.int .i64 Ia,(.slice Vb Fa.length Lb)] 30 (0,0)))∧ja (Below w.heap.size w w'))
 case atStart=>exact ⟨(0),(by first|rfl|(simp;done)|(simp [*];done)),H',⟨Nat.le_refl _⟩,⟨by (with_reducible repeat (first|refine Aa ?_ _|refine Da ?_|refine Ba ?_ _));exact oa.out⟩,⟨by repeat (first|(with_reducible first|exact HB.out|apply qa|apply ia|apply ta|refine ua ?_ Ta.out)|exact HB.out)⟩⟩
 case round =>
  clear H'
  try clear p2
  (try clear HA);(try clear qg);(try clear oa);(try clear HB);obtain ⟨Od,rfl,HA,qg,oa,HB⟩:=hrel;cases gk with
  | zero=>exact absurd HA.out (by simp [Wa.l0])
  | succ k1 =>
   have H:=HA.out;clear HA;simp only [Wa.l0] at H
   by_cases c3:Od < (Ra.length:Int)
   ·rw [if_pos c3] at H;have Wg:decide (Od < (Ra.length:Int))=true:=decide_eq_true c3;clear c3
    by_cases c4:0 ≤ Od
    ·rw [if_pos c4] at H;have tj:decide (0 ≤ Od)=true:=decide_eq_true c4;clear c4;replace H:=Option.bind_eq_some_iff.mp H;obtain ⟨t103,SX,H⟩:=H;replace H:(if t103=true then (Wa.l0 k1 (wrap64 (Od + 1)) Ra La Ja Ia Fa) else (some false))=some r:=H;have A5:=ja.mk SX;clear SX
     by_cases c6:t103=true
     ·subst c6;have H1:(Wa.l0 k1 (wrap64 (Od + 1)) Ra La Ja Ia Fa)=some r:=by rw [if_pos rfl] at H;exact H
      clear H;have H:=H1;clear H1;have H':=ja.mk H;clear H;have Hq:wr.cell? ⟨ya,0,none⟩=some (.slice Za Ra.length gb):=(ga oa.out 0).trans rfl;have Gq:wr.cell? ⟨ya,1,none⟩=some (.int .i64 La):=(ga oa.out 1).trans rfl;have Fq:wr.cell? ⟨ya,2,none⟩=some (.int .i64 Ja):=(ga oa.out 2).trans rfl;have Dq:wr.cell? ⟨ya,3,none⟩=some (.int .i64 Ia):=(ga oa.out 3).trans rfl;have Cq:wr.cell? ⟨ya,4,none⟩=some (.slice Vb Fa.length Lb):=(ga oa.out 4).trans rfl;have uq:=aa oa.out 0;have sq:=aa oa.out 1;have rq:=aa oa.out 2;have qq:=aa oa.out 3;have pq:=aa oa.out 4;have Fh:0 ≤ (Od:Int):=Ua;have Eh:Od < (Ra.length:Int):=Ua;obtain ⟨Te,Sq,Ye⟩:=Kd.ek He.out Od Fh Eh;cases Sq;replace Ye:=Pa HB.out Ye;replace Fh:=eq_true Fh;replace Eh:=eq_true Eh;go_wp2_with (first|((with_reducible refine qb (f:=53) rfl ?_);refine Mc (some 18) rfl rfl Try.func53 (by kernel_rfl) rfl #[.int .i64 (rd Ra Od),.int .i64 1,.int .i64 16] rfl (by (try simp only [List.map_toArray,List.map_cons,List.map_nil]);first|done|rfl|(simp only [List.length_drop,List.length_take];rfl)) ?_;(with_reducible refine (Xa.calls (rd Ra Od) 1 16 true _ A5.out).mono ?_);rintro e w' ⟨rfl,⟨nd,rfl⟩⟩;refine ⟨_,rfl,?_⟩))
      go_roundg k1
      case measure=>have:=qg.out;omega
      case rel=>exact ⟨(wrap64 (Od + 1)),(by first|rfl|(simp;done)|(simp [*];done)),H',⟨by have:=qg.out;omega⟩,⟨by (with_reducible repeat (first|refine Aa ?_ _|refine Da ?_|refine Ba ?_ _));exact oa.out⟩,⟨by repeat (first|(with_reducible first|exact HB.out|apply qa|apply ia|apply ta|refine ua ?_ Ta.out)|exact HB.out)⟩⟩
     ·replace c6:=Bool.eq_false_iff.mpr c6;subst c6;have H1:(some false)=some r:=by rw [if_neg (show ¬ (false=true) by decide)] at H;exact H
      clear H;have H:=H1;clear H1;obtain rfl:=Option.some.inj H;have Qu:wr.cell? ⟨ya,0,none⟩=some (.slice Za Ra.length gb):=(ga oa.out 0).trans rfl;have Pu:wr.cell? ⟨ya,1,none⟩=some (.int .i64 La):=(ga oa.out 1).trans rfl;have Ou:wr.cell? ⟨ya,2,none⟩=some (.int .i64 Ja):=(ga oa.out 2).trans rfl;have Nu:wr.cell? ⟨ya,3,none⟩=some (.int .i64 Ia):=(ga oa.out 3).trans rfl;have Mu:wr.cell? ⟨ya,4,none⟩=some (.slice Vb Fa.length Lb):=(ga oa.out 4).trans rfl;have Lu:=aa oa.out 0;have Ku:=aa oa.out 1;have Ju:=aa oa.out 2;have Iu:=aa oa.out 3;have Hu:=aa oa.out 4;have Fh:0 ≤ (Od:Int):=Ua;have Eh:Od < (Ra.length:Int):=Ua;obtain ⟨Te,Sq,Ye⟩:=Kd.ek He.out Od Fh Eh;cases Sq;replace Ye:=Pa HB.out Ye;replace Fh:=eq_true Fh;replace Eh:=eq_true Eh;go_wp2_with (first|((with_reducible refine qb (f:=53) rfl ?_);refine Mc (some 18) rfl rfl Try.func53 (by kernel_rfl) rfl #[.int .i64 (rd Ra Od),.int .i64 1,.int .i64 16] rfl (by (try simp only [List.map_toArray,List.map_cons,List.map_nil]);first|done|rfl|(simp only [List.length_drop,List.length_take];rfl)) ?_;(with_reducible refine (Xa.calls (rd Ra Od) 1 16 false _ A5.out).mono ?_);rintro e w' ⟨rfl,⟨nd,rfl⟩⟩;refine ⟨_,rfl,?_⟩));go_ret;exact ⟨by first|rfl|(simp [Na,Ma] <;> rfl)|(simp [*,Na,Ma] <;> rfl),by repeat (first|(with_reducible first|exact HB.out|apply qa|apply ia|apply ta|refine ua ?_ Ta.out)|exact HB.out)⟩
    ·rw [if_neg c4] at H;exact absurd H (by simp)
   ·rw [if_neg c3] at H;have Wg:decide (Od < (Ra.length:Int))=false:=decide_eq_false c3;clear c3;have HC9:=ja.mk H;clear H;have uh:wr.cell? ⟨ya,0,none⟩=some (.slice Za Ra.length gb):=(ga oa.out 0).trans rfl;have th:wr.cell? ⟨ya,1,none⟩=some (.int .i64 La):=(ga oa.out 1).trans rfl;have qh:wr.cell? ⟨ya,2,none⟩=some (.int .i64 Ja):=(ga oa.out 2).trans rfl;have oh:wr.cell? ⟨ya,3,none⟩=some (.int .i64 Ia):=(ga oa.out 3).trans rfl;have nh:wr.cell? ⟨ya,4,none⟩=some (.slice Vb Fa.length Lb):=(ga oa.out 4).trans rfl;have mh:=aa oa.out 0;have jh:=aa oa.out 1;have gh:=aa oa.out 2;have fh:=aa oa.out 3;have dh:=aa oa.out 4
    go_upto_region 6 with (fail)
    go_cut [58] (fun v58 wc=>∃ (kq:Nat) (PJ:Bool),v58 = .bool PJ∧ja (Wa.j1 kq PJ Ra La Ja Ia Fa=some r)∧ja (kq ≤ k1)∧ja (wc.heap[ya]? = some (.cells #[(.slice Za Ra.length gb),.int .i64 La,.int .i64 Ja,.int .i64 Ia,(.slice Vb Fa.length Lb)] 30 (0,0)))∧ja (Below w.heap.size w wc))
    case first =>
     have H:=HC9.out;clear HC9;replace H:=Option.bind_eq_some_iff.mp H;obtain ⟨t104,fI,H⟩:=H;replace H:(if t104=true then ((Xa.f Ja 0 20).bind fun t105=>(if t105=true then ((Xa.f La 0 6).bind fun t106=>(if t106=true then (if La > Ja then (Wa.j1 k1 true Ra La Ja Ia Fa) else ((Xa.f Ia Ja 1000).bind fun t107=>(if t107=true then ((Xa.f (Fa.length:Int) 1 300).bind fun t108=>(Wa.j1 k1 (!t108) Ra La Ja Ia Fa)) else (Wa.j1 k1 true Ra La Ja Ia Fa)))) else (Wa.j1 k1 true Ra La Ja Ia Fa))) else (Wa.j1 k1 true Ra La Ja Ia Fa))) else (Wa.j1 k1 true Ra La Ja Ia Fa))=some r:=H;have cS:=ja.mk fI;clear fI
     by_cases Ky:t104=true
     ·subst Ky;have H1:((Xa.f Ja 0 20).bind fun t105=>(if t105=true then ((Xa.f La 0 6).bind fun t106=>(if t106=true then (if La > Ja then (Wa.j1 k1 true Ra La Ja Ia Fa) else ((Xa.f Ia Ja 1000).bind fun t107=>(if t107=true then ((Xa.f (Fa.length:Int) 1 300).bind fun t108=>(Wa.j1 k1 (!t108) Ra La Ja Ia Fa)) else (Wa.j1 k1 true Ra La Ja Ia Fa)))) else (Wa.j1 k1 true Ra La Ja Ia Fa))) else (Wa.j1 k1 true Ra La Ja Ia Fa)))=some r:=by rw [if_pos rfl] at H;exact H
      clear H;have H:=H1;clear H1;replace H:=Option.bind_eq_some_iff.mp H;obtain ⟨t105,lac,H⟩:=H;replace H:(if t105=true then ((Xa.f La 0 6).bind fun t106=>(if t106=true then (if La > Ja then (Wa.j1 k1 true Ra La Ja Ia Fa) else ((Xa.f Ia Ja 1000).bind fun t107=>(if t107=true then ((Xa.f (Fa.length:Int) 1 300).bind fun t108=>(Wa.j1 k1 (!t108) Ra La Ja Ia Fa)) else (Wa.j1 k1 true Ra La Ja Ia Fa)))) else (Wa.j1 k1 true Ra La Ja Ia Fa))) else (Wa.j1 k1 true Ra La Ja Ia Fa))=some r:=H;have A13:=ja.mk lac;clear lac
      by_cases I3:t105=true
      ·subst I3;have H1:((Xa.f La 0 6).bind fun t106=>(if t106=true then (if La > Ja then (Wa.j1 k1 true Ra La Ja Ia Fa) else ((Xa.f Ia Ja 1000).bind fun t107=>(if t107=true then ((Xa.f (Fa.length:Int) 1 300).bind fun t108=>(Wa.j1 k1 (!t108) Ra La Ja Ia Fa)) else (Wa.j1 k1 true Ra La Ja Ia Fa)))) else (Wa.j1 k1 true Ra La Ja Ia Fa)))=some r:=by rw [if_pos rfl] at H;exact H
       clear H;have H:=H1;clear H1;replace H:=Option.bind_eq_some_iff.mp H;obtain ⟨t106,eI,H⟩:=H;replace H:(if t106=true then (if La > Ja then (Wa.j1 k1 true Ra La Ja Ia Fa) else ((Xa.f Ia Ja 1000).bind fun t107=>(if t107=true then ((Xa.f (Fa.length:Int) 1 300).bind fun t108=>(Wa.j1 k1 (!t108) Ra La Ja Ia Fa)) else (Wa.j1 k1 true Ra La Ja Ia Fa)))) else (Wa.j1 k1 true Ra La Ja Ia Fa))=some r:=H;have VX:=ja.mk eI;clear eI
       by_cases LH:t106=true
       ·subst LH;have H1:(if La > Ja then (Wa.j1 k1 true Ra La Ja Ia Fa) else ((Xa.f Ia Ja 1000).bind fun t107=>(if t107=true then ((Xa.f (Fa.length:Int) 1 300).bind fun t108=>(Wa.j1 k1 (!t108) Ra La Ja Ia Fa)) else (Wa.j1 k1 true Ra La Ja Ia Fa))))=some r:=by rw [if_pos rfl] at H;exact H
        clear H;have H:=H1;clear H1
        by_cases Qp:La > Ja
        ·rw [if_pos Qp] at H;have en:decide (Ja < La)=true:=decide_eq_true Qp;clear Qp;(first|rw [en]|(simp only [Yb,Zb];rw [en])|skip);have H':=ja.mk H;clear H;have bu:wr.cell? ⟨ya,0,none⟩=some (.slice Za Ra.length gb):=(ga oa.out 0).trans rfl;have au:wr.cell? ⟨ya,1,none⟩=some (.int .i64 La):=(ga oa.out 1).trans rfl;have Zt:wr.cell? ⟨ya,2,none⟩=some (.int .i64 Ja):=(ga oa.out 2).trans rfl;have Yt:wr.cell? ⟨ya,3,none⟩=some (.int .i64 Ia):=(ga oa.out 3).trans rfl;have Xt:wr.cell? ⟨ya,4,none⟩=some (.slice Vb Fa.length Lb):=(ga oa.out 4).trans rfl;have Bt:=aa oa.out 0;have yt:=aa oa.out 1;have vt:=aa oa.out 2;have qt:=aa oa.out 3;have ot:=aa oa.out 4;go_wp2_with (first|((with_reducible refine qb (f:=53) rfl ?_);refine Mc (some 23) rfl rfl Try.func53 (by kernel_rfl) rfl #[.int .i64 (Ra.length:Int),.int .i64 1,.int .i64 4] rfl (by (try simp only [List.map_toArray,List.map_cons,List.map_nil]);first|done|rfl|(simp only [List.length_drop,List.length_take];rfl)) ?_;(with_reducible refine (Xa.calls (Ra.length:Int) 1 4 true _ cS.out).mono ?_);rintro e w' ⟨rfl,⟨nd,rfl⟩⟩;refine ⟨_,rfl,?_⟩)|(go_at_call 53;(with_reducible refine (Xa.calls Ja 0 20 true _ A13.out).mono ?_);rintro e w' ⟨rfl,⟨nd,rfl⟩⟩)|(go_at_call 53;(with_reducible refine (Xa.calls La 0 6 true _ VX.out).mono ?_);rintro e w' ⟨rfl,⟨nd,rfl⟩⟩))
         go_meet
         case rel=>exact ⟨_,(true),(by first|rfl|(simp;done)|(simp [*];done)),H',⟨by have:=qg.out;first|omega|exact Nat.le_refl _⟩,⟨by (with_reducible repeat (first|refine Aa ?_ _|refine Da ?_|refine Ba ?_ _));exact oa.out⟩,⟨by repeat (first|(with_reducible first|exact HB.out|apply qa|apply ia|apply ta|refine ua ?_ Ta.out)|exact HB.out)⟩⟩
        ·rw [if_neg Qp] at H;have en:decide (Ja < La)=false:=decide_eq_false Qp;clear Qp;(first|rw [en]|(simp only [Yb,Zb];rw [en])|skip);replace H:=Option.bind_eq_some_iff.mp H;obtain ⟨t107,iac,H⟩:=H;replace H:(if t107=true then ((Xa.f (Fa.length:Int) 1 300).bind fun t108=>(Wa.j1 k1 (!t108) Ra La Ja Ia Fa)) else (Wa.j1 k1 true Ra La Ja Ia Fa))=some r:=H;have A19:=ja.mk iac;clear iac
         by_cases Yp:t107=true
         ·subst Yp;have H1:((Xa.f (Fa.length:Int) 1 300).bind fun t108=>(Wa.j1 k1 (!t108) Ra La Ja Ia Fa))=some r:=by rw [if_pos rfl] at H;exact H
          clear H;have H:=H1;clear H1;replace H:=Option.bind_eq_some_iff.mp H;obtain ⟨t108,gac,H⟩:=H;replace H:(Wa.j1 k1 (!t108) Ra La Ja Ia Fa)=some r:=H;have A21:=ja.mk gac;clear gac;have H':=ja.mk H;clear H;have ax:wr.cell? ⟨ya,0,none⟩=some (.slice Za Ra.length gb):=(ga oa.out 0).trans rfl;have Zw:wr.cell? ⟨ya,1,none⟩=some (.int .i64 La):=(ga oa.out 1).trans rfl;have Yw:wr.cell? ⟨ya,2,none⟩=some (.int .i64 Ja):=(ga oa.out 2).trans rfl;have Xw:wr.cell? ⟨ya,3,none⟩=some (.int .i64 Ia):=(ga oa.out 3).trans rfl;have Ww:wr.cell? ⟨ya,4,none⟩=some (.slice Vb Fa.length Lb):=(ga oa.out 4).trans rfl;have Iw:=aa oa.out 0;have Hw:=aa oa.out 1;have Gw:=aa oa.out 2;have Fw:=aa oa.out 3;have Ew:=aa oa.out 4;go_wp2_with (first|((with_reducible refine qb (f:=53) rfl ?_);refine Mc (some 23) rfl rfl Try.func53 (by kernel_rfl) rfl #[.int .i64 (Ra.length:Int),.int .i64 1,.int .i64 4] rfl (by (try simp only [List.map_toArray,List.map_cons,List.map_nil]);first|done|rfl|(simp only [List.length_drop,List.length_take];rfl)) ?_;(with_reducible refine (Xa.calls (Ra.length:Int) 1 4 true _ cS.out).mono ?_);rintro e w' ⟨rfl,⟨nd,rfl⟩⟩;refine ⟨_,rfl,?_⟩)|(go_at_call 53;(with_reducible refine (Xa.calls Ja 0 20 true _ A13.out).mono ?_);rintro e w' ⟨rfl,⟨nd,rfl⟩⟩)|(go_at_call 53;(with_reducible refine (Xa.calls La 0 6 true _ VX.out).mono ?_);rintro e w' ⟨rfl,⟨nd,rfl⟩⟩)|(go_at_call 53;(with_reducible refine (Xa.calls Ia Ja 1000 true _ A19.out).mono ?_);rintro e w' ⟨rfl,⟨nd,rfl⟩⟩)|(go_at_call 53;(with_reducible refine (Xa.calls (Fa.length:Int) 1 300 t108 _ A21.out).mono ?_);rintro e w' ⟨rfl,⟨nd,rfl⟩⟩))
          go_meet
          case rel=>exact ⟨_,(!t108),(by first|rfl|(simp;done)|(simp [*];done)),H',⟨by have:=qg.out;first|omega|exact Nat.le_refl _⟩,⟨by (with_reducible repeat (first|refine Aa ?_ _|refine Da ?_|refine Ba ?_ _));exact oa.out⟩,⟨by repeat (first|(with_reducible first|exact HB.out|apply qa|apply ia|apply ta|refine ua ?_ Ta.out)|exact HB.out)⟩⟩
         ·replace Yp:=Bool.eq_false_iff.mpr Yp;subst Yp;have H1:(Wa.j1 k1 true Ra La Ja Ia Fa)=some r:=by rw [if_neg (show ¬ (false=true) by decide)] at H;exact H
          clear H;have H:=H1;clear H1;have H':=ja.mk H;clear H;have yp:wr.cell? ⟨ya,0,none⟩=some (.slice Za Ra.length gb):=(ga oa.out 0).trans rfl;have xp:wr.cell? ⟨ya,1,none⟩=some (.int .i64 La):=(ga oa.out 1).trans rfl;have vp:wr.cell? ⟨ya,2,none⟩=some (.int .i64 Ja):=(ga oa.out 2).trans rfl;have qp:wr.cell? ⟨ya,3,none⟩=some (.int .i64 Ia):=(ga oa.out 3).trans rfl;have lp:wr.cell? ⟨ya,4,none⟩=some (.slice Vb Fa.length Lb):=(ga oa.out 4).trans rfl;have gp:=aa oa.out 0;have ep:=aa oa.out 1;have bp:=aa oa.out 2;have Zo:=aa oa.out 3;have Yo:=aa oa.out 4;go_wp2_with (first|((with_reducible refine qb (f:=53) rfl ?_);refine Mc (some 23) rfl rfl Try.func53 (by kernel_rfl) rfl #[.int .i64 (Ra.length:Int),.int .i64 1,.int .i64 4] rfl (by (try simp only [List.map_toArray,List.map_cons,List.map_nil]);first|done|rfl|(simp only [List.length_drop,List.length_take];rfl)) ?_;(with_reducible refine (Xa.calls (Ra.length:Int) 1 4 true _ cS.out).mono ?_);rintro e w' ⟨rfl,⟨nd,rfl⟩⟩;refine ⟨_,rfl,?_⟩)|(go_at_call 53;(with_reducible refine (Xa.calls Ja 0 20 true _ A13.out).mono ?_);rintro e w' ⟨rfl,⟨nd,rfl⟩⟩)|(go_at_call 53;(with_reducible refine (Xa.calls La 0 6 true _ VX.out).mono ?_);rintro e w' ⟨rfl,⟨nd,rfl⟩⟩)|(go_at_call 53;(with_reducible refine (Xa.calls Ia Ja 1000 false _ A19.out).mono ?_);rintro e w' ⟨rfl,⟨nd,rfl⟩⟩))
          go_meet
          case rel=>exact ⟨_,(true),(by first|rfl|(simp;done)|(simp [*];done)),H',⟨by have:=qg.out;first|omega|exact Nat.le_refl _⟩,⟨by (with_reducible repeat (first|refine Aa ?_ _|refine Da ?_|refine Ba ?_ _));exact oa.out⟩,⟨by repeat (first|(with_reducible first|exact HB.out|apply qa|apply ia|apply ta|refine ua ?_ Ta.out)|exact HB.out)⟩⟩
       ·replace LH:=Bool.eq_false_iff.mpr LH;subst LH;have H1:(Wa.j1 k1 true Ra La Ja Ia Fa)=some r:=by rw [if_neg (show ¬ (false=true) by decide)] at H;exact H
        clear H;have H:=H1;clear H1;have H':=ja.mk H;clear H;have Pq:wr.cell? ⟨ya,0,none⟩=some (.slice Za Ra.length gb):=(ga oa.out 0).trans rfl;have Oq:wr.cell? ⟨ya,1,none⟩=some (.int .i64 La):=(ga oa.out 1).trans rfl;have Nq:wr.cell? ⟨ya,2,none⟩=some (.int .i64 Ja):=(ga oa.out 2).trans rfl;have Mq:wr.cell? ⟨ya,3,none⟩=some (.int .i64 Ia):=(ga oa.out 3).trans rfl;have Kq:wr.cell? ⟨ya,4,none⟩=some (.slice Vb Fa.length Lb):=(ga oa.out 4).trans rfl;have Bq:=aa oa.out 0;have Aq:=aa oa.out 1;have zq:=aa oa.out 2;have yq:=aa oa.out 3;have xq:=aa oa.out 4;go_wp2_with (first|((with_reducible refine qb (f:=53) rfl ?_);refine Mc (some 23) rfl rfl Try.func53 (by kernel_rfl) rfl #[.int .i64 (Ra.length:Int),.int .i64 1,.int .i64 4] rfl (by (try simp only [List.map_toArray,List.map_cons,List.map_nil]);first|done|rfl|(simp only [List.length_drop,List.length_take];rfl)) ?_;(with_reducible refine (Xa.calls (Ra.length:Int) 1 4 true _ cS.out).mono ?_);rintro e w' ⟨rfl,⟨nd,rfl⟩⟩;refine ⟨_,rfl,?_⟩)|(go_at_call 53;(with_reducible refine (Xa.calls Ja 0 20 true _ A13.out).mono ?_);rintro e w' ⟨rfl,⟨nd,rfl⟩⟩)|(go_at_call 53;(with_reducible refine (Xa.calls La 0 6 false _ VX.out).mono ?_);rintro e w' ⟨rfl,⟨nd,rfl⟩⟩))
        go_meet
        case rel=>exact ⟨_,(true),(by first|rfl|(simp;done)|(simp [*];done)),H',⟨by have:=qg.out;first|omega|exact Nat.le_refl _⟩,⟨by (with_reducible repeat (first|refine Aa ?_ _|refine Da ?_|refine Ba ?_ _));exact oa.out⟩,⟨by repeat (first|(with_reducible first|exact HB.out|apply qa|apply ia|apply ta|refine ua ?_ Ta.out)|exact HB.out)⟩⟩
      ·replace I3:=Bool.eq_false_iff.mpr I3;subst I3;have H1:(Wa.j1 k1 true Ra La Ja Ia Fa)=some r:=by rw [if_neg (show ¬ (false=true) by decide)] at H;exact H
       clear H;have H:=H1;clear H1;have H':=ja.mk H;clear H;have Wt:wr.cell? ⟨ya,0,none⟩=some (.slice Za Ra.length gb):=(ga oa.out 0).trans rfl;have Vt:wr.cell? ⟨ya,1,none⟩=some (.int .i64 La):=(ga oa.out 1).trans rfl;have Ut:wr.cell? ⟨ya,2,none⟩=some (.int .i64 Ja):=(ga oa.out 2).trans rfl;have Tt:wr.cell? ⟨ya,3,none⟩=some (.int .i64 Ia):=(ga oa.out 3).trans rfl;have St:wr.cell? ⟨ya,4,none⟩=some (.slice Vb Fa.length Lb):=(ga oa.out 4).trans rfl;have nt:=aa oa.out 0;have jt:=aa oa.out 1;have ct:=aa oa.out 2;have bt:=aa oa.out 3;have Zs:=aa oa.out 4;go_wp2_with (first|((with_reducible refine qb (f:=53) rfl ?_);refine Mc (some 23) rfl rfl Try.func53 (by kernel_rfl) rfl #[.int .i64 (Ra.length:Int),.int .i64 1,.int .i64 4] rfl (by (try simp only [List.map_toArray,List.map_cons,List.map_nil]);first|done|rfl|(simp only [List.length_drop,List.length_take];rfl)) ?_;(with_reducible refine (Xa.calls (Ra.length:Int) 1 4 true _ cS.out).mono ?_);rintro e w' ⟨rfl,⟨nd,rfl⟩⟩;refine ⟨_,rfl,?_⟩)|(go_at_call 53;(with_reducible refine (Xa.calls Ja 0 20 false _ A13.out).mono ?_);rintro e w' ⟨rfl,⟨nd,rfl⟩⟩))
       go_meet
       case rel=>exact ⟨_,(true),(by first|rfl|(simp;done)|(simp [*];done)),H',⟨by have:=qg.out;first|omega|exact Nat.le_refl _⟩,⟨by (with_reducible repeat (first|refine Aa ?_ _|refine Da ?_|refine Ba ?_ _));exact oa.out⟩,⟨by repeat (first|(with_reducible first|exact HB.out|apply qa|apply ia|apply ta|refine ua ?_ Ta.out)|exact HB.out)⟩⟩
     ·replace Ky:=Bool.eq_false_iff.mpr Ky;subst Ky;have H1:(Wa.j1 k1 true Ra La Ja Ia Fa)=some r:=by rw [if_neg (show ¬ (false=true) by decide)] at H;exact H
      clear H;have H:=H1;clear H1;have H':=ja.mk H;clear H;have Rt:wr.cell? ⟨ya,0,none⟩=some (.slice Za Ra.length gb):=(ga oa.out 0).trans rfl;have Qt:wr.cell? ⟨ya,1,none⟩=some (.int .i64 La):=(ga oa.out 1).trans rfl;have Pt:wr.cell? ⟨ya,2,none⟩=some (.int .i64 Ja):=(ga oa.out 2).trans rfl;have Ot:wr.cell? ⟨ya,3,none⟩=some (.int .i64 Ia):=(ga oa.out 3).trans rfl;have Nt:wr.cell? ⟨ya,4,none⟩=some (.slice Vb Fa.length Lb):=(ga oa.out 4).trans rfl;have Ys:=aa oa.out 0;have Xs:=aa oa.out 1;have Ws:=aa oa.out 2;have Vs:=aa oa.out 3;have Us:=aa oa.out 4;go_wp2_with (first|((with_reducible refine qb (f:=53) rfl ?_);refine Mc (some 23) rfl rfl Try.func53 (by kernel_rfl) rfl #[.int .i64 (Ra.length:Int),.int .i64 1,.int .i64 4] rfl (by (try simp only [List.map_toArray,List.map_cons,List.map_nil]);first|done|rfl|(simp only [List.length_drop,List.length_take];rfl)) ?_;(with_reducible refine (Xa.calls (Ra.length:Int) 1 4 false _ cS.out).mono ?_);rintro e w' ⟨rfl,⟨nd,rfl⟩⟩;refine ⟨_,rfl,?_⟩))
      go_meet
      case rel=>exact ⟨_,(true),(by first|rfl|(simp;done)|(simp [*];done)),H',⟨by have:=qg.out;first|omega|exact Nat.le_refl _⟩,⟨by (with_reducible repeat (first|refine Aa ?_ _|refine Da ?_|refine Ba ?_ _));exact oa.out⟩,⟨by repeat (first|(with_reducible first|exact HB.out|apply qa|apply ia|apply ta|refine ua ?_ Ta.out)|exact HB.out)⟩⟩
    case rest =>
     clear HC9
     try clear c1
     try clear p1
     try clear q1
     try clear hx1
     try clear c2
     try clear p2
     try clear c3
     try clear Wg
     try clear c4
     try clear tj
     try clear c5
     try clear c6
     try clear p6
     try clear iI
     try clear gI
     try clear PY
     try clear Ky
     try clear I3
     try clear LH
     try clear Qp
     try clear en
     try clear Yp
     try clear uh
     try clear th
     try clear qh
     try clear oh
     try clear nh
     try clear bu
     try clear au
     try clear Zt
     try clear Yt
     try clear Xt
     try clear ax
     try clear Zw
     try clear Yw
     try clear Xw
     try clear Ww
     try clear yp
     try clear xp
     try clear vp
     try clear qp
     try clear lp
     try clear Pq
     try clear Oq
     try clear Nq
     try clear Mq
     try clear Kq
     try clear Wt
     try clear Vt
     try clear Ut
     try clear Tt
     try clear St
     try clear Rt
     try clear Qt
     try clear Pt
     try clear Ot
     try clear Nt
     try clear Hq
     try clear Gq
     try clear Fq
     try clear Dq
     try clear Cq
     try clear Qu
     try clear Pu
     try clear Ou
     try clear Nu
     try clear Mu
     try clear mh
     try clear jh
     try clear gh
     try clear fh
     try clear dh
     try clear Bt
     try clear yt
     try clear vt
     try clear qt
     try clear ot
     try clear Iw
     try clear Hw
     try clear Gw
     try clear Fw
     try clear Ew
     try clear gp
     try clear ep
     try clear bp
     try clear Zo
     try clear Yo
     try clear Bq
     try clear Aq
     try clear zq
     try clear yq
     try clear xq
     try clear nt
     try clear jt
     try clear ct
     try clear bt
     try clear Zs
     try clear Ys
     try clear Xs
     try clear Ws
     try clear Vs
     try clear Us
     try clear uq
     try clear sq
     try clear rq
     try clear qq
     try clear pq
     try clear Lu
     try clear Ku
     try clear Ju
     try clear Iu
     try clear Hu
     try clear Ye
     try clear Fh
     try clear p2
     try clear Eh
     obtain ⟨kq,PJ,rfl,HA,HJ8,oa,HB⟩:=hcut;cases kq with
     | zero=>exact absurd HA.out (by simp [Wa.j1])
     | succ kj8 =>
      have H:=HA.out;clear HA;simp only [Wa.j1] at H
      by_cases mI:PJ=true
      ·subst mI;have H1:(some false)=some r:=by rw [if_pos rfl] at H;exact H
       clear H;have H:=H1;clear H1;obtain rfl:=Option.some.inj H;go_wp2;go_ret;exact ⟨by first|rfl|(simp [Na,Ma] <;> rfl)|(simp [*,Na,Ma] <;> rfl),by repeat (first|(with_reducible first|exact HB.out|apply qa|apply ia|apply ta|refine ua ?_ Ta.out)|exact HB.out)⟩
      ·replace mI:=Bool.eq_false_iff.mpr mI;subst mI;have H1:(Wa.l1 kj8 0 0 Ra La Ja Ia Fa)=some r:=by rw [if_neg (show ¬ (false=true) by decide)] at H;exact H
       clear H;have H:=H1;clear H1;have H':=ja.mk H;clear H;go_wp2
       go_loopg [4,5] kj8 (fun kq v4 v5 w'=>∃ (dD:Int) (Ie:Int),v4 = .int .i64 dD∧v5 = .int .i64 Ie∧ja (Wa.l1 kq dD Ie Ra La Ja Ia Fa=some r)∧ja (kq ≤ kj8)∧ja (w'.heap[ya]? = some (.cells #[(.slice Za Ra.length gb),.int .i64 La,.int .i64 Ja,.int .i64 Ia,(.slice Vb Fa.length Lb)] 30 (0,0)))∧ja (Below w.heap.size w w'))
       case atStart=>exact ⟨(0),(0),(by first|rfl|(simp;done)|(simp [*];done)),(by first|rfl|(simp;done)|(simp [*];done)),H',⟨Nat.le_refl _⟩,⟨by (with_reducible repeat (first|refine Aa ?_ _|refine Da ?_|refine Ba ?_ _));exact oa.out⟩,⟨by repeat (first|(with_reducible first|exact HB.out|apply qa|apply ia|apply ta|refine ua ?_ Ta.out)|exact HB.out)⟩⟩
       case round =>
        clear H'
        try clear c1
        try clear p1
        try clear q1
        try clear hx1
        try clear c2
        try clear p2
        try clear c3
        try clear Wg
        try clear c4
        try clear tj
        try clear c5
        try clear c6
        try clear p6
        try clear iI
        try clear gI
        try clear PY
        try clear Ky
        try clear I3
        try clear LH
        try clear Qp
        try clear en
        try clear Yp
        try clear mI
        try clear uh
        try clear th
        try clear qh
        try clear oh
        try clear nh
        try clear bu
        try clear au
        try clear Zt
        try clear Yt
        try clear Xt
        try clear ax
        try clear Zw
        try clear Yw
        try clear Xw
        try clear Ww
        try clear yp
        try clear xp
        try clear vp
        try clear qp
        try clear lp
        try clear Pq
        try clear Oq
        try clear Nq
        try clear Mq
        try clear Kq
        try clear Wt
        try clear Vt
        try clear Ut
        try clear Tt
        try clear St
        try clear Rt
        try clear Qt
        try clear Pt
        try clear Ot
        try clear Nt
        try clear Hq
        try clear Gq
        try clear Fq
        try clear Dq
        try clear Cq
        try clear Qu
        try clear Pu
        try clear Ou
        try clear Nu
        try clear Mu
        try clear mh
        try clear jh
        try clear gh
        try clear fh
        try clear dh
        try clear Bt
        try clear yt
        try clear vt
        try clear qt
        try clear ot
        try clear Iw
        try clear Hw
        try clear Gw
        try clear Fw
        try clear Ew
        try clear gp
        try clear ep
        try clear bp
        try clear Zo
        try clear Yo
        try clear Bq
        try clear Aq
        try clear zq
        try clear yq
        try clear xq
        try clear nt
        try clear jt
        try clear ct
        try clear bt
        try clear Zs
        try clear Ys
        try clear Xs
        try clear Ws
        try clear Vs
        try clear Us
        try clear uq
        try clear sq
        try clear rq
        try clear qq
        try clear pq
        try clear Lu
        try clear Ku
        try clear Ju
        try clear Iu
        try clear Hu
        try clear Ye
        try clear p1
        try clear iI
        try clear Fh
        try clear p2
        try clear p6
        try clear q1
        try clear gI
        try clear Eh
        (try clear HA);(try clear bD);(try clear oa);(try clear HB);obtain ⟨dD,Ie,rfl,rfl,HA,bD,oa,HB⟩:=hrel;cases gk with
        | zero=>exact absurd HA.out (by simp [Wa.l1])
        | succ k3 =>
         have H:=HA.out;clear HA;simp only [Wa.l1] at H
         by_cases G3:Ie < (Fa.length:Int)
         ·rw [if_pos G3] at H;have laa:decide (Ie < (Fa.length:Int))=true:=decide_eq_true G3;clear G3
          by_cases FG:0 ≤ Ie
          ·rw [if_pos FG] at H;have KB:decide (0 ≤ Ie)=true:=decide_eq_true FG;clear FG
           by_cases BC:(wrap64 (dD + (((Oa Fa Ie).f0).length:Int))) > 1000
           ·rw [if_pos BC] at H;have NM:decide (1000 < (wrap64 (dD + (((Oa Fa Ie).f0).length:Int))))=true:=decide_eq_true BC;clear BC;obtain rfl:=Option.some.inj H;have Gt:wr.cell? ⟨ya,0,none⟩=some (.slice Za Ra.length gb):=(ga oa.out 0).trans rfl;have Ft:wr.cell? ⟨ya,1,none⟩=some (.int .i64 La):=(ga oa.out 1).trans rfl;have Et:wr.cell? ⟨ya,2,none⟩=some (.int .i64 Ja):=(ga oa.out 2).trans rfl;have Dt:wr.cell? ⟨ya,3,none⟩=some (.int .i64 Ia):=(ga oa.out 3).trans rfl;have Ct:wr.cell? ⟨ya,4,none⟩=some (.slice Vb Fa.length Lb):=(ga oa.out 4).trans rfl;have Ms:=aa oa.out 0;have Ls:=aa oa.out 1;have Ks:=aa oa.out 2;have Js:=aa oa.out 3;have Hs:=aa oa.out 4;have gq:0 ≤ (Ie:Int):=Ua;have cq:Ie < (Fa.length:Int):=Ua;obtain ⟨ng,Yl,Vl,ZF,Li,Ki,Ji,Ii,Hi,Ni,Qi⟩:=Bi Uf.out Ie gq cq;cases ZF;replace Li:=Pa HB.out Li;replace Ki:=Pa HB.out Ki;replace Ji:=Pa HB.out Ji;replace Ii:=Pa HB.out Ii;replace Hi:=Pa HB.out Hi;have JA:=ja.mk Qi;have LA:=ja.mk Ni;clear Qi Ni;replace gq:=eq_true gq;replace cq:=eq_true cq
            try go_wp2
            have Bb:=ja.mk (Da oa.out);have Gb:=ja.mk (ta HB.out);clear oa HB;have oa:=Bb;have HB:=Gb;clear Bb Gb;refine mm (n:=12) (S:=fun w'=>True) (ds:=[]) #[false,false,false,false,false,false,false,false,false,false,false,false] (by kernel_rfl) rfl rfl trivial (fun hHeld=>?_);refine Dh Wa.OO Wa.BJ (fun Bf Xq=>?_);generalize wr.drew=sO at oa HB hHeld ⊢;refine Zc (i:=0) (N:=some 75) (v:=?_) (a':=?_) #[true,false,false,false,false,false,false,false,false,false,false,false] rfl rfl (Oc Bf.out (by kernel_rfl)) (fun _ _ _ h=>h) (Or.inl ⟨by rfl,?_⟩) ?_ ?_;rotate_left
            ·intro w';go_simp;with_reducible rfl
            rotate_left
            ·simp only [Act.put,List.setIfInBounds_toArray,List.set_cons_zero,List.set_cons_succ,Yb,Zb]
             rfl
            refine Zc (i:=1) (N:=some 76) (v:=?_) (a':=?_) #[true,true,false,false,false,false,false,false,false,false,false,false] rfl rfl (Oc Bf.out (by kernel_rfl)) (fun _ _ _ h=>h) (Or.inl ⟨by rfl,?_⟩) ?_ ?_;rotate_left
            ·intro w';go_simp;with_reducible rfl
            rotate_left
            ·simp only [Act.put,List.setIfInBounds_toArray,List.set_cons_zero,List.set_cons_succ,Yb,Zb]
             rfl
            refine Zc (i:=2) (N:=some 77) (v:=?_) (a':=?_) #[true,true,true,false,false,false,false,false,false,false,false,false] rfl rfl (Oc Bf.out (by kernel_rfl)) (fun _ _ _ h=>h) (Or.inl ⟨by rfl,?_⟩) ?_ ?_;rotate_left
            ·intro w';go_simp;with_reducible rfl
            rotate_left
            ·simp only [Act.put,List.setIfInBounds_toArray,List.set_cons_zero,List.set_cons_succ,Yb,Zb]
             rfl
            refine Zc (i:=3) (N:=some 78) (v:=undef) (a':=?_) #[true,true,true,true,false,false,false,false,false,false,false,false] rfl rfl (Oc Bf.out (by kernel_rfl)) (fun _ _ _ h=>h) (Or.inr ⟨by rfl,rfl⟩) ?_ ?_;rotate_left
            ·simp only [Act.put,List.setIfInBounds_toArray,List.set_cons_zero,List.set_cons_succ,Yb,Zb]
             rfl
            refine Zc (i:=4) (N:=some 79) (v:=undef) (a':=?_) #[true,true,true,true,true,false,false,false,false,false,false,false] rfl rfl (Oc Bf.out (by kernel_rfl)) (fun _ _ _ h=>h) (Or.inr ⟨by rfl,rfl⟩) ?_ ?_;rotate_left
            ·simp only [Act.put,List.setIfInBounds_toArray,List.set_cons_zero,List.set_cons_succ,Yb,Zb]
             rfl
            refine Zc (i:=5) (N:=some 80) (v:=undef) (a':=?_) #[true,true,true,true,true,true,false,false,false,false,false,false] rfl rfl (Oc Bf.out (by kernel_rfl)) (fun _ _ _ h=>h) (Or.inr ⟨by rfl,rfl⟩) ?_ ?_;rotate_left
            ·simp only [Act.put,List.setIfInBounds_toArray,List.set_cons_zero,List.set_cons_succ,Yb,Zb]
             rfl
            refine Zc (i:=6) (N:=some 81) (v:=undef) (a':=?_) #[true,true,true,true,true,true,true,false,false,false,false,false] rfl rfl (Oc Bf.out (by kernel_rfl)) (fun _ _ _ h=>h) (Or.inr ⟨by rfl,rfl⟩) ?_ ?_;rotate_left
            ·simp only [Act.put,List.setIfInBounds_toArray,List.set_cons_zero,List.set_cons_succ,Yb,Zb]
             rfl
            refine Zc (i:=7) (N:=some 82) (v:=undef) (a':=?_) #[true,true,true,true,true,true,true,true,false,false,false,false] rfl rfl (Oc Bf.out (by kernel_rfl)) (fun _ _ _ h=>h) (Or.inr ⟨by rfl,rfl⟩) ?_ ?_;rotate_left
            ·simp only [Act.put,List.setIfInBounds_toArray,List.set_cons_zero,List.set_cons_succ,Yb,Zb]
             rfl
            refine Zc (i:=8) (N:=some 83) (v:=undef) (a':=?_) #[true,true,true,true,true,true,true,true,true,false,false,false] rfl rfl (Oc Bf.out (by kernel_rfl)) (fun _ _ _ h=>h) (Or.inr ⟨by rfl,rfl⟩) ?_ ?_;rotate_left
            ·simp only [Act.put,List.setIfInBounds_toArray,List.set_cons_zero,List.set_cons_succ,Yb,Zb]
             rfl
            refine Zc (i:=9) (N:=some 84) (v:=undef) (a':=?_) #[true,true,true,true,true,true,true,true,true,true,false,false] rfl rfl (Oc Bf.out (by kernel_rfl)) (fun _ _ _ h=>h) (Or.inr ⟨by rfl,rfl⟩) ?_ ?_;rotate_left
            ·simp only [Act.put,List.setIfInBounds_toArray,List.set_cons_zero,List.set_cons_succ,Yb,Zb]
             rfl
            refine Zc (i:=10) (N:=some 85) (v:=undef) (a':=?_) #[true,true,true,true,true,true,true,true,true,true,true,false] rfl rfl (Oc Bf.out (by kernel_rfl)) (fun _ _ _ h=>h) (Or.inr ⟨by rfl,rfl⟩) ?_ ?_;rotate_left
            ·simp only [Act.put,List.setIfInBounds_toArray,List.set_cons_zero,List.set_cons_succ,Yb,Zb]
             rfl
            refine Zc (i:=11) (N:=some 86) (v:=?_) (a':=?_) #[true,true,true,true,true,true,true,true,true,true,true,true] rfl rfl (Oc Bf.out (by kernel_rfl)) (fun _ _ _ h=>h) (Or.inl ⟨by rfl,?_⟩) ?_ ?_;rotate_left
            ·intro w';go_simp;with_reducible rfl
            rotate_left
            ·simp only [Act.put,List.setIfInBounds_toArray,List.set_cons_zero,List.set_cons_succ,Yb,Zb]
             rfl
            refine Np (Ul Bf.out (by kernel_rfl)) ?_
            try go_wp2
            go_ret;exact ⟨by first|rfl|(simp [Na,Ma] <;> rfl)|(simp [*,Na,Ma] <;> rfl),by repeat (first|(with_reducible first|exact HB.out|apply qa|apply ia|apply ta|refine ua ?_ Ta.out)|exact HB.out)⟩
           ·rw [if_neg BC] at H;have NM:decide (1000 < (wrap64 (dD + (((Oa Fa Ie).f0).length:Int))))=false:=decide_eq_false BC;clear BC;replace H:=Option.bind_eq_some_iff.mp H;obtain ⟨t111,dac,H⟩:=H;replace H:(if t111=true then (Wa.l1 k3 (wrap64 (dD + (((Oa Fa Ie).f0).length:Int))) (wrap64 (Ie + 1)) Ra La Ja Ia Fa) else (some false))=some r:=H;have A33:=ja.mk dac;clear dac
            by_cases GH:t111=true
            ·subst GH;have H1:(Wa.l1 k3 (wrap64 (dD + (((Oa Fa Ie).f0).length:Int))) (wrap64 (Ie + 1)) Ra La Ja Ia Fa)=some r:=by rw [if_pos rfl] at H;exact H
             clear H;have H:=H1;clear H1;have H':=ja.mk H;clear H;have jM:wr.cell? ⟨ya,0,none⟩=some (.slice Za Ra.length gb):=(ga oa.out 0).trans rfl;have iM:wr.cell? ⟨ya,1,none⟩=some (.int .i64 La):=(ga oa.out 1).trans rfl;have gM:wr.cell? ⟨ya,2,none⟩=some (.int .i64 Ja):=(ga oa.out 2).trans rfl;have fM:wr.cell? ⟨ya,3,none⟩=some (.int .i64 Ia):=(ga oa.out 3).trans rfl;have eM:wr.cell? ⟨ya,4,none⟩=some (.slice Vb Fa.length Lb):=(ga oa.out 4).trans rfl;have iL:=aa oa.out 0;have gL:=aa oa.out 1;have fL:=aa oa.out 2;have eL:=aa oa.out 3;have dL:=aa oa.out 4;have gq:0 ≤ (Ie:Int):=Ua;have cq:Ie < (Fa.length:Int):=Ua;obtain ⟨ng,Yl,Vl,ZF,Li,Ki,Ji,Ii,Hi,Ni,Qi⟩:=Bi Uf.out Ie gq cq;cases ZF;replace Li:=Pa HB.out Li;replace Ki:=Pa HB.out Ki;replace Ji:=Pa HB.out Ji;replace Ii:=Pa HB.out Ii;replace Hi:=Pa HB.out Hi;have JA:=ja.mk Qi;have LA:=ja.mk Ni;clear Qi Ni;replace gq:=eq_true gq;replace cq:=eq_true cq
             try go_wp2
             have Bb:=ja.mk (Da oa.out);have Gb:=ja.mk (ta HB.out);clear oa HB;have oa:=Bb;have HB:=Gb;clear Bb Gb;have FI:0 ≤ (Ie:Int):=Ua;have CI:Ie < (Fa.length:Int):=Ua;obtain ⟨eR,cC,MB,PZ,Cn,Bn,zn,vn,sn,sw,xw⟩:=Bi Uf.out Ie FI CI;have Qv:=sn;have Rv:=vn;have Sv:=zn;have Tv:=Bn;have Uv:=Cn;obtain rfl:ng=eR:=(by injection PZ);replace Cn:=Pa HB.out Cn;replace Bn:=Pa HB.out Bn;replace zn:=Pa HB.out zn;replace vn:=Pa HB.out vn;replace sn:=Pa HB.out sn;have Jx:=ja.mk xw;have qG:=ja.mk sw;clear xw sw;replace FI:=eq_true FI;replace CI:=eq_true CI;refine mm (n:=12) (S:=fun w'=>w'.cell? ⟨ya,0,none⟩=some (.slice Za Ra.length gb)∧w'.cell? ⟨ya,1,none⟩=some (.int .i64 La)∧w'.cell? ⟨ya,2,none⟩=some (.int .i64 Ja)∧w'.cell? ⟨ya,3,none⟩=some (.int .i64 Ia)∧w'.cell? ⟨ya,4,none⟩=some (.slice (some ng) Fa.length Lb)∧w'.cell? (ng.add ((Ie).toNat * 5))=some (.slice cC ((Oa Fa Ie).f0).length MB)∧w'.cell? ⟨(ng.add ((Ie).toNat * 5)).block,(ng.add ((Ie).toNat * 5)).off + 1,none⟩=some (.int .i64 ((Oa Fa Ie).f1))∧w'.cell? ⟨(ng.add ((Ie).toNat * 5)).block,(ng.add ((Ie).toNat * 5)).off + 2,none⟩=some (.int .i64 ((Oa Fa Ie).f2))∧w'.cell? ⟨(ng.add ((Ie).toNat * 5)).block,(ng.add ((Ie).toNat * 5)).off + 3,none⟩=some (.int .i64 ((Oa Fa Ie).f3))∧w'.cell? ⟨(ng.add ((Ie).toNat * 5)).block,(ng.add ((Ie).toNat * 5)).off + 4,none⟩=some (.int .i64 ((Oa Fa Ie).f4))) (ds:=[]) #[false,false,false,false,false,false,false,false,false,false,false,false] (by kernel_rfl) rfl rfl ⟨(ga oa.out 0).trans rfl,(ga oa.out 1).trans rfl,(ga oa.out 2).trans rfl,(ga oa.out 3).trans rfl,(ga oa.out 4).trans rfl,(Pa HB.out Uv),(Pa HB.out Tv),(Pa HB.out Sv),(Pa HB.out Rv),(Pa HB.out Qv)⟩ (fun hHeld=>?_);refine Dh Wa.OO Wa.BJ (fun Bf Xq=>?_);generalize wr.drew=QA at oa HB Jx Cn Bn zn vn sn hHeld ⊢;refine Zc (i:=0) (N:=some 75) (v:=?_) (a':=?_) #[true,false,false,false,false,false,false,false,false,false,false,false] rfl rfl (Oc Bf.out (by kernel_rfl)) (fun _ _ _ h=>h) (Or.inl ⟨by rfl,?_⟩) ?_ ?_;rotate_left
             ·intro w';go_simp;with_reducible rfl
             rotate_left
             ·simp only [Act.put,List.setIfInBounds_toArray,List.set_cons_zero,List.set_cons_succ,Yb,Zb]
              rfl
             refine Zc (i:=1) (N:=some 76) (v:=?_) (a':=?_) #[true,true,false,false,false,false,false,false,false,false,false,false] rfl rfl (Oc Bf.out (by kernel_rfl)) (fun _ _ _ h=>h) (Or.inl ⟨by rfl,?_⟩) ?_ ?_;rotate_left
             ·intro w';go_simp;with_reducible rfl
             rotate_left
             ·simp only [Act.put,List.setIfInBounds_toArray,List.set_cons_zero,List.set_cons_succ,Yb,Zb]
              rfl
             refine Zc (i:=2) (N:=some 77) (v:=?_) (a':=?_) #[true,true,true,false,false,false,false,false,false,false,false,false] rfl rfl (Oc Bf.out (by kernel_rfl)) (fun _ _ _ h=>h) (Or.inl ⟨by rfl,?_⟩) ?_ ?_;rotate_left
             ·intro w';go_simp;with_reducible rfl
             rotate_left
             ·simp only [Act.put,List.setIfInBounds_toArray,List.set_cons_zero,List.set_cons_succ,Yb,Zb]
              rfl
             refine Zc (i:=4) (N:=some 79) (v:=?_) (a':=?_) #[true,true,true,false,true,false,false,false,false,false,false,false] rfl rfl (Oc Bf.out (by kernel_rfl)) (fun _ _ _ h=>h) (Or.inl ⟨by rfl,?_⟩) ?_ ?_;rotate_left
             ·intro w';go_simp;with_reducible rfl
             rotate_left
             ·simp only [Act.put,List.setIfInBounds_toArray,List.set_cons_zero,List.set_cons_succ,Yb,Zb]
              rfl
             refine Zc (i:=6) (N:=some 81) (v:=?_) (a':=?_) #[true,true,true,false,true,false,true,false,false,false,false,false] rfl rfl (Oc Bf.out (by kernel_rfl)) (fun _ _ _ h=>h) (Or.inl ⟨by rfl,?_⟩) ?_ ?_;rotate_left
             ·intro w';go_simp;with_reducible rfl
             rotate_left
             ·simp only [Act.put,List.setIfInBounds_toArray,List.set_cons_zero,List.set_cons_succ,Yb,Zb]
              rfl
             refine yg (i:=3) (N:=some 78) (v:=?_) (a':=?_) #[true,true,true,true,true,false,true,false,false,false,false,false] rfl rfl (Ce Bf.out Xq.out (by kernel_rfl)) (fun _ _ _ h=>h) (Or.inl ⟨by rfl,?_⟩) hHeld ?_ ?_;rotate_left
             ·rintro w' ⟨s0,s1,s2,s3,s4,s5,s6,s7,s8,s9⟩;go_simp;with_reducible rfl
             rotate_left
             ·simp only [Act.put,List.setIfInBounds_toArray,List.set_cons_zero,List.set_cons_succ,Yb,Zb]
              rfl
             refine yg (i:=5) (N:=some 80) (v:=?_) (a':=?_) #[true,true,true,true,true,true,true,false,false,false,false,false] rfl rfl (Ce Bf.out Xq.out (by kernel_rfl)) (fun _ _ _ h=>h) (Or.inl ⟨by rfl,?_⟩) hHeld ?_ ?_;rotate_left
             ·rintro w' ⟨s0,s1,s2,s3,s4,s5,s6,s7,s8,s9⟩;go_simp;with_reducible rfl
             rotate_left
             ·simp only [Act.put,List.setIfInBounds_toArray,List.set_cons_zero,List.set_cons_succ,Yb,Zb]
              rfl
             refine Zc (i:=7) (N:=some 82) (v:=?_) (a':=?_) #[true,true,true,true,true,true,true,true,false,false,false,false] rfl rfl (Oc Bf.out (by kernel_rfl)) (fun _ _ _ h=>h) (Or.inl ⟨by rfl,?_⟩) ?_ ?_;rotate_left
             ·intro w';go_simp;with_reducible rfl
             rotate_left
             ·simp only [Act.put,List.setIfInBounds_toArray,List.set_cons_zero,List.set_cons_succ,Yb,Zb]
              rfl
             refine yg (i:=8) (N:=some 83) (v:=?_) (a':=?_) #[true,true,true,true,true,true,true,true,true,false,false,false] rfl rfl (Ce Bf.out Xq.out (by kernel_rfl)) (fun _ _ _ h=>h) (Or.inl ⟨by rfl,?_⟩) hHeld ?_ ?_;rotate_left
             ·rintro w' ⟨s0,s1,s2,s3,s4,s5,s6,s7,s8,s9⟩;go_simp;with_reducible rfl
             rotate_left
             ·simp only [Act.put,List.setIfInBounds_toArray,List.set_cons_zero,List.set_cons_succ,Yb,Zb]
              rfl
             refine ku (i:=9) (N:=some 84) #[true,true,true,true,true,true,true,true,true,true,false,false] rfl rfl (vo Bf.out (by kernel_rfl)) (by decide) (fun K hK=>?_);refine dn Try.func71 (by kernel_rfl) rfl #[.agg #[.slice Za Ra.length gb,.int .i64 La,.int .i64 Ja,.int .i64 Ia,.slice (some ng) Fa.length Lb],.agg #[.slice cC ((Oa Fa Ie).f0).length MB,.int .i64 ((Oa Fa Ie).f1),.int .i64 ((Oa Fa Ie).f2),.int .i64 ((Oa Fa Ie).f3),.int .i64 ((Oa Fa Ie).f4)]] (by rfl) rfl rfl (by (try simp only [List.map_toArray,List.map_cons,List.map_nil]);first|done|rfl|(simp only [List.length_drop,List.length_take];rfl)) ?_;with_reducible refine (ic.calls k3 _ _ Ra La Ja Ia _ _ Fa _ _ ((Oa Fa Ie).f0) ((Oa Fa Ie).f1) ((Oa Fa Ie).f2) ((Oa Fa Ie).f3) ((Oa Fa Ie).f4) true _ ?Jc ?Ic ?Qd ?Pd ?Br ?Ar A33.out).mono ?_
             (case Jc=>repeat (first|exact (Kd.Mb He.out HB.out)|(with_reducible refine Kd.Tb ?_ _)|(with_reducible refine Kd.Sb ?_ _)|(with_reducible refine Kd.qc ?_)))
             (case Ic=>exact Me.out)
             (case Qd=>repeat (first|exact (Kd.Mb Uf.out HB.out)|(with_reducible refine Kd.Tb ?_ _)|(with_reducible refine Kd.Sb ?_ _)|(with_reducible refine Kd.qc ?_)))
             (case Pd=>exact Ug.out)
             (case Br=>repeat (first|exact (Kd.Mb Jx.out HB.out)|(with_reducible refine Kd.Tb ?_ _)|(with_reducible refine Kd.Sb ?_ _)|(with_reducible refine Kd.qc ?_)))
             (case Ar=>exact qG.out)
             rintro e eS ⟨rfl,hb⟩;refine ⟨_,rfl,?_⟩;have Bb:=ja.mk (Va (g:=ya) (o:=.cells #[.slice Za Ra.length gb,.int .i64 La,.int .i64 Ja,.int .i64 Ia,.slice (some ng) Fa.length Lb] 30 (0,0)) (by (with_reducible repeat (first|refine Aa ?_ _|refine Da ?_|refine Ba ?_ _));exact oa.out) hb);have Gb:=ja.mk (Qa (by repeat (first|(with_reducible first|exact HB.out|apply qa|apply ia|apply ta|refine ua ?_ Ta.out)|exact HB.out)) hb);clear oa HB;have oa:=Bb;have HB:=Gb;clear Bb Gb;(try clear hb);(try clear si);(try clear hk);(try clear hi);refine hK.out _ _ ⟨(ga oa.out 0).trans rfl,(ga oa.out 1).trans rfl,(ga oa.out 2).trans rfl,(ga oa.out 3).trans rfl,(ga oa.out 4).trans rfl,(Pa HB.out Uv),(Pa HB.out Tv),(Pa HB.out Sv),(Pa HB.out Rv),(Pa HB.out Qv)⟩ (fun hHeld=>?_);clear hK K;refine bn (a':=?_) ?_ ?_;rotate_left
             ·show Act.put _ (some 84) _=_
              simp only [Act.put,List.setIfInBounds_toArray,List.set_cons_zero,List.set_cons_succ,Yb,Zb]
              rfl
             refine Zc (i:=10) (N:=some 85) (v:=?_) (a':=?_) #[true,true,true,true,true,true,true,true,true,true,true,false] rfl rfl (Oc Bf.out (by kernel_rfl)) (fun _ _ _ h=>h) (Or.inl ⟨by rfl,?_⟩) ?_ ?_;rotate_left
             ·intro w';go_simp;with_reducible rfl
             rotate_left
             ·simp only [Act.put,List.setIfInBounds_toArray,List.set_cons_zero,List.set_cons_succ,Yb,Zb]
              rfl
             refine Zc (i:=11) (N:=some 86) (v:=?_) (a':=?_) #[true,true,true,true,true,true,true,true,true,true,true,true] rfl rfl (Oc Bf.out (by kernel_rfl)) (fun _ _ _ h=>h) (Or.inl ⟨by rfl,?_⟩) ?_ ?_;rotate_left
             ·intro w';go_simp;with_reducible rfl
             rotate_left
             ·simp only [Act.put,List.setIfInBounds_toArray,List.set_cons_zero,List.set_cons_succ,Yb,Zb]
              rfl
             refine Np (Ul Bf.out (by kernel_rfl)) ?_
             try go_wp2
             go_roundg k3
             case measure=>have:=qg.out;have:=HJ8.out;have:=bD.out;omega
             case rel=>exact ⟨(wrap64 (dD + (((Oa Fa Ie).f0).length:Int))),(wrap64 (Ie + 1)),(by first|rfl|(simp;done)|(simp [*];done)),(by first|rfl|(simp;done)|(simp [*];done)),H',⟨by have:=qg.out;have:=HJ8.out;have:=bD.out;omega⟩,⟨by (with_reducible repeat (first|refine Aa ?_ _|refine Da ?_|refine Ba ?_ _));exact oa.out⟩,⟨by repeat (first|(with_reducible first|exact HB.out|apply qa|apply ia|apply ta|refine ua ?_ Ta.out)|exact HB.out)⟩⟩
            ·replace GH:=Bool.eq_false_iff.mpr GH;subst GH;have H1:(some false)=some r:=by rw [if_neg (show ¬ (false=true) by decide)] at H;exact H
             clear H;have H:=H1;clear H1;obtain rfl:=Option.some.inj H;have BF:wr.cell? ⟨ya,0,none⟩=some (.slice Za Ra.length gb):=(ga oa.out 0).trans rfl;have AF:wr.cell? ⟨ya,1,none⟩=some (.int .i64 La):=(ga oa.out 1).trans rfl;have zF:wr.cell? ⟨ya,2,none⟩=some (.int .i64 Ja):=(ga oa.out 2).trans rfl;have yF:wr.cell? ⟨ya,3,none⟩=some (.int .i64 Ia):=(ga oa.out 3).trans rfl;have xF:wr.cell? ⟨ya,4,none⟩=some (.slice Vb Fa.length Lb):=(ga oa.out 4).trans rfl;have vE:=aa oa.out 0;have uE:=aa oa.out 1;have sE:=aa oa.out 2;have rE:=aa oa.out 3;have qE:=aa oa.out 4;have gq:0 ≤ (Ie:Int):=Ua;have cq:Ie < (Fa.length:Int):=Ua;obtain ⟨ng,Yl,Vl,ZF,Li,Ki,Ji,Ii,Hi,Ni,Qi⟩:=Bi Uf.out Ie gq cq;cases ZF;replace Li:=Pa HB.out Li;replace Ki:=Pa HB.out Ki;replace Ji:=Pa HB.out Ji;replace Ii:=Pa HB.out Ii;replace Hi:=Pa HB.out Hi;have JA:=ja.mk Qi;have LA:=ja.mk Ni;clear Qi Ni;replace gq:=eq_true gq;replace cq:=eq_true cq
             try go_wp2
             have Bb:=ja.mk (Da oa.out);have Gb:=ja.mk (ta HB.out);clear oa HB;have oa:=Bb;have HB:=Gb;clear Bb Gb;have FI:0 ≤ (Ie:Int):=Ua;have CI:Ie < (Fa.length:Int):=Ua;obtain ⟨eR,cC,MB,PZ,Cn,Bn,zn,vn,sn,sw,xw⟩:=Bi Uf.out Ie FI CI;have Qv:=sn;have Rv:=vn;have Sv:=zn;have Tv:=Bn;have Uv:=Cn;obtain rfl:ng=eR:=(by injection PZ);replace Cn:=Pa HB.out Cn;replace Bn:=Pa HB.out Bn;replace zn:=Pa HB.out zn;replace vn:=Pa HB.out vn;replace sn:=Pa HB.out sn;have Jx:=ja.mk xw;have qG:=ja.mk sw;clear xw sw;replace FI:=eq_true FI;replace CI:=eq_true CI;refine mm (n:=12) (S:=fun w'=>w'.cell? ⟨ya,0,none⟩=some (.slice Za Ra.length gb)∧w'.cell? ⟨ya,1,none⟩=some (.int .i64 La)∧w'.cell? ⟨ya,2,none⟩=some (.int .i64 Ja)∧w'.cell? ⟨ya,3,none⟩=some (.int .i64 Ia)∧w'.cell? ⟨ya,4,none⟩=some (.slice (some ng) Fa.length Lb)∧w'.cell? (ng.add ((Ie).toNat * 5))=some (.slice cC ((Oa Fa Ie).f0).length MB)∧w'.cell? ⟨(ng.add ((Ie).toNat * 5)).block,(ng.add ((Ie).toNat * 5)).off + 1,none⟩=some (.int .i64 ((Oa Fa Ie).f1))∧w'.cell? ⟨(ng.add ((Ie).toNat * 5)).block,(ng.add ((Ie).toNat * 5)).off + 2,none⟩=some (.int .i64 ((Oa Fa Ie).f2))∧w'.cell? ⟨(ng.add ((Ie).toNat * 5)).block,(ng.add ((Ie).toNat * 5)).off + 3,none⟩=some (.int .i64 ((Oa Fa Ie).f3))∧w'.cell? ⟨(ng.add ((Ie).toNat * 5)).block,(ng.add ((Ie).toNat * 5)).off + 4,none⟩=some (.int .i64 ((Oa Fa Ie).f4))) (ds:=[]) #[false,false,false,false,false,false,false,false,false,false,false,false] (by kernel_rfl) rfl rfl ⟨(ga oa.out 0).trans rfl,(ga oa.out 1).trans rfl,(ga oa.out 2).trans rfl,(ga oa.out 3).trans rfl,(ga oa.out 4).trans rfl,(Pa HB.out Uv),(Pa HB.out Tv),(Pa HB.out Sv),(Pa HB.out Rv),(Pa HB.out Qv)⟩ (fun hHeld=>?_);refine Dh Wa.OO Wa.BJ (fun Bf Xq=>?_);generalize wr.drew=w39 at oa HB Jx Cn Bn zn vn sn hHeld ⊢;refine Zc (i:=0) (N:=some 75) (v:=?_) (a':=?_) #[true,false,false,false,false,false,false,false,false,false,false,false] rfl rfl (Oc Bf.out (by kernel_rfl)) (fun _ _ _ h=>h) (Or.inl ⟨by rfl,?_⟩) ?_ ?_;rotate_left
             ·intro w';go_simp;with_reducible rfl
             rotate_left
             ·simp only [Act.put,List.setIfInBounds_toArray,List.set_cons_zero,List.set_cons_succ,Yb,Zb]
              rfl
             refine Zc (i:=1) (N:=some 76) (v:=?_) (a':=?_) #[true,true,false,false,false,false,false,false,false,false,false,false] rfl rfl (Oc Bf.out (by kernel_rfl)) (fun _ _ _ h=>h) (Or.inl ⟨by rfl,?_⟩) ?_ ?_;rotate_left
             ·intro w';go_simp;with_reducible rfl
             rotate_left
             ·simp only [Act.put,List.setIfInBounds_toArray,List.set_cons_zero,List.set_cons_succ,Yb,Zb]
              rfl
             refine Zc (i:=2) (N:=some 77) (v:=?_) (a':=?_) #[true,true,true,false,false,false,false,false,false,false,false,false] rfl rfl (Oc Bf.out (by kernel_rfl)) (fun _ _ _ h=>h) (Or.inl ⟨by rfl,?_⟩) ?_ ?_;rotate_left
             ·intro w';go_simp;with_reducible rfl
             rotate_left
             ·simp only [Act.put,List.setIfInBounds_toArray,List.set_cons_zero,List.set_cons_succ,Yb,Zb]
              rfl
             refine Zc (i:=4) (N:=some 79) (v:=?_) (a':=?_) #[true,true,true,false,true,false,false,false,false,false,false,false] rfl rfl (Oc Bf.out (by kernel_rfl)) (fun _ _ _ h=>h) (Or.inl ⟨by rfl,?_⟩) ?_ ?_;rotate_left
             ·intro w';go_simp;with_reducible rfl
             rotate_left
             ·simp only [Act.put,List.setIfInBounds_toArray,List.set_cons_zero,List.set_cons_succ,Yb,Zb]
              rfl
             refine Zc (i:=6) (N:=some 81) (v:=?_) (a':=?_) #[true,true,true,false,true,false,true,false,false,false,false,false] rfl rfl (Oc Bf.out (by kernel_rfl)) (fun _ _ _ h=>h) (Or.inl ⟨by rfl,?_⟩) ?_ ?_;rotate_left
             ·intro w';go_simp;with_reducible rfl
             rotate_left
             ·simp only [Act.put,List.setIfInBounds_toArray,List.set_cons_zero,List.set_cons_succ,Yb,Zb]
              rfl
             refine yg (i:=3) (N:=some 78) (v:=?_) (a':=?_) #[true,true,true,true,true,false,true,false,false,false,false,false] rfl rfl (Ce Bf.out Xq.out (by kernel_rfl)) (fun _ _ _ h=>h) (Or.inl ⟨by rfl,?_⟩) hHeld ?_ ?_;rotate_left
             ·rintro w' ⟨s0,s1,s2,s3,s4,s5,s6,s7,s8,s9⟩;go_simp;with_reducible rfl
             rotate_left
             ·simp only [Act.put,List.setIfInBounds_toArray,List.set_cons_zero,List.set_cons_succ,Yb,Zb]
              rfl
             refine yg (i:=5) (N:=some 80) (v:=?_) (a':=?_) #[true,true,true,true,true,true,true,false,false,false,false,false] rfl rfl (Ce Bf.out Xq.out (by kernel_rfl)) (fun _ _ _ h=>h) (Or.inl ⟨by rfl,?_⟩) hHeld ?_ ?_;rotate_left
             ·rintro w' ⟨s0,s1,s2,s3,s4,s5,s6,s7,s8,s9⟩;go_simp;with_reducible rfl
             rotate_left
             ·simp only [Act.put,List.setIfInBounds_toArray,List.set_cons_zero,List.set_cons_succ,Yb,Zb]
              rfl
             refine Zc (i:=7) (N:=some 82) (v:=?_) (a':=?_) #[true,true,true,true,true,true,true,true,false,false,false,false] rfl rfl (Oc Bf.out (by kernel_rfl)) (fun _ _ _ h=>h) (Or.inl ⟨by rfl,?_⟩) ?_ ?_;rotate_left
             ·intro w';go_simp;with_reducible rfl
             rotate_left
             ·simp only [Act.put,List.setIfInBounds_toArray,List.set_cons_zero,List.set_cons_succ,Yb,Zb]
              rfl
             refine yg (i:=8) (N:=some 83) (v:=?_) (a':=?_) #[true,true,true,true,true,true,true,true,true,false,false,false] rfl rfl (Ce Bf.out Xq.out (by kernel_rfl)) (fun _ _ _ h=>h) (Or.inl ⟨by rfl,?_⟩) hHeld ?_ ?_;rotate_left
             ·rintro w' ⟨s0,s1,s2,s3,s4,s5,s6,s7,s8,s9⟩;go_simp;with_reducible rfl
             rotate_left
             ·simp only [Act.put,List.setIfInBounds_toArray,List.set_cons_zero,List.set_cons_succ,Yb,Zb]
              rfl
             refine ku (i:=9) (N:=some 84) #[true,true,true,true,true,true,true,true,true,true,false,false] rfl rfl (vo Bf.out (by kernel_rfl)) (by decide) (fun K hK=>?_);refine dn Try.func71 (by kernel_rfl) rfl #[.agg #[.slice Za Ra.length gb,.int .i64 La,.int .i64 Ja,.int .i64 Ia,.slice (some ng) Fa.length Lb],.agg #[.slice cC ((Oa Fa Ie).f0).length MB,.int .i64 ((Oa Fa Ie).f1),.int .i64 ((Oa Fa Ie).f2),.int .i64 ((Oa Fa Ie).f3),.int .i64 ((Oa Fa Ie).f4)]] (by rfl) rfl rfl (by (try simp only [List.map_toArray,List.map_cons,List.map_nil]);first|done|rfl|(simp only [List.length_drop,List.length_take];rfl)) ?_;with_reducible refine (ic.calls k3 _ _ Ra La Ja Ia _ _ Fa _ _ ((Oa Fa Ie).f0) ((Oa Fa Ie).f1) ((Oa Fa Ie).f2) ((Oa Fa Ie).f3) ((Oa Fa Ie).f4) false _ ?Jc ?Ic ?Qd ?Pd ?Br ?Ar A33.out).mono ?_
             (case Jc=>repeat (first|exact (Kd.Mb He.out HB.out)|(with_reducible refine Kd.Tb ?_ _)|(with_reducible refine Kd.Sb ?_ _)|(with_reducible refine Kd.qc ?_)))
             (case Ic=>exact Me.out)
             (case Qd=>repeat (first|exact (Kd.Mb Uf.out HB.out)|(with_reducible refine Kd.Tb ?_ _)|(with_reducible refine Kd.Sb ?_ _)|(with_reducible refine Kd.qc ?_)))
             (case Pd=>exact Ug.out)
             (case Br=>repeat (first|exact (Kd.Mb Jx.out HB.out)|(with_reducible refine Kd.Tb ?_ _)|(with_reducible refine Kd.Sb ?_ _)|(with_reducible refine Kd.qc ?_)))
             (case Ar=>exact qG.out)
             rintro e w40 ⟨rfl,hb⟩;refine ⟨_,rfl,?_⟩;have Bb:=ja.mk (Va (g:=ya) (o:=.cells #[.slice Za Ra.length gb,.int .i64 La,.int .i64 Ja,.int .i64 Ia,.slice (some ng) Fa.length Lb] 30 (0,0)) (by (with_reducible repeat (first|refine Aa ?_ _|refine Da ?_|refine Ba ?_ _));exact oa.out) hb);have Gb:=ja.mk (Qa (by repeat (first|(with_reducible first|exact HB.out|apply qa|apply ia|apply ta|refine ua ?_ Ta.out)|exact HB.out)) hb);clear oa HB;have oa:=Bb;have HB:=Gb;clear Bb Gb;(try clear hb);(try clear si);(try clear hk);(try clear hi);refine hK.out _ _ ⟨(ga oa.out 0).trans rfl,(ga oa.out 1).trans rfl,(ga oa.out 2).trans rfl,(ga oa.out 3).trans rfl,(ga oa.out 4).trans rfl,(Pa HB.out Uv),(Pa HB.out Tv),(Pa HB.out Sv),(Pa HB.out Rv),(Pa HB.out Qv)⟩ (fun hHeld=>?_);clear hK K;refine bn (a':=?_) ?_ ?_;rotate_left
             ·show Act.put _ (some 84) _=_
              simp only [Act.put,List.setIfInBounds_toArray,List.set_cons_zero,List.set_cons_succ,Yb,Zb]
              rfl
             refine Zc (i:=10) (N:=some 85) (v:=?_) (a':=?_) #[true,true,true,true,true,true,true,true,true,true,true,false] rfl rfl (Oc Bf.out (by kernel_rfl)) (fun _ _ _ h=>h) (Or.inl ⟨by rfl,?_⟩) ?_ ?_;rotate_left
             ·intro w';go_simp;with_reducible rfl
             rotate_left
             ·simp only [Act.put,List.setIfInBounds_toArray,List.set_cons_zero,List.set_cons_succ,Yb,Zb]
              rfl
             refine Zc (i:=11) (N:=some 86) (v:=?_) (a':=?_) #[true,true,true,true,true,true,true,true,true,true,true,true] rfl rfl (Oc Bf.out (by kernel_rfl)) (fun _ _ _ h=>h) (Or.inl ⟨by rfl,?_⟩) ?_ ?_;rotate_left
             ·intro w';go_simp;with_reducible rfl
             rotate_left
             ·simp only [Act.put,List.setIfInBounds_toArray,List.set_cons_zero,List.set_cons_succ,Yb,Zb]
              rfl
             refine Np (Ul Bf.out (by kernel_rfl)) ?_
             try go_wp2
             go_ret;exact ⟨by first|rfl|(simp [Na,Ma] <;> rfl)|(simp [*,Na,Ma] <;> rfl),by repeat (first|(with_reducible first|exact HB.out|apply qa|apply ia|apply ta|refine ua ?_ Ta.out)|exact HB.out)⟩
          ·rw [if_neg FG] at H;exact absurd H (by simp)
         ·rw [if_neg G3] at H;have laa:decide (Ie < (Fa.length:Int))=false:=decide_eq_false G3;clear G3;obtain rfl:=Option.some.inj H;have UL:wr.cell? ⟨ya,0,none⟩=some (.slice Za Ra.length gb):=(ga oa.out 0).trans rfl;have TL:wr.cell? ⟨ya,1,none⟩=some (.int .i64 La):=(ga oa.out 1).trans rfl;have SL:wr.cell? ⟨ya,2,none⟩=some (.int .i64 Ja):=(ga oa.out 2).trans rfl;have RL:wr.cell? ⟨ya,3,none⟩=some (.int .i64 Ia):=(ga oa.out 3).trans rfl;have QL:wr.cell? ⟨ya,4,none⟩=some (.slice Vb Fa.length Lb):=(ga oa.out 4).trans rfl;have SK:=aa oa.out 0;have RK:=aa oa.out 1;have QK:=aa oa.out 2;have PK:=aa oa.out 3;have OK:=aa oa.out 4;go_wp2;go_ret;exact ⟨by first|rfl|(simp [Na,Ma] <;> rfl)|(simp [*,Na,Ma] <;> rfl),by repeat (first|(with_reducible first|exact HB.out|apply qa|apply ia|apply ta|refine ua ?_ Ta.out)|exact HB.out)⟩
end Go.Proofs.Ytkigbdceceeenaa.P
end
