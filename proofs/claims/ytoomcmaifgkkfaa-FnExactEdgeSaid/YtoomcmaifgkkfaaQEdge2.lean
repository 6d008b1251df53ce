import Derived.Test.YtoomcmaifgkkfaaQEdge1
set_option maxHeartbeats 8000000
set_option maxRecDepth 100000
section
namespace Go.Proofs.Ytoomcmaifgkkfaa.P
open Go.RowKit Go.Proofs.Ia.Zb Go.Proofs.Ia.Qd Go.Proofs.Ia.Me
set_option linter.unusedVariables false
set_option linter.unusedSimpArgs false
attribute [local go_sem] Wi Ui jk fk Ch Bh Vi Ti
def Ic.l0:Nat→Int→List Int→Int→Int→Int→List (Df)→List (ud)→Int→Int→Int→Int→Option (Bool)
 | 0,_,_,_,_,_,_,_,_,_,_,_=>none
 | k + 1,x5,Mc,Nc,Lc,Jc,Nb,Ig,Sk,El,ek,bk=>if x5 < (Ig.length:Int) then (if 0 ≤ x5 then ((zb.f k Mc Nc Lc Jc Nb ((Da Ig x5).f0) ((Da Ig x5).f1) ((Da Ig x5).f2) ((Da Ig x5).f3) ((Da Ig x5).f4) ((Da Ig x5).f5) ((Da Ig x5).f6)).bind fun t104=>(if t104=true then (Ic.l0 k (wrap64 (x5 + 1)) Mc Nc Lc Jc Nb Ig Sk El ek bk) else (some false))) else (none)) else ((mb.f ek 0 (wrap64 ((Nb.length:Int) - 1))).bind fun t105=>((mb.f El 0 (wrap64 (Jc - 1))).bind fun t106=>(if Sk=0 then (if t105=true then (if El=0 then (some (bk == 0)) else (some false)) else (some false)) else (if Sk=1 then (if t105=true then (if t106=true then ((mb.f bk 0 (wrap64 ((Nb.length:Int) - 1))).bind fun t107=>(some t107)) else (some false)) else (some false)) else (if Sk=2 then (if t106=true then (if ek=0 then (some (bk == 0)) else (some false)) else (some false)) else (some false))))))
def Ic.f (k:Nat) (Ma:List Int) (La:Int) (Na:Int) (Ka:Int) (Ea:List (Df)) (Zc:List (ud)) (qc:Int) (ec:Int) (fc:Int) (Qc:Int):Option (Bool):=Ic.l0 k 0 Ma La Na Ka Ea Zc qc ec fc Qc
def Ic.T4:Bool × List (List Nat × List Nat):=(true,[([],[]),([],[]),([1],[1]),([],[]),([2,3],[2,3]),([4],[4]),([0,5],[0,5]),([6],[6])])
def Ic.B4:List Nat:=[0,0,2,0,14,30,63,127]
theorem Ic.HV:Bn .any (opsOf Try.f101 4)=Ic.T4:=by kernel_rfl
theorem Ic.MP:um Ic.T4.2 Ic.B4=true:=by kernel_rfl
theorem Ic.calls (k:Nat) (xb:Option Addr) (qb:Nat) (Ma:List Int) (La:Int) (Na:Int) (Ka:Int) (Qb:Option Addr) (Kb:Nat) (Ea:List (Df)) (dg:Option Addr) (Rf:Nat) (Zc:List (ud)) (qc:Int) (ec:Int) (fc:Int) (Qc:Int) (r:Bool) (w:World) (Re:Kd.C (Kd.int .i64) w xb Ma.length Ma) (Pe:Ma.length ≤ qb) (Cg:Kd.C Pr w Qb Ea.length Ea) (zg:Ea.length ≤ Kb) (Aw:Kd.C sg w dg Zc.length Zc) (Cw:Zc.length ≤ Rf) (h:Ic.f k Ma La Na Ka Ea Zc qc ec fc Qc=some r) :
  Calls Try.prog 101 #[.agg #[.slice xb Ma.length qb,.int .i64 La,.int .i64 Na,.int .i64 Ka,.slice Qb Ea.length Kb],.agg #[.slice dg Zc.length Rf,.int .i64 qc,.int .i64 ec,.int .i64 fc,.int .i64 Qc]] w fun e w'=>e = .returned (.bool r)∧Below w.heap.size w w':=by
 have RC:=Try.underlying45;have dA:=Try.underlying83;have xJ:=Try.underlying122;have Ue:=aa.mk Re;have af:=aa.mk Pe;clear Re Pe;have Xf:=aa.mk Cg;have Zg:=aa.mk zg;clear Cg zg;have Pp:=aa.mk Aw;have Hr:=aa.mk Cw;clear Aw Cw;have HB:=aa.mk (Below.refl w.heap.size w);have H:(Ic.l0 k 0 Ma La Na Ka Ea Zc qc ec fc Qc)=some r:=h;clear h;have H':=aa.mk H;clear H;go_enter Try.func101,Try.ntmps101;go_wp2_with (first|((with_reducible refine Bb (N:=2) rfl ?_);(try (refine Jj (by rfl) ?_;dsimp only));refine Ob ?hg (N:=2) ?hd (cs:=#[.slice xb Ma.length qb,.int .i64 La,.int .i64 Na,.int .i64 Ka,.slice Qb Ea.length Kb]) (t:=45) ?hr ?_;(case hd=>rfl);(case hg=>rfl);(case hr=>first|(go_simp;done)|(go_simp;rfl));intro za hg w3 oc hb;have Cb:=aa.mk (Oa (by repeat (first|(with_reducible first|exact HB.out|apply oa|apply ia|apply qa)|exact HB.out)) hb);have Lb:=aa.mk (oc);have Pb:=aa.mk ((by rw [hg];exact (Ja (by repeat (first|(with_reducible first|exact HB.out|apply oa|apply ia|apply qa)|exact HB.out))):w.heap.size ≤ za));have Ec:=aa.mk ((by rw [hg];exact (Ja (by repeat (first|(with_reducible first|exact HB.out|apply oa|apply ia|apply qa)|exact HB.out))):w.heap.size ≤ za));clear HB;have HB:=Cb;have ta:=Lb;have He:=Pb;have Ua:=Ec;clear Cb Lb Pb Ec hb oc hg)|((with_reducible refine Bb (N:=3) rfl ?_);(try (refine Jj (by rfl) ?_;dsimp only));refine Ob ?hg (N:=3) ?hd (cs:=#[.slice dg Zc.length Rf,.int .i64 qc,.int .i64 ec,.int .i64 fc,.int .i64 Qc]) (t:=83) ?hr ?_;(case hd=>rfl);(case hg=>rfl);(case hr=>first|(go_simp;done)|(go_simp;rfl));intro Ga hg w4 oc hb;have Cb:=aa.mk (Xa (g:=za) (o:=.cells #[.slice xb Ma.length qb,.int .i64 La,.int .i64 Na,.int .i64 Ka,.slice Qb Ea.length Kb] 45 (0,0)) (by (with_reducible repeat (first|refine Aa ?_ _|refine Fa ?_|refine Ba ?_ _));exact ta.out) hb);have Lb:=aa.mk (Oa (by repeat (first|(with_reducible first|exact HB.out|apply oa|apply ia|apply qa|refine ua ?_ Ua.out)|exact HB.out)) hb);have Pb:=aa.mk (oc);have Ec:=aa.mk ((by rw [hg];exact (Ja (by repeat (first|(with_reducible first|exact HB.out|apply oa|apply ia|apply qa|refine ua ?_ Ua.out)|exact HB.out))):w.heap.size ≤ Ga));have fe:=aa.mk ((by rw [hg];exact (Ja (by repeat (first|(with_reducible first|exact HB.out|apply oa|apply ia|apply qa|refine ua ?_ Ua.out)|exact HB.out))):w.heap.size ≤ Ga));have Af:=aa.mk ((by rw [hg];exact Nat.ne_of_lt (qd (g:=za) (o:=.cells #[.slice xb Ma.length qb,.int .i64 La,.int .i64 Na,.int .i64 Ka,.slice Qb Ea.length Kb] 45 (0,0)) (by (with_reducible repeat (first|refine Aa ?_ _|refine Fa ?_|refine Ba ?_ _));exact ta.out)):za ≠ Ga));have Ah:=aa.mk ((by rw [hg];exact Nat.ne_of_gt (qd (g:=za) (o:=.cells #[.slice xb Ma.length qb,.int .i64 La,.int .i64 Na,.int .i64 Ka,.slice Qb Ea.length Kb] 45 (0,0)) (by (with_reducible repeat (first|refine Aa ?_ _|refine Fa ?_|refine Ba ?_ _));exact ta.out)):Ga ≠ za));clear ta HB;have ta:=Cb;have HB:=Lb;have ya:=Pb;have zk:=Ec;have Rc:=fe;have Fb:=Af;have Eb:=Ah;clear Cb Lb Pb Ec fe Af Ah hb oc hg))
 go_loopg [5] k (fun kq v5 w'=>∃ (Ca:Int),v5 = .int .i64 Ca∧aa (Ic.l0 kq Ca Ma La Na Ka Ea Zc qc ec fc Qc=some r)∧aa (kq ≤ k)∧aa (w'.heap[za]? = some (.cells #[(.slice xb Ma.length qb),.int .i64 La,.int .i64 Na,.int .i64 Ka,(.slice Qb Ea.length Kb)] 45 (0,0)))∧aa (w'.heap[Ga]? = some (.cells #[(.slice dg Zc.length Rf),.int .i64 qc,.int .i64 ec,.int .i64 fc,.int .i64 Qc] 83 (0,0)))∧aa (Below w.heap.size w w'))
 case atStart=>exact ⟨(0),(by first|rfl|(simp;done)|(simp [*];done)),H',⟨Nat.le_refl _⟩,⟨by (with_reducible repeat (first|refine Aa ?_ _|refine Fa ?_|refine Ba ?_ _));exact ta.out⟩,⟨by (with_reducible repeat (first|refine Aa ?_ _|refine Fa ?_|refine Ba ?_ _));exact ya.out⟩,⟨by repeat (first|(with_reducible first|exact HB.out|apply oa|apply ia|apply qa|refine ua ?_ Ua.out|refine ua ?_ Rc.out)|exact HB.out)⟩⟩
 case round =>
  clear H'
  try clear c1
  try clear p2
  (try clear HA);(try clear Cf);(try clear ta);(try clear ya);(try clear HB);obtain ⟨Ca,rfl,HA,Cf,ta,ya,HB⟩:=hrel;cases gk with
  | zero=>exact absurd HA.out (by simp [Ic.l0])
  | succ k1 =>
   have H:=HA.out;clear HA;simp only [Ic.l0] at H
   by_cases c5:Ca < (Zc.length:Int)
   ·rw [if_pos c5] at H;have Sn:decide (Ca < (Zc.length:Int))=true:=decide_eq_true c5;clear c5
    by_cases c6:0 ≤ Ca
    ·rw [if_pos c6] at H;have Ro:decide (0 ≤ Ca)=true:=decide_eq_true c6;clear c6;replace H:=Option.bind_eq_some_iff.mp H;obtain ⟨t104,jL,H⟩:=H;replace H:(if t104=true then (Ic.l0 k1 (wrap64 (Ca + 1)) Ma La Na Ka Ea Zc qc ec fc Qc) else (some false))=some r:=H;have A7:=aa.mk jL;clear jL
     by_cases c8:t104=true
     ·subst c8;have H1:(Ic.l0 k1 (wrap64 (Ca + 1)) Ma La Na Ka Ea Zc qc ec fc Qc)=some r:=by rw [if_pos rfl] at H;exact H
      clear H;have H:=H1;clear H1;have H':=aa.mk H;clear H;have xaq:=Eb.out;have jaq:=Fb.out;have Ei:wr.cell? ⟨Ga,0,none⟩=some (.slice dg Zc.length Rf):=(ja ya.out 0).trans rfl;have Di:wr.cell? ⟨Ga,1,none⟩=some (.int .i64 qc):=(ja ya.out 1).trans rfl;have Ci:wr.cell? ⟨Ga,2,none⟩=some (.int .i64 ec):=(ja ya.out 2).trans rfl;have Bi:wr.cell? ⟨Ga,3,none⟩=some (.int .i64 fc):=(ja ya.out 3).trans rfl;have Ai:wr.cell? ⟨Ga,4,none⟩=some (.int .i64 Qc):=(ja ya.out 4).trans rfl;have zi:=ga ya.out 0;have si:=ga ya.out 1;have qi:=ga ya.out 2;have ni:=ga ya.out 3;have ki:=ga ya.out 4
      try go_wp2
      have Cb:=aa.mk (Fa ta.out);have Lb:=aa.mk (Fa ya.out);have Pb:=aa.mk (qa HB.out);clear ta ya HB;have ta:=Cb;have ya:=Lb;have HB:=Pb;clear Cb Lb Pb;have ML:0 ≤ (Ca:Int):=Pa;have GL:Ca < (Zc.length:Int):=Pa;obtain ⟨ei,G8,lq,jq,iq,gq,fq,cq,bq⟩:=au Pp.out Ca ML GL;have dy:=bq;have ey:=cq;have fy:=fq;have gy:=gq;have iy:=iq;have jy:=jq;have ny:=lq;cases G8;replace lq:=Sa HB.out lq;replace jq:=Sa HB.out jq;replace iq:=Sa HB.out iq;replace gq:=Sa HB.out gq;replace fq:=Sa HB.out fq;replace cq:=Sa HB.out cq;replace bq:=Sa HB.out bq;replace ML:=eq_true ML;replace GL:=eq_true GL;refine fl (n:=8) (S:=fun w'=>w'.cell? ⟨za,0,none⟩=some (.slice xb Ma.length qb)∧w'.cell? ⟨za,1,none⟩=some (.int .i64 La)∧w'.cell? ⟨za,2,none⟩=some (.int .i64 Na)∧w'.cell? ⟨za,3,none⟩=some (.int .i64 Ka)∧w'.cell? ⟨za,4,none⟩=some (.slice Qb Ea.length Kb)∧w'.cell? ⟨Ga,0,none⟩=some (.slice (some ei) Zc.length Rf)∧w'.cell? ⟨Ga,1,none⟩=some (.int .i64 qc)∧w'.cell? ⟨Ga,2,none⟩=some (.int .i64 ec)∧w'.cell? ⟨Ga,3,none⟩=some (.int .i64 fc)∧w'.cell? ⟨Ga,4,none⟩=some (.int .i64 Qc)∧w'.cell? (ei.add ((Ca).toNat * 7))=some (.int .i64 ((Da Zc Ca).f0))∧w'.cell? ⟨(ei.add ((Ca).toNat * 7)).block,(ei.add ((Ca).toNat * 7)).off + 1,none⟩=some (.int .i64 ((Da Zc Ca).f1))∧w'.cell? ⟨(ei.add ((Ca).toNat * 7)).block,(ei.add ((Ca).toNat * 7)).off + 2,none⟩=some (.int .i64 ((Da Zc Ca).f2))∧w'.cell? ⟨(ei.add ((Ca).toNat * 7)).block,(ei.add ((Ca).toNat * 7)).off + 3,none⟩=some (.int .i64 ((Da Zc Ca).f3))∧w'.cell? ⟨(ei.add ((Ca).toNat * 7)).block,(ei.add ((Ca).toNat * 7)).off + 4,none⟩=some (.int .i64 ((Da Zc Ca).f4))∧w'.cell? ⟨(ei.add ((Ca).toNat * 7)).block,(ei.add ((Ca).toNat * 7)).off + 5,none⟩=some (.int .i64 ((Da Zc Ca).f5))∧w'.cell? ⟨(ei.add ((Ca).toNat * 7)).block,(ei.add ((Ca).toNat * 7)).off + 6,none⟩=some (.string ((Da Zc Ca).f6))) (ds:=[]) #[false,false,false,false,false,false,false,false] (by kernel_rfl) rfl rfl ⟨(ja ta.out 0).trans rfl,(ja ta.out 1).trans rfl,(ja ta.out 2).trans rfl,(ja ta.out 3).trans rfl,(ja ta.out 4).trans rfl,(ja ya.out 0).trans rfl,(ja ya.out 1).trans rfl,(ja ya.out 2).trans rfl,(ja ya.out 3).trans rfl,(ja ya.out 4).trans rfl,(Sa HB.out ny),(Sa HB.out jy),(Sa HB.out iy),(Sa HB.out gy),(Sa HB.out fy),(Sa HB.out ey),(Sa HB.out dy)⟩ (fun hHeld=>?_);refine Si Ic.HV Ic.MP (fun mg eu=>?_);generalize wr.drew=Vj at ta ya HB lq jq iq gq fq cq bq hHeld ⊢;refine od (i:=1) (N:=some 16) (v:=?_) (a':=?_) #[false,true,false,false,false,false,false,false] rfl rfl (Vc mg.out (by kernel_rfl)) (fun _ _ _ h=>h) (Or.inl ⟨by rfl,?_⟩) ?_ ?_;rotate_left
      ·intro w';go_simp;with_reducible rfl
      rotate_left
      ·simp only [Act.put,List.setIfInBounds_toArray,List.set_cons_zero,List.set_cons_succ,Vb,Wb]
       rfl
      refine od (i:=3) (N:=some 18) (v:=?_) (a':=?_) #[false,true,false,true,false,false,false,false] rfl rfl (Vc mg.out (by kernel_rfl)) (fun _ _ _ h=>h) (Or.inl ⟨by rfl,?_⟩) ?_ ?_;rotate_left
      ·intro w';go_simp;with_reducible rfl
      rotate_left
      ·simp only [Act.put,List.setIfInBounds_toArray,List.set_cons_zero,List.set_cons_succ,Vb,Wb]
       rfl
      refine Ih (i:=0) (N:=some 15) (v:=?_) (a':=?_) #[true,true,false,true,false,false,false,false] rfl rfl (zf mg.out eu.out (by kernel_rfl)) (fun _ _ _ h=>h) (Or.inl ⟨by rfl,?_⟩) hHeld ?_ ?_;rotate_left
      ·rintro w' ⟨s0,s1,s2,s3,s4,s5,s6,s7,s8,s9,yL,LV,KV,JV,s14,s15,s16⟩;go_simp;with_reducible rfl
      rotate_left
      ·simp only [Act.put,List.setIfInBounds_toArray,List.set_cons_zero,List.set_cons_succ,Vb,Wb]
       rfl
      refine Ih (i:=2) (N:=some 17) (v:=?_) (a':=?_) #[true,true,true,true,false,false,false,false] rfl rfl (zf mg.out eu.out (by kernel_rfl)) (fun _ _ _ h=>h) (Or.inl ⟨by rfl,?_⟩) hHeld ?_ ?_;rotate_left
      ·rintro w' ⟨s0,s1,s2,s3,s4,s5,s6,s7,s8,s9,yL,LV,KV,JV,s14,s15,s16⟩;go_simp;with_reducible rfl
      rotate_left
      ·simp only [Act.put,List.setIfInBounds_toArray,List.set_cons_zero,List.set_cons_succ,Vb,Wb]
       rfl
      refine od (i:=4) (N:=some 19) (v:=?_) (a':=?_) #[true,true,true,true,true,false,false,false] rfl rfl (Vc mg.out (by kernel_rfl)) (fun _ _ _ h=>h) (Or.inl ⟨by rfl,?_⟩) ?_ ?_;rotate_left
      ·intro w';go_simp;with_reducible rfl
      rotate_left
      ·simp only [Act.put,List.setIfInBounds_toArray,List.set_cons_zero,List.set_cons_succ,Vb,Wb]
       rfl
      refine Ih (i:=5) (N:=some 20) (v:=?_) (a':=?_) #[true,true,true,true,true,true,false,false] rfl rfl (zf mg.out eu.out (by kernel_rfl)) (fun _ _ _ h=>h) (Or.inl ⟨by rfl,?_⟩) hHeld ?_ ?_;rotate_left
      ·rintro w' ⟨s0,s1,s2,s3,s4,s5,s6,s7,s8,s9,yL,LV,KV,JV,s14,s15,s16⟩;go_simp;with_reducible rfl
      rotate_left
      ·simp only [Act.put,List.setIfInBounds_toArray,List.set_cons_zero,List.set_cons_succ,Vb,Wb]
       rfl
      refine Ko (i:=6) (N:=some 21) #[true,true,true,true,true,true,true,false] rfl rfl (vp mg.out (by kernel_rfl)) (by decide) (fun K hK=>?_);refine ju Try.func121 (by kernel_rfl) rfl #[.agg #[.slice xb Ma.length qb,.int .i64 La,.int .i64 Na,.int .i64 Ka,.slice Qb Ea.length Kb],.agg #[.int .i64 ((Da Zc Ca).f0),.int .i64 ((Da Zc Ca).f1),.int .i64 ((Da Zc Ca).f2),.int .i64 ((Da Zc Ca).f3),.int .i64 ((Da Zc Ca).f4),.int .i64 ((Da Zc Ca).f5),.string ((Da Zc Ca).f6)]] (by rfl) rfl rfl (by (try simp only [List.map_toArray,List.map_cons,List.map_nil]);first|done|rfl|(simp only [List.length_drop,List.length_take];rfl)) ?_;with_reducible refine (zb.calls k1 _ _ Ma La Na Ka _ _ Ea ((Da Zc Ca).f0) ((Da Zc Ca).f1) ((Da Zc Ca).f2) ((Da Zc Ca).f3) ((Da Zc Ca).f4) ((Da Zc Ca).f5) ((Da Zc Ca).f6) true _ ?jc ?ic ?Ed ?Dd A7.out).mono ?_
      (case jc=>repeat (first|exact (Kd.Ib Ue.out HB.out)|(with_reducible refine Kd.Jb ?_ _)|(with_reducible refine Kd.Gb ?_ _)|(with_reducible refine Kd.dc ?_)))
      (case ic=>exact af.out)
      (case Ed=>repeat (first|exact (Kd.Ib Xf.out HB.out)|(with_reducible refine Kd.Jb ?_ _)|(with_reducible refine Kd.Gb ?_ _)|(with_reducible refine Kd.dc ?_)))
      (case Dd=>exact Zg.out)
      rintro e DA ⟨rfl,hb⟩;refine ⟨_,rfl,?_⟩;have Cb:=aa.mk (Xa (g:=za) (o:=.cells #[.slice xb Ma.length qb,.int .i64 La,.int .i64 Na,.int .i64 Ka,.slice Qb Ea.length Kb] 45 (0,0)) (by (with_reducible repeat (first|refine Aa ?_ _|refine Fa ?_|refine Ba ?_ _));exact ta.out) hb);have Lb:=aa.mk (Xa (g:=Ga) (o:=.cells #[.slice (some ei) Zc.length Rf,.int .i64 qc,.int .i64 ec,.int .i64 fc,.int .i64 Qc] 83 (0,0)) (by (with_reducible repeat (first|refine Aa ?_ _|refine Fa ?_|refine Ba ?_ _));exact ya.out) hb);have Pb:=aa.mk (Oa (by repeat (first|(with_reducible first|exact HB.out|apply oa|apply ia|apply qa|refine ua ?_ Ua.out|refine ua ?_ Rc.out)|exact HB.out)) hb);clear ta ya HB;have ta:=Cb;have ya:=Lb;have HB:=Pb;clear Cb Lb Pb;(try clear hb);(try clear Gj);(try clear hk);(try clear hi);refine hK.out _ _ ⟨(ja ta.out 0).trans rfl,(ja ta.out 1).trans rfl,(ja ta.out 2).trans rfl,(ja ta.out 3).trans rfl,(ja ta.out 4).trans rfl,(ja ya.out 0).trans rfl,(ja ya.out 1).trans rfl,(ja ya.out 2).trans rfl,(ja ya.out 3).trans rfl,(ja ya.out 4).trans rfl,(Sa HB.out ny),(Sa HB.out jy),(Sa HB.out iy),(Sa HB.out gy),(Sa HB.out fy),(Sa HB.out ey),(Sa HB.out dy)⟩ (fun hHeld=>?_);clear hK K;refine Rg (a':=?_) ?_ ?_;rotate_left
      ·show Act.put _ (some 21) _=_
       simp only [Act.put,List.setIfInBounds_toArray,List.set_cons_zero,List.set_cons_succ,Vb,Wb]
       rfl
      refine od (i:=7) (N:=some 22) (v:=?_) (a':=?_) #[true,true,true,true,true,true,true,true] rfl rfl (Vc mg.out (by kernel_rfl)) (fun _ _ _ h=>h) (Or.inl ⟨by rfl,?_⟩) ?_ ?_;rotate_left
      ·intro w';go_simp;with_reducible rfl
      rotate_left
      ·simp only [Act.put,List.setIfInBounds_toArray,List.set_cons_zero,List.set_cons_succ,Vb,Wb]
       rfl
      refine Mp (Sl mg.out (by kernel_rfl)) ?_
      try go_wp2
      go_roundg k1
      case measure=>have:=Cf.out;omega
      case rel=>exact ⟨(wrap64 (Ca + 1)),(by first|rfl|(simp;done)|(simp [*];done)),H',⟨by have:=Cf.out;omega⟩,⟨by (with_reducible repeat (first|refine Aa ?_ _|refine Fa ?_|refine Ba ?_ _));exact ta.out⟩,⟨by (with_reducible repeat (first|refine Aa ?_ _|refine Fa ?_|refine Ba ?_ _));exact ya.out⟩,⟨by repeat (first|(with_reducible first|exact HB.out|apply oa|apply ia|apply qa|refine ua ?_ Ua.out|refine ua ?_ Rc.out)|exact HB.out)⟩⟩
     ·replace c8:=Bool.eq_false_iff.mpr c8;subst c8;have H1:(some false)=some r:=by rw [if_neg (show ¬ (false=true) by decide)] at H;exact H
      clear H;have H:=H1;clear H1;obtain rfl:=Option.some.inj H;have Tav:=Eb.out;have lav:=Fb.out;have Qt:wr.cell? ⟨Ga,0,none⟩=some (.slice dg Zc.length Rf):=(ja ya.out 0).trans rfl;have Pt:wr.cell? ⟨Ga,1,none⟩=some (.int .i64 qc):=(ja ya.out 1).trans rfl;have Ot:wr.cell? ⟨Ga,2,none⟩=some (.int .i64 ec):=(ja ya.out 2).trans rfl;have Nt:wr.cell? ⟨Ga,3,none⟩=some (.int .i64 fc):=(ja ya.out 3).trans rfl;have Mt:wr.cell? ⟨Ga,4,none⟩=some (.int .i64 Qc):=(ja ya.out 4).trans rfl;have Ft:=ga ya.out 0;have Et:=ga ya.out 1;have Dt:=ga ya.out 2;have Ct:=ga ya.out 3;have Bt:=ga ya.out 4
      try go_wp2
      have Cb:=aa.mk (Fa ta.out);have Lb:=aa.mk (Fa ya.out);have Pb:=aa.mk (qa HB.out);clear ta ya HB;have ta:=Cb;have ya:=Lb;have HB:=Pb;clear Cb Lb Pb;have ML:0 ≤ (Ca:Int):=Pa;have GL:Ca < (Zc.length:Int):=Pa;obtain ⟨ei,G8,lq,jq,iq,gq,fq,cq,bq⟩:=au Pp.out Ca ML GL;have dy:=bq;have ey:=cq;have fy:=fq;have gy:=gq;have iy:=iq;have jy:=jq;have ny:=lq;cases G8;replace lq:=Sa HB.out lq;replace jq:=Sa HB.out jq;replace iq:=Sa HB.out iq;replace gq:=Sa HB.out gq;replace fq:=Sa HB.out fq;replace cq:=Sa HB.out cq;replace bq:=Sa HB.out bq;replace ML:=eq_true ML;replace GL:=eq_true GL;refine fl (n:=8) (S:=fun w'=>w'.cell? ⟨za,0,none⟩=some (.slice xb Ma.length qb)∧w'.cell? ⟨za,1,none⟩=some (.int .i64 La)∧w'.cell? ⟨za,2,none⟩=some (.int .i64 Na)∧w'.cell? ⟨za,3,none⟩=some (.int .i64 Ka)∧w'.cell? ⟨za,4,none⟩=some (.slice Qb Ea.length Kb)∧w'.cell? ⟨Ga,0,none⟩=some (.slice (some ei) Zc.length Rf)∧w'.cell? ⟨Ga,1,none⟩=some (.int .i64 qc)∧w'.cell? ⟨Ga,2,none⟩=some (.int .i64 ec)∧w'.cell? ⟨Ga,3,none⟩=some (.int .i64 fc)∧w'.cell? ⟨Ga,4,none⟩=some (.int .i64 Qc)∧w'.cell? (ei.add ((Ca).toNat * 7))=some (.int .i64 ((Da Zc Ca).f0))∧w'.cell? ⟨(ei.add ((Ca).toNat * 7)).block,(ei.add ((Ca).toNat * 7)).off + 1,none⟩=some (.int .i64 ((Da Zc Ca).f1))∧w'.cell? ⟨(ei.add ((Ca).toNat * 7)).block,(ei.add ((Ca).toNat * 7)).off + 2,none⟩=some (.int .i64 ((Da Zc Ca).f2))∧w'.cell? ⟨(ei.add ((Ca).toNat * 7)).block,(ei.add ((Ca).toNat * 7)).off + 3,none⟩=some (.int .i64 ((Da Zc Ca).f3))∧w'.cell? ⟨(ei.add ((Ca).toNat * 7)).block,(ei.add ((Ca).toNat * 7)).off + 4,none⟩=some (.int .i64 ((Da Zc Ca).f4))∧w'.cell? ⟨(ei.add ((Ca).toNat * 7)).block,(ei.add ((Ca).toNat * 7)).off + 5,none⟩=some (.int .i64 ((Da Zc Ca).f5))∧w'.cell? ⟨(ei.add ((Ca).toNat * 7)).block,(ei.add ((Ca).toNat * 7)).off + 6,none⟩=some (.string ((Da Zc Ca).f6))) (ds:=[]) #[false,false,false,false,false,false,false,false] (by kernel_rfl) rfl rfl ⟨(ja ta.out 0).trans rfl,(ja ta.out 1).trans rfl,(ja ta.out 2).trans rfl,(ja ta.out 3).trans rfl,(ja ta.out 4).trans rfl,(ja ya.out 0).trans rfl,(ja ya.out 1).trans rfl,(ja ya.out 2).trans rfl,(ja ya.out 3).trans rfl,(ja ya.out 4).trans rfl,(Sa HB.out ny),(Sa HB.out jy),(Sa HB.out iy),(Sa HB.out gy),(Sa HB.out fy),(Sa HB.out ey),(Sa HB.out dy)⟩ (fun hHeld=>?_);refine Si Ic.HV Ic.MP (fun mg eu=>?_);generalize wr.drew=Fs at ta ya HB lq jq iq gq fq cq bq hHeld ⊢;refine od (i:=1) (N:=some 16) (v:=?_) (a':=?_) #[false,true,false,false,false,false,false,false] rfl rfl (Vc mg.out (by kernel_rfl)) (fun _ _ _ h=>h) (Or.inl ⟨by rfl,?_⟩) ?_ ?_;rotate_left
      ·intro w';go_simp;with_reducible rfl
      rotate_left
      ·simp only [Act.put,List.setIfInBounds_toArray,List.set_cons_zero,List.set_cons_succ,Vb,Wb]
       rfl
      refine od (i:=3) (N:=some 18) (v:=?_) (a':=?_) #[false,true,false,true,false,false,false,false] rfl rfl (Vc mg.out (by kernel_rfl)) (fun _ _ _ h=>h) (Or.inl ⟨by rfl,?_⟩) ?_ ?_;rotate_left
      ·intro w';go_simp;with_reducible rfl
      rotate_left
      ·simp only [Act.put,List.setIfInBounds_toArray,List.set_cons_zero,List.set_cons_succ,Vb,Wb]
       rfl
      refine Ih (i:=0) (N:=some 15) (v:=?_) (a':=?_) #[true,true,false,true,false,false,false,false] rfl rfl (zf mg.out eu.out (by kernel_rfl)) (fun _ _ _ h=>h) (Or.inl ⟨by rfl,?_⟩) hHeld ?_ ?_;rotate_left
      ·rintro w' ⟨s0,s1,s2,s3,s4,s5,s6,s7,s8,s9,yL,LV,KV,JV,s14,s15,s16⟩;go_simp;with_reducible rfl
      rotate_left
      ·simp only [Act.put,List.setIfInBounds_toArray,List.set_cons_zero,List.set_cons_succ,Vb,Wb]
       rfl
      refine Ih (i:=2) (N:=some 17) (v:=?_) (a':=?_) #[true,true,true,true,false,false,false,false] rfl rfl (zf mg.out eu.out (by kernel_rfl)) (fun _ _ _ h=>h) (Or.inl ⟨by rfl,?_⟩) hHeld ?_ ?_;rotate_left
      ·rintro w' ⟨s0,s1,s2,s3,s4,s5,s6,s7,s8,s9,yL,LV,KV,JV,s14,s15,s16⟩;go_simp;with_reducible rfl
      rotate_left
      ·simp only [Act.put,List.setIfInBounds_toArray,List.set_cons_zero,List.set_cons_succ,Vb,Wb]
       rfl
      refine od (i:=4) (N:=some 19) (v:=?_) (a':=?_) #[true,true,true,true,true,false,false,false] rfl rfl (Vc mg.out (by kernel_rfl)) (fun _ _ _ h=>h) (Or.inl ⟨by rfl,?_⟩) ?_ ?_;rotate_left
      ·intro w';go_simp;with_reducible rfl
      rotate_left
      ·simp only [Act.put,List.setIfInBounds_toArray,List.set_cons_zero,List.set_cons_succ,Vb,Wb]
       rfl
      refine Ih (i:=5) (N:=some 20) (v:=?_) (a':=?_) #[true,true,true,true,true,true,false,false] rfl rfl (zf mg.out eu.out (by kernel_rfl)) (fun _ _ _ h=>h) (Or.inl ⟨by rfl,?_⟩) hHeld ?_ ?_;rotate_left
      ·rintro w' ⟨s0,s1,s2,s3,s4,s5,s6,s7,s8,s9,yL,LV,KV,JV,s14,s15,s16⟩;go_simp;with_reducible rfl
      rotate_left
      ·simp only [Act.put,List.setIfInBounds_toArray,List.set_cons_zero,List.set_cons_succ,Vb,Wb]
       rfl
      refine Ko (i:=6) (N:=some 21) #[true,true,true,true,true,true,true,false] rfl rfl (vp mg.out (by kernel_rfl)) (by decide) (fun K hK=>?_);refine ju Try.func121 (by kernel_rfl) rfl #[.agg #[.slice xb Ma.length qb,.int .i64 La,.int .i64 Na,.int .i64 Ka,.slice Qb Ea.length Kb],.agg #[.int .i64 ((Da Zc Ca).f0),.int .i64 ((Da Zc Ca).f1),.int .i64 ((Da Zc Ca).f2),.int .i64 ((Da Zc Ca).f3),.int .i64 ((Da Zc Ca).f4),.int .i64 ((Da Zc Ca).f5),.string ((Da Zc Ca).f6)]] (by rfl) rfl rfl (by (try simp only [List.map_toArray,List.map_cons,List.map_nil]);first|done|rfl|(simp only [List.length_drop,List.length_take];rfl)) ?_;with_reducible refine (zb.calls k1 _ _ Ma La Na Ka _ _ Ea ((Da Zc Ca).f0) ((Da Zc Ca).f1) ((Da Zc Ca).f2) ((Da Zc Ca).f3) ((Da Zc Ca).f4) ((Da Zc Ca).f5) ((Da Zc Ca).f6) false _ ?jc ?ic ?Ed ?Dd A7.out).mono ?_
      (case jc=>repeat (first|exact (Kd.Ib Ue.out HB.out)|(with_reducible refine Kd.Jb ?_ _)|(with_reducible refine Kd.Gb ?_ _)|(with_reducible refine Kd.dc ?_)))
      (case ic=>exact af.out)
      (case Ed=>repeat (first|exact (Kd.Ib Xf.out HB.out)|(with_reducible refine Kd.Jb ?_ _)|(with_reducible refine Kd.Gb ?_ _)|(with_reducible refine Kd.dc ?_)))
      (case Dd=>exact Zg.out)
      rintro e qE ⟨rfl,hb⟩;refine ⟨_,rfl,?_⟩;have Cb:=aa.mk (Xa (g:=za) (o:=.cells #[.slice xb Ma.length qb,.int .i64 La,.int .i64 Na,.int .i64 Ka,.slice Qb Ea.length Kb] 45 (0,0)) (by (with_reducible repeat (first|refine Aa ?_ _|refine Fa ?_|refine Ba ?_ _));exact ta.out) hb);have Lb:=aa.mk (Xa (g:=Ga) (o:=.cells #[.slice (some ei) Zc.length Rf,.int .i64 qc,.int .i64 ec,.int .i64 fc,.int .i64 Qc] 83 (0,0)) (by (with_reducible repeat (first|refine Aa ?_ _|refine Fa ?_|refine Ba ?_ _));exact ya.out) hb);have Pb:=aa.mk (Oa (by repeat (first|(with_reducible first|exact HB.out|apply oa|apply ia|apply qa|refine ua ?_ Ua.out|refine ua ?_ Rc.out)|exact HB.out)) hb);clear ta ya HB;have ta:=Cb;have ya:=Lb;have HB:=Pb;clear Cb Lb Pb;(try clear hb);(try clear Gj);(try clear hk);(try clear hi);refine hK.out _ _ ⟨(ja ta.out 0).trans rfl,(ja ta.out 1).trans rfl,(ja ta.out 2).trans rfl,(ja ta.out 3).trans rfl,(ja ta.out 4).trans rfl,(ja ya.out 0).trans rfl,(ja ya.out 1).trans rfl,(ja ya.out 2).trans rfl,(ja ya.out 3).trans rfl,(ja ya.out 4).trans rfl,(Sa HB.out ny),(Sa HB.out jy),(Sa HB.out iy),(Sa HB.out gy),(Sa HB.out fy),(Sa HB.out ey),(Sa HB.out dy)⟩ (fun hHeld=>?_);clear hK K;refine Rg (a':=?_) ?_ ?_;rotate_left
      ·show Act.put _ (some 21) _=_
       simp only [Act.put,List.setIfInBounds_toArray,List.set_cons_zero,List.set_cons_succ,Vb,Wb]
       rfl
      refine od (i:=7) (N:=some 22) (v:=?_) (a':=?_) #[true,true,true,true,true,true,true,true] rfl rfl (Vc mg.out (by kernel_rfl)) (fun _ _ _ h=>h) (Or.inl ⟨by rfl,?_⟩) ?_ ?_;rotate_left
      ·intro w';go_simp;with_reducible rfl
      rotate_left
      ·simp only [Act.put,List.setIfInBounds_toArray,List.set_cons_zero,List.set_cons_succ,Vb,Wb]
       rfl
      refine Mp (Sl mg.out (by kernel_rfl)) ?_
      try go_wp2
      go_ret;exact ⟨by first|rfl|(simp [Ra,Qa] <;> rfl)|(simp [*,Ra,Qa] <;> rfl),by repeat (first|(with_reducible first|exact HB.out|apply oa|apply ia|apply qa|refine ua ?_ Ua.out|refine ua ?_ Rc.out)|exact HB.out)⟩
    ·rw [if_neg c6] at H;exact absurd H (by simp)
   ·rw [if_neg c5] at H;have Sn:decide (Ca < (Zc.length:Int))=false:=decide_eq_false c5;clear c5;replace H:=Option.bind_eq_some_iff.mp H;obtain ⟨t105,lV,H⟩:=H;replace H:((mb.f ec 0 (wrap64 (Ka - 1))).bind fun t106=>(if qc=0 then (if t105=true then (if ec=0 then (some (Qc == 0)) else (some false)) else (some false)) else (if qc=1 then (if t105=true then (if t106=true then ((mb.f Qc 0 (wrap64 ((Ea.length:Int) - 1))).bind fun t107=>(some t107)) else (some false)) else (some false)) else (if qc=2 then (if t106=true then (if fc=0 then (some (Qc == 0)) else (some false)) else (some false)) else (some false)))))=some r:=H;have KR:=aa.mk lV;clear lV;replace H:=Option.bind_eq_some_iff.mp H;obtain ⟨t106,kah,H⟩:=H;replace H:(if qc=0 then (if t105=true then (if ec=0 then (some (Qc == 0)) else (some false)) else (some false)) else (if qc=1 then (if t105=true then (if t106=true then ((mb.f Qc 0 (wrap64 ((Ea.length:Int) - 1))).bind fun t107=>(some t107)) else (some false)) else (some false)) else (if qc=2 then (if t106=true then (if fc=0 then (some (Qc == 0)) else (some false)) else (some false)) else (some false))))=some r:=H;have AV:=aa.mk kah;clear kah
    by_cases gw:qc=0
    ·rw [if_pos gw] at H;have QA:(qc == 0)=true:=beq_iff_eq.mpr gw;have KP:(qc != 0)=false:=bne_eq_false_iff_eq.mpr gw;clear gw
     by_cases Qz:t105=true
     ·subst Qz;have H1:(if ec=0 then (some (Qc == 0)) else (some false))=some r:=by rw [if_pos rfl] at H;exact H
      clear H;have H:=H1;clear H1
      by_cases fE:ec=0
      ·rw [if_pos fE] at H;have vK:(ec == 0)=true:=beq_iff_eq.mpr fE;have faf:(ec != 0)=false:=bne_eq_false_iff_eq.mpr fE;clear fE;obtain rfl:=Option.some.inj H;have O0:=Eb.out;have K0:=Fb.out;have Eo:wr.cell? ⟨Ga,0,none⟩=some (.slice dg Zc.length Rf):=(ja ya.out 0).trans rfl;have Co:wr.cell? ⟨Ga,1,none⟩=some (.int .i64 qc):=(ja ya.out 1).trans rfl;have Bo:wr.cell? ⟨Ga,2,none⟩=some (.int .i64 ec):=(ja ya.out 2).trans rfl;have zo:wr.cell? ⟨Ga,3,none⟩=some (.int .i64 fc):=(ja ya.out 3).trans rfl;have yo:wr.cell? ⟨Ga,4,none⟩=some (.int .i64 Qc):=(ja ya.out 4).trans rfl;have xo:=ga ya.out 0;have vo:=ga ya.out 1;have uo:=ga ya.out 2;have qo:=ga ya.out 3;have oo:=ga ya.out 4;have jz:wr.cell? ⟨za,0,none⟩=some (.slice xb Ma.length qb):=(ja ta.out 0).trans rfl;have iz:wr.cell? ⟨za,1,none⟩=some (.int .i64 La):=(ja ta.out 1).trans rfl;have gz:wr.cell? ⟨za,2,none⟩=some (.int .i64 Na):=(ja ta.out 2).trans rfl;have fz:wr.cell? ⟨za,3,none⟩=some (.int .i64 Ka):=(ja ta.out 3).trans rfl;have ez:wr.cell? ⟨za,4,none⟩=some (.slice Qb Ea.length Kb):=(ja ta.out 4).trans rfl;have Ny:=ga ta.out 0;have My:=ga ta.out 1;have Ky:=ga ta.out 2;have Jy:=ga ta.out 3;have Iy:=ga ta.out 4;go_wp2_with (first|((with_reducible refine Ab (f:=81) rfl ?_);refine Uc (some 29) rfl rfl Try.func81 (by kernel_rfl) rfl #[.int .i64 fc,.int .i64 0,.int .i64 (wrap64 ((Ea.length:Int) - 1))] rfl (by (try simp only [List.map_toArray,List.map_cons,List.map_nil]);first|done|rfl|(simp only [List.length_drop,List.length_take];rfl)) ?_;(with_reducible refine (mb.calls fc 0 (wrap64 ((Ea.length:Int) - 1)) true _ KR.out).mono ?_);rintro e w' ⟨rfl,⟨nd,rfl⟩⟩;refine ⟨_,rfl,?_⟩)|((with_reducible refine Ab (f:=81) rfl ?_);refine Uc (some 35) rfl rfl Try.func81 (by kernel_rfl) rfl #[.int .i64 ec,.int .i64 0,.int .i64 (wrap64 (Ka - 1))] rfl (by (try simp only [List.map_toArray,List.map_cons,List.map_nil]);first|done|rfl|(simp only [List.length_drop,List.length_take];rfl)) ?_;(with_reducible refine (mb.calls ec 0 (wrap64 (Ka - 1)) t106 _ AV.out).mono ?_);rintro e w' ⟨rfl,⟨nd,rfl⟩⟩;refine ⟨_,rfl,?_⟩));go_ret;exact ⟨by first|rfl|(simp [Ra,Qa] <;> rfl)|(simp [*,Ra,Qa] <;> rfl),by repeat (first|(with_reducible first|exact HB.out|apply oa|apply ia|apply qa|refine ua ?_ Ua.out|refine ua ?_ Rc.out)|exact HB.out)⟩
      ·rw [if_neg fE] at H;have vK:(ec == 0)=false:=beq_eq_false_iff_ne.mpr fE;have faf:(ec != 0)=true:=bne_iff_ne.mpr fE;obtain rfl:=Option.some.inj H;have Waa:=Eb.out;have Naa:=Fb.out;have dz:wr.cell? ⟨Ga,0,none⟩=some (.slice dg Zc.length Rf):=(ja ya.out 0).trans rfl;have cz:wr.cell? ⟨Ga,1,none⟩=some (.int .i64 qc):=(ja ya.out 1).trans rfl;have bz:wr.cell? ⟨Ga,2,none⟩=some (.int .i64 ec):=(ja ya.out 2).trans rfl;have az:wr.cell? ⟨Ga,3,none⟩=some (.int .i64 fc):=(ja ya.out 3).trans rfl;have Zy:wr.cell? ⟨Ga,4,none⟩=some (.int .i64 Qc):=(ja ya.out 4).trans rfl;have Hy:=ga ya.out 0;have Gy:=ga ya.out 1;have Fy:=ga ya.out 2;have Ey:=ga ya.out 3;have Dy:=ga ya.out 4;have lC:wr.cell? ⟨za,0,none⟩=some (.slice xb Ma.length qb):=(ja ta.out 0).trans rfl;have kC:wr.cell? ⟨za,1,none⟩=some (.int .i64 La):=(ja ta.out 1).trans rfl;have jC:wr.cell? ⟨za,2,none⟩=some (.int .i64 Na):=(ja ta.out 2).trans rfl;have iC:wr.cell? ⟨za,3,none⟩=some (.int .i64 Ka):=(ja ta.out 3).trans rfl;have fC:wr.cell? ⟨za,4,none⟩=some (.slice Qb Ea.length Kb):=(ja ta.out 4).trans rfl;have OB:=ga ta.out 0;have NB:=ga ta.out 1;have MB:=ga ta.out 2;have LB:=ga ta.out 3;have KB:=ga ta.out 4;go_wp2_with (first|((with_reducible refine Ab (f:=81) rfl ?_);refine Uc (some 29) rfl rfl Try.func81 (by kernel_rfl) rfl #[.int .i64 fc,.int .i64 0,.int .i64 (wrap64 ((Ea.length:Int) - 1))] rfl (by (try simp only [List.map_toArray,List.map_cons,List.map_nil]);first|done|rfl|(simp only [List.length_drop,List.length_take];rfl)) ?_;(with_reducible refine (mb.calls fc 0 (wrap64 ((Ea.length:Int) - 1)) true _ KR.out).mono ?_);rintro e w' ⟨rfl,⟨nd,rfl⟩⟩;refine ⟨_,rfl,?_⟩)|((with_reducible refine Ab (f:=81) rfl ?_);refine Uc (some 35) rfl rfl Try.func81 (by kernel_rfl) rfl #[.int .i64 ec,.int .i64 0,.int .i64 (wrap64 (Ka - 1))] rfl (by (try simp only [List.map_toArray,List.map_cons,List.map_nil]);first|done|rfl|(simp only [List.length_drop,List.length_take];rfl)) ?_;(with_reducible refine (mb.calls ec 0 (wrap64 (Ka - 1)) t106 _ AV.out).mono ?_);rintro e w' ⟨rfl,⟨nd,rfl⟩⟩;refine ⟨_,rfl,?_⟩));go_ret;exact ⟨by first|rfl|(simp [Ra,Qa] <;> rfl)|(simp [*,Ra,Qa] <;> rfl),by repeat (first|(with_reducible first|exact HB.out|apply oa|apply ia|apply qa|refine ua ?_ Ua.out|refine ua ?_ Rc.out)|exact HB.out)⟩
     ·replace Qz:=Bool.eq_false_iff.mpr Qz;subst Qz;have H1:(some false)=some r:=by rw [if_neg (show ¬ (false=true) by decide)] at H;exact H
      clear H;have H:=H1;clear H1;obtain rfl:=Option.some.inj H;have Mav:=Eb.out;have eav:=Fb.out;have sP:wr.cell? ⟨Ga,0,none⟩=some (.slice dg Zc.length Rf):=(ja ya.out 0).trans rfl;have rP:wr.cell? ⟨Ga,1,none⟩=some (.int .i64 qc):=(ja ya.out 1).trans rfl;have qP:wr.cell? ⟨Ga,2,none⟩=some (.int .i64 ec):=(ja ya.out 2).trans rfl;have pP:wr.cell? ⟨Ga,3,none⟩=some (.int .i64 fc):=(ja ya.out 3).trans rfl;have oP:wr.cell? ⟨Ga,4,none⟩=some (.int .i64 Qc):=(ja ya.out 4).trans rfl;have yO:=ga ya.out 0;have xO:=ga ya.out 1;have wO:=ga ya.out 2;have vO:=ga ya.out 3;have uO:=ga ya.out 4;have eC:wr.cell? ⟨za,0,none⟩=some (.slice xb Ma.length qb):=(ja ta.out 0).trans rfl;have cC:wr.cell? ⟨za,1,none⟩=some (.int .i64 La):=(ja ta.out 1).trans rfl;have bC:wr.cell? ⟨za,2,none⟩=some (.int .i64 Na):=(ja ta.out 2).trans rfl;have aC:wr.cell? ⟨za,3,none⟩=some (.int .i64 Ka):=(ja ta.out 3).trans rfl;have ZB:wr.cell? ⟨za,4,none⟩=some (.slice Qb Ea.length Kb):=(ja ta.out 4).trans rfl;have JB:=ga ta.out 0;have IB:=ga ta.out 1;have FB:=ga ta.out 2;have EB:=ga ta.out 3;have DB:=ga ta.out 4;go_wp2_with (first|((with_reducible refine Ab (f:=81) rfl ?_);refine Uc (some 29) rfl rfl Try.func81 (by kernel_rfl) rfl #[.int .i64 fc,.int .i64 0,.int .i64 (wrap64 ((Ea.length:Int) - 1))] rfl (by (try simp only [List.map_toArray,List.map_cons,List.map_nil]);first|done|rfl|(simp only [List.length_drop,List.length_take];rfl)) ?_;(with_reducible refine (mb.calls fc 0 (wrap64 ((Ea.length:Int) - 1)) false _ KR.out).mono ?_);rintro e w' ⟨rfl,⟨nd,rfl⟩⟩;refine ⟨_,rfl,?_⟩)|((with_reducible refine Ab (f:=81) rfl ?_);refine Uc (some 35) rfl rfl Try.func81 (by kernel_rfl) rfl #[.int .i64 ec,.int .i64 0,.int .i64 (wrap64 (Ka - 1))] rfl (by (try simp only [List.map_toArray,List.map_cons,List.map_nil]);first|done|rfl|(simp only [List.length_drop,List.length_take];rfl)) ?_;(with_reducible refine (mb.calls ec 0 (wrap64 (Ka - 1)) t106 _ AV.out).mono ?_);rintro e w' ⟨rfl,⟨nd,rfl⟩⟩;refine ⟨_,rfl,?_⟩));go_ret;exact ⟨by first|rfl|(simp [Ra,Qa] <;> rfl)|(simp [*,Ra,Qa] <;> rfl),by repeat (first|(with_reducible first|exact HB.out|apply oa|apply ia|apply qa|refine ua ?_ Ua.out|refine ua ?_ Rc.out)|exact HB.out)⟩
    ·rw [if_neg gw] at H;have QA:(qc == 0)=false:=beq_eq_false_iff_ne.mpr gw;have KP:(qc != 0)=true:=bne_iff_ne.mpr gw
     by_cases kI:qc=1
     ·rw [if_pos kI] at H;have IP:(qc == 1)=true:=beq_iff_eq.mpr kI;have caf:(qc != 1)=false:=bne_eq_false_iff_eq.mpr kI;clear kI
      by_cases LI:t105=true
      ·subst LI;have H1:(if t106=true then ((mb.f Qc 0 (wrap64 ((Ea.length:Int) - 1))).bind fun t107=>(some t107)) else (some false))=some r:=by rw [if_pos rfl] at H;exact H
       clear H;have H:=H1;clear H1
       by_cases xx:t106=true
       ·subst xx;have H1:((mb.f Qc 0 (wrap64 ((Ea.length:Int) - 1))).bind fun t107=>(some t107))=some r:=by rw [if_pos rfl] at H;exact H
        clear H;have H:=H1;clear H1;replace H:=Option.bind_eq_some_iff.mp H;obtain ⟨t107,dah,H⟩:=H;replace H:(some t107)=some r:=H;have A34:=aa.mk dah;clear dah;obtain rfl:=Option.some.inj H;have Uaa:=Eb.out;have Laa:=Fb.out;have kH:wr.cell? ⟨Ga,0,none⟩=some (.slice dg Zc.length Rf):=(ja ya.out 0).trans rfl;have jH:wr.cell? ⟨Ga,1,none⟩=some (.int .i64 qc):=(ja ya.out 1).trans rfl;have iH:wr.cell? ⟨Ga,2,none⟩=some (.int .i64 ec):=(ja ya.out 2).trans rfl;have gH:wr.cell? ⟨Ga,3,none⟩=some (.int .i64 fc):=(ja ya.out 3).trans rfl;have fH:wr.cell? ⟨Ga,4,none⟩=some (.int .i64 Qc):=(ja ya.out 4).trans rfl;have fG:=ga ya.out 0;have eG:=ga ya.out 1;have dG:=ga ya.out 2;have cG:=ga ya.out 3;have bG:=ga ya.out 4;have vY:wr.cell? ⟨za,0,none⟩=some (.slice xb Ma.length qb):=(ja ta.out 0).trans rfl;have uY:wr.cell? ⟨za,1,none⟩=some (.int .i64 La):=(ja ta.out 1).trans rfl;have sY:wr.cell? ⟨za,2,none⟩=some (.int .i64 Na):=(ja ta.out 2).trans rfl;have rY:wr.cell? ⟨za,3,none⟩=some (.int .i64 Ka):=(ja ta.out 3).trans rfl;have qY:wr.cell? ⟨za,4,none⟩=some (.slice Qb Ea.length Kb):=(ja ta.out 4).trans rfl;have jX:=ga ta.out 0;have iX:=ga ta.out 1;have gX:=ga ta.out 2;have fX:=ga ta.out 3;have eX:=ga ta.out 4;go_wp2_with (first|((with_reducible refine Ab (f:=81) rfl ?_);refine Uc (some 29) rfl rfl Try.func81 (by kernel_rfl) rfl #[.int .i64 fc,.int .i64 0,.int .i64 (wrap64 ((Ea.length:Int) - 1))] rfl (by (try simp only [List.map_toArray,List.map_cons,List.map_nil]);first|done|rfl|(simp only [List.length_drop,List.length_take];rfl)) ?_;(with_reducible refine (mb.calls fc 0 (wrap64 ((Ea.length:Int) - 1)) true _ KR.out).mono ?_);rintro e w' ⟨rfl,⟨nd,rfl⟩⟩;refine ⟨_,rfl,?_⟩)|((with_reducible refine Ab (f:=81) rfl ?_);refine Uc (some 35) rfl rfl Try.func81 (by kernel_rfl) rfl #[.int .i64 ec,.int .i64 0,.int .i64 (wrap64 (Ka - 1))] rfl (by (try simp only [List.map_toArray,List.map_cons,List.map_nil]);first|done|rfl|(simp only [List.length_drop,List.length_take];rfl)) ?_;(with_reducible refine (mb.calls ec 0 (wrap64 (Ka - 1)) true _ AV.out).mono ?_);rintro e w' ⟨rfl,⟨nd,rfl⟩⟩;refine ⟨_,rfl,?_⟩)|(go_at_call 81;(with_reducible refine (mb.calls Qc 0 (wrap64 ((Ea.length:Int) - 1)) t107 _ A34.out).mono ?_);rintro e w' ⟨rfl,⟨nd,rfl⟩⟩));go_ret;exact ⟨by first|rfl|(simp [Ra,Qa] <;> rfl)|(simp [*,Ra,Qa] <;> rfl),by repeat (first|(with_reducible first|exact HB.out|apply oa|apply ia|apply qa|refine ua ?_ Ua.out|refine ua ?_ Rc.out)|exact HB.out)⟩
       ·replace xx:=Bool.eq_false_iff.mpr xx;subst xx;have H1:(some false)=some r:=by rw [if_neg (show ¬ (false=true) by decide)] at H;exact H
        clear H;have H:=H1;clear H1;obtain rfl:=Option.some.inj H;have Fav:=Eb.out;have Xau:=Fb.out;have dP:wr.cell? ⟨Ga,0,none⟩=some (.slice dg Zc.length Rf):=(ja ya.out 0).trans rfl;have cP:wr.cell? ⟨Ga,1,none⟩=some (.int .i64 qc):=(ja ya.out 1).trans rfl;have bP:wr.cell? ⟨Ga,2,none⟩=some (.int .i64 ec):=(ja ya.out 2).trans rfl;have ZO:wr.cell? ⟨Ga,3,none⟩=some (.int .i64 fc):=(ja ya.out 3).trans rfl;have YO:wr.cell? ⟨Ga,4,none⟩=some (.int .i64 Qc):=(ja ya.out 4).trans rfl;have jO:=ga ya.out 0;have iO:=ga ya.out 1;have fO:=ga ya.out 2;have eO:=ga ya.out 3;have dO:=ga ya.out 4;have YB:wr.cell? ⟨za,0,none⟩=some (.slice xb Ma.length qb):=(ja ta.out 0).trans rfl;have XB:wr.cell? ⟨za,1,none⟩=some (.int .i64 La):=(ja ta.out 1).trans rfl;have WB:wr.cell? ⟨za,2,none⟩=some (.int .i64 Na):=(ja ta.out 2).trans rfl;have VB:wr.cell? ⟨za,3,none⟩=some (.int .i64 Ka):=(ja ta.out 3).trans rfl;have UB:wr.cell? ⟨za,4,none⟩=some (.slice Qb Ea.length Kb):=(ja ta.out 4).trans rfl;have CB:=ga ta.out 0;have BB:=ga ta.out 1;have AB:=ga ta.out 2;have zB:=ga ta.out 3;have yB:=ga ta.out 4;go_wp2_with (first|((with_reducible refine Ab (f:=81) rfl ?_);refine Uc (some 29) rfl rfl Try.func81 (by kernel_rfl) rfl #[.int .i64 fc,.int .i64 0,.int .i64 (wrap64 ((Ea.length:Int) - 1))] rfl (by (try simp only [List.map_toArray,List.map_cons,List.map_nil]);first|done|rfl|(simp only [List.length_drop,List.length_take];rfl)) ?_;(with_reducible refine (mb.calls fc 0 (wrap64 ((Ea.length:Int) - 1)) true _ KR.out).mono ?_);rintro e w' ⟨rfl,⟨nd,rfl⟩⟩;refine ⟨_,rfl,?_⟩)|((with_reducible refine Ab (f:=81) rfl ?_);refine Uc (some 35) rfl rfl Try.func81 (by kernel_rfl) rfl #[.int .i64 ec,.int .i64 0,.int .i64 (wrap64 (Ka - 1))] rfl (by (try simp only [List.map_toArray,List.map_cons,List.map_nil]);first|done|rfl|(simp only [List.length_drop,List.length_take];rfl)) ?_;(with_reducible refine (mb.calls ec 0 (wrap64 (Ka - 1)) false _ AV.out).mono ?_);rintro e w' ⟨rfl,⟨nd,rfl⟩⟩;refine ⟨_,rfl,?_⟩));go_ret;exact ⟨by first|rfl|(simp [Ra,Qa] <;> rfl)|(simp [*,Ra,Qa] <;> rfl),by repeat (first|(with_reducible first|exact HB.out|apply oa|apply ia|apply qa|refine ua ?_ Ua.out|refine ua ?_ Rc.out)|exact HB.out)⟩
      ·replace LI:=Bool.eq_false_iff.mpr LI;subst LI;have H1:(some false)=some r:=by rw [if_neg (show ¬ (false=true) by decide)] at H;exact H
       clear H;have H:=H1;clear H1;obtain rfl:=Option.some.inj H;have Raa:=Eb.out;have Iaa:=Fb.out;have XO:wr.cell? ⟨Ga,0,none⟩=some (.slice dg Zc.length Rf):=(ja ya.out 0).trans rfl;have WO:wr.cell? ⟨Ga,1,none⟩=some (.int .i64 qc):=(ja ya.out 1).trans rfl;have VO:wr.cell? ⟨Ga,2,none⟩=some (.int .i64 ec):=(ja ya.out 2).trans rfl;have UO:wr.cell? ⟨Ga,3,none⟩=some (.int .i64 fc):=(ja ya.out 3).trans rfl;have RO:wr.cell? ⟨Ga,4,none⟩=some (.int .i64 Qc):=(ja ya.out 4).trans rfl;have cO:=ga ya.out 0;have bO:=ga ya.out 1;have ZN:=ga ya.out 2;have YN:=ga ya.out 3;have XN:=ga ya.out 4;have gY:wr.cell? ⟨za,0,none⟩=some (.slice xb Ma.length qb):=(ja ta.out 0).trans rfl;have fY:wr.cell? ⟨za,1,none⟩=some (.int .i64 La):=(ja ta.out 1).trans rfl;have eY:wr.cell? ⟨za,2,none⟩=some (.int .i64 Na):=(ja ta.out 2).trans rfl;have dY:wr.cell? ⟨za,3,none⟩=some (.int .i64 Ka):=(ja ta.out 3).trans rfl;have cY:wr.cell? ⟨za,4,none⟩=some (.slice Qb Ea.length Kb):=(ja ta.out 4).trans rfl;have UW:=ga ta.out 0;have TW:=ga ta.out 1;have SW:=ga ta.out 2;have RW:=ga ta.out 3;have QW:=ga ta.out 4;go_wp2_with (first|((with_reducible refine Ab (f:=81) rfl ?_);refine Uc (some 29) rfl rfl Try.func81 (by kernel_rfl) rfl #[.int .i64 fc,.int .i64 0,.int .i64 (wrap64 ((Ea.length:Int) - 1))] rfl (by (try simp only [List.map_toArray,List.map_cons,List.map_nil]);first|done|rfl|(simp only [List.length_drop,List.length_take];rfl)) ?_;(with_reducible refine (mb.calls fc 0 (wrap64 ((Ea.length:Int) - 1)) false _ KR.out).mono ?_);rintro e w' ⟨rfl,⟨nd,rfl⟩⟩;refine ⟨_,rfl,?_⟩)|((with_reducible refine Ab (f:=81) rfl ?_);refine Uc (some 35) rfl rfl Try.func81 (by kernel_rfl) rfl #[.int .i64 ec,.int .i64 0,.int .i64 (wrap64 (Ka - 1))] rfl (by (try simp only [List.map_toArray,List.map_cons,List.map_nil]);first|done|rfl|(simp only [List.length_drop,List.length_take];rfl)) ?_;(with_reducible refine (mb.calls ec 0 (wrap64 (Ka - 1)) t106 _ AV.out).mono ?_);rintro e w' ⟨rfl,⟨nd,rfl⟩⟩;refine ⟨_,rfl,?_⟩));go_ret;exact ⟨by first|rfl|(simp [Ra,Qa] <;> rfl)|(simp [*,Ra,Qa] <;> rfl),by repeat (first|(with_reducible first|exact HB.out|apply oa|apply ia|apply qa|refine ua ?_ Ua.out|refine ua ?_ Rc.out)|exact HB.out)⟩
     ·rw [if_neg kI] at H;have IP:(qc == 1)=false:=beq_eq_false_iff_ne.mpr kI;have caf:(qc != 1)=true:=bne_iff_ne.mpr kI
      by_cases oD:qc=2
      ·rw [if_pos oD] at H;have rK:(qc == 2)=true:=beq_iff_eq.mpr oD;have qK:(qc != 2)=false:=bne_eq_false_iff_eq.mpr oD;clear oD
       by_cases jI:t106=true
       ·subst jI;have H1:(if fc=0 then (some (Qc == 0)) else (some false))=some r:=by rw [if_pos rfl] at H;exact H
        clear H;have H:=H1;clear H1
        by_cases jB:fc=0
        ·rw [if_pos jB] at H;have FP:(fc == 0)=true:=beq_iff_eq.mpr jB;have pU:(fc != 0)=false:=bne_eq_false_iff_eq.mpr jB;clear jB;obtain rfl:=Option.some.inj H;have M0:=Eb.out;have I0:=Fb.out;have ZG:wr.cell? ⟨Ga,0,none⟩=some (.slice dg Zc.length Rf):=(ja ya.out 0).trans rfl;have YG:wr.cell? ⟨Ga,1,none⟩=some (.int .i64 qc):=(ja ya.out 1).trans rfl;have XG:wr.cell? ⟨Ga,2,none⟩=some (.int .i64 ec):=(ja ya.out 2).trans rfl;have WG:wr.cell? ⟨Ga,3,none⟩=some (.int .i64 fc):=(ja ya.out 3).trans rfl;have VG:wr.cell? ⟨Ga,4,none⟩=some (.int .i64 Qc):=(ja ya.out 4).trans rfl;have UF:=ga ya.out 0;have SF:=ga ya.out 1;have RF:=ga ya.out 2;have QF:=ga ya.out 3;have PF:=ga ya.out 4;have UX:wr.cell? ⟨za,0,none⟩=some (.slice xb Ma.length qb):=(ja ta.out 0).trans rfl;have SX:wr.cell? ⟨za,1,none⟩=some (.int .i64 La):=(ja ta.out 1).trans rfl;have RX:wr.cell? ⟨za,2,none⟩=some (.int .i64 Na):=(ja ta.out 2).trans rfl;have QX:wr.cell? ⟨za,3,none⟩=some (.int .i64 Ka):=(ja ta.out 3).trans rfl;have PX:wr.cell? ⟨za,4,none⟩=some (.slice Qb Ea.length Kb):=(ja ta.out 4).trans rfl;have IW:=ga ta.out 0;have GW:=ga ta.out 1;have FW:=ga ta.out 2;have EW:=ga ta.out 3;have DW:=ga ta.out 4;go_wp2_with (first|((with_reducible refine Ab (f:=81) rfl ?_);refine Uc (some 29) rfl rfl Try.func81 (by kernel_rfl) rfl #[.int .i64 fc,.int .i64 0,.int .i64 (wrap64 ((Ea.length:Int) - 1))] rfl (by (try simp only [List.map_toArray,List.map_cons,List.map_nil]);first|done|rfl|(simp only [List.length_drop,List.length_take];rfl)) ?_;(with_reducible refine (mb.calls fc 0 (wrap64 ((Ea.length:Int) - 1)) t105 _ KR.out).mono ?_);rintro e w' ⟨rfl,⟨nd,rfl⟩⟩;refine ⟨_,rfl,?_⟩)|((with_reducible refine Ab (f:=81) rfl ?_);refine Uc (some 35) rfl rfl Try.func81 (by kernel_rfl) rfl #[.int .i64 ec,.int .i64 0,.int .i64 (wrap64 (Ka - 1))] rfl (by (try simp only [List.map_toArray,List.map_cons,List.map_nil]);first|done|rfl|(simp only [List.length_drop,List.length_take];rfl)) ?_;(with_reducible refine (mb.calls ec 0 (wrap64 (Ka - 1)) true _ AV.out).mono ?_);rintro e w' ⟨rfl,⟨nd,rfl⟩⟩;refine ⟨_,rfl,?_⟩));go_ret;exact ⟨by first|rfl|(simp [Ra,Qa] <;> rfl)|(simp [*,Ra,Qa] <;> rfl),by repeat (first|(with_reducible first|exact HB.out|apply oa|apply ia|apply qa|refine ua ?_ Ua.out|refine ua ?_ Rc.out)|exact HB.out)⟩
        ·rw [if_neg jB] at H;have FP:(fc == 0)=false:=beq_eq_false_iff_ne.mpr jB;have pU:(fc != 0)=true:=bne_iff_ne.mpr jB;obtain rfl:=Option.some.inj H;have Bav:=Eb.out;have Tau:=Fb.out;have lan:wr.cell? ⟨Ga,0,none⟩=some (.slice dg Zc.length Rf):=(ja ya.out 0).trans rfl;have kan:wr.cell? ⟨Ga,1,none⟩=some (.int .i64 qc):=(ja ya.out 1).trans rfl;have jan:wr.cell? ⟨Ga,2,none⟩=some (.int .i64 ec):=(ja ya.out 2).trans rfl;have ian:wr.cell? ⟨Ga,3,none⟩=some (.int .i64 fc):=(ja ya.out 3).trans rfl;have han:wr.cell? ⟨Ga,4,none⟩=some (.int .i64 Qc):=(ja ya.out 4).trans rfl;have Uaj:=ga ya.out 0;have Taj:=ga ya.out 1;have Saj:=ga ya.out 2;have Raj:=ga ya.out 3;have Qaj:=ga ya.out 4;have QO:wr.cell? ⟨za,0,none⟩=some (.slice xb Ma.length qb):=(ja ta.out 0).trans rfl;have PO:wr.cell? ⟨za,1,none⟩=some (.int .i64 La):=(ja ta.out 1).trans rfl;have OO:wr.cell? ⟨za,2,none⟩=some (.int .i64 Na):=(ja ta.out 2).trans rfl;have MO:wr.cell? ⟨za,3,none⟩=some (.int .i64 Ka):=(ja ta.out 3).trans rfl;have LO:wr.cell? ⟨za,4,none⟩=some (.slice Qb Ea.length Kb):=(ja ta.out 4).trans rfl;have WN:=ga ta.out 0;have VN:=ga ta.out 1;have UN:=ga ta.out 2;have TN:=ga ta.out 3;have SN:=ga ta.out 4;go_wp2_with (first|((with_reducible refine Ab (f:=81) rfl ?_);refine Uc (some 29) rfl rfl Try.func81 (by kernel_rfl) rfl #[.int .i64 fc,.int .i64 0,.int .i64 (wrap64 ((Ea.length:Int) - 1))] rfl (by (try simp only [List.map_toArray,List.map_cons,List.map_nil]);first|done|rfl|(simp only [List.length_drop,List.length_take];rfl)) ?_;(with_reducible refine (mb.calls fc 0 (wrap64 ((Ea.length:Int) - 1)) t105 _ KR.out).mono ?_);rintro e w' ⟨rfl,⟨nd,rfl⟩⟩;refine ⟨_,rfl,?_⟩)|((with_reducible refine Ab (f:=81) rfl ?_);refine Uc (some 35) rfl rfl Try.func81 (by kernel_rfl) rfl #[.int .i64 ec,.int .i64 0,.int .i64 (wrap64 (Ka - 1))] rfl (by (try simp only [List.map_toArray,List.map_cons,List.map_nil]);first|done|rfl|(simp only [List.length_drop,List.length_take];rfl)) ?_;(with_reducible refine (mb.calls ec 0 (wrap64 (Ka - 1)) true _ AV.out).mono ?_);rintro e w' ⟨rfl,⟨nd,rfl⟩⟩;refine ⟨_,rfl,?_⟩));go_ret;exact ⟨by first|rfl|(simp [Ra,Qa] <;> rfl)|(simp [*,Ra,Qa] <;> rfl),by repeat (first|(with_reducible first|exact HB.out|apply oa|apply ia|apply qa|refine ua ?_ Ua.out|refine ua ?_ Rc.out)|exact HB.out)⟩
       ·replace jI:=Bool.eq_false_iff.mpr jI;subst jI;have H1:(some false)=some r:=by rw [if_neg (show ¬ (false=true) by decide)] at H;exact H
        clear H;have H:=H1;clear H1;obtain rfl:=Option.some.inj H;have Aav:=Eb.out;have Sau:=Fb.out;have ean:wr.cell? ⟨Ga,0,none⟩=some (.slice dg Zc.length Rf):=(ja ya.out 0).trans rfl;have dan:wr.cell? ⟨Ga,1,none⟩=some (.int .i64 qc):=(ja ya.out 1).trans rfl;have ban:wr.cell? ⟨Ga,2,none⟩=some (.int .i64 ec):=(ja ya.out 2).trans rfl;have aan:wr.cell? ⟨Ga,3,none⟩=some (.int .i64 fc):=(ja ya.out 3).trans rfl;have Zam:wr.cell? ⟨Ga,4,none⟩=some (.int .i64 Qc):=(ja ya.out 4).trans rfl;have Naj:=ga ya.out 0;have Maj:=ga ya.out 1;have Laj:=ga ya.out 2;have Kaj:=ga ya.out 3;have Jaj:=ga ya.out 4;have Yam:wr.cell? ⟨za,0,none⟩=some (.slice xb Ma.length qb):=(ja ta.out 0).trans rfl;have Xam:wr.cell? ⟨za,1,none⟩=some (.int .i64 La):=(ja ta.out 1).trans rfl;have Wam:wr.cell? ⟨za,2,none⟩=some (.int .i64 Na):=(ja ta.out 2).trans rfl;have Vam:wr.cell? ⟨za,3,none⟩=some (.int .i64 Ka):=(ja ta.out 3).trans rfl;have Uam:wr.cell? ⟨za,4,none⟩=some (.slice Qb Ea.length Kb):=(ja ta.out 4).trans rfl;have Iaj:=ga ta.out 0;have Haj:=ga ta.out 1;have Gaj:=ga ta.out 2;have Faj:=ga ta.out 3;have Eaj:=ga ta.out 4;go_wp2_with (first|((with_reducible refine Ab (f:=81) rfl ?_);refine Uc (some 29) rfl rfl Try.func81 (by kernel_rfl) rfl #[.int .i64 fc,.int .i64 0,.int .i64 (wrap64 ((Ea.length:Int) - 1))] rfl (by (try simp only [List.map_toArray,List.map_cons,List.map_nil]);first|done|rfl|(simp only [List.length_drop,List.length_take];rfl)) ?_;(with_reducible refine (mb.calls fc 0 (wrap64 ((Ea.length:Int) - 1)) t105 _ KR.out).mono ?_);rintro e w' ⟨rfl,⟨nd,rfl⟩⟩;refine ⟨_,rfl,?_⟩)|((with_reducible refine Ab (f:=81) rfl ?_);refine Uc (some 35) rfl rfl Try.func81 (by kernel_rfl) rfl #[.int .i64 ec,.int .i64 0,.int .i64 (wrap64 (Ka - 1))] rfl (by (try simp only [List.map_toArray,List.map_cons,List.map_nil]);first|done|rfl|(simp only [List.length_drop,List.length_take];rfl)) ?_;(with_reducible refine (mb.calls ec 0 (wrap64 (Ka - 1)) false _ AV.out).mono ?_);rintro e w' ⟨rfl,⟨nd,rfl⟩⟩;refine ⟨_,rfl,?_⟩));go_ret;exact ⟨by first|rfl|(simp [Ra,Qa] <;> rfl)|(simp [*,Ra,Qa] <;> rfl),by repeat (first|(with_reducible first|exact HB.out|apply oa|apply ia|apply qa|refine ua ?_ Ua.out|refine ua ?_ Rc.out)|exact HB.out)⟩
      ·rw [if_neg oD] at H;have rK:(qc == 2)=false:=beq_eq_false_iff_ne.mpr oD;have qK:(qc != 2)=true:=bne_iff_ne.mpr oD;obtain rfl:=Option.some.inj H;have zav:=Eb.out;have Rau:=Fb.out;have Tam:wr.cell? ⟨Ga,0,none⟩=some (.slice dg Zc.length Rf):=(ja ya.out 0).trans rfl;have Sam:wr.cell? ⟨Ga,1,none⟩=some (.int .i64 qc):=(ja ya.out 1).trans rfl;have Ram:wr.cell? ⟨Ga,2,none⟩=some (.int .i64 ec):=(ja ya.out 2).trans rfl;have Qam:wr.cell? ⟨Ga,3,none⟩=some (.int .i64 fc):=(ja ya.out 3).trans rfl;have Pam:wr.cell? ⟨Ga,4,none⟩=some (.int .i64 Qc):=(ja ya.out 4).trans rfl;have Daj:=ga ya.out 0;have Caj:=ga ya.out 1;have Baj:=ga ya.out 2;have Aaj:=ga ya.out 3;have zaj:=ga ya.out 4;have JX:wr.cell? ⟨za,0,none⟩=some (.slice xb Ma.length qb):=(ja ta.out 0).trans rfl;have IX:wr.cell? ⟨za,1,none⟩=some (.int .i64 La):=(ja ta.out 1).trans rfl;have GX:wr.cell? ⟨za,2,none⟩=some (.int .i64 Na):=(ja ta.out 2).trans rfl;have FX:wr.cell? ⟨za,3,none⟩=some (.int .i64 Ka):=(ja ta.out 3).trans rfl;have EX:wr.cell? ⟨za,4,none⟩=some (.slice Qb Ea.length Kb):=(ja ta.out 4).trans rfl;have vW:=ga ta.out 0;have uW:=ga ta.out 1;have tW:=ga ta.out 2;have sW:=ga ta.out 3;have rW:=ga ta.out 4;go_wp2_with (first|((with_reducible refine Ab (f:=81) rfl ?_);refine Uc (some 29) rfl rfl Try.func81 (by kernel_rfl) rfl #[.int .i64 fc,.int .i64 0,.int .i64 (wrap64 ((Ea.length:Int) - 1))] rfl (by (try simp only [List.map_toArray,List.map_cons,List.map_nil]);first|done|rfl|(simp only [List.length_drop,List.length_take];rfl)) ?_;(with_reducible refine (mb.calls fc 0 (wrap64 ((Ea.length:Int) - 1)) t105 _ KR.out).mono ?_);rintro e w' ⟨rfl,⟨nd,rfl⟩⟩;refine ⟨_,rfl,?_⟩)|((with_reducible refine Ab (f:=81) rfl ?_);refine Uc (some 35) rfl rfl Try.func81 (by kernel_rfl) rfl #[.int .i64 ec,.int .i64 0,.int .i64 (wrap64 (Ka - 1))] rfl (by (try simp only [List.map_toArray,List.map_cons,List.map_nil]);first|done|rfl|(simp only [List.length_drop,List.length_take];rfl)) ?_;(with_reducible refine (mb.calls ec 0 (wrap64 (Ka - 1)) t106 _ AV.out).mono ?_);rintro e w' ⟨rfl,⟨nd,rfl⟩⟩;refine ⟨_,rfl,?_⟩));go_ret;exact ⟨by first|rfl|(simp [Ra,Qa] <;> rfl)|(simp [*,Ra,Qa] <;> rfl),by repeat (first|(with_reducible first|exact HB.out|apply oa|apply ia|apply qa|refine ua ?_ Ua.out|refine ua ?_ Rc.out)|exact HB.out)⟩
mutual
def Ya.l0:Nat→Int→List Int→Int→Int→Int→List (Df)→Option (Bool)
 | 0,_,_,_,_,_,_=>none
 | k + 1,x3,Mc,Nc,Lc,Jc,Nb=>if x3 < (Mc.length:Int) then (if 0 ≤ x3 then ((mb.f (rd Mc x3) 1 16).bind fun t103=>(if t103=true then (Ya.l0 k (wrap64 (x3 + 1)) Mc Nc Lc Jc Nb) else (some false))) else (none)) else ((mb.f (Mc.length:Int) 1 4).bind fun t104=>(if t104=true then ((mb.f Lc 0 20).bind fun t105=>(if t105=true then ((mb.f Nc 0 6).bind fun t106=>(if t106=true then (if Nc > Lc then (Ya.j1 k true Mc Nc Lc Jc Nb) else ((mb.f Jc Lc 1000).bind fun t107=>(if t107=true then ((mb.f (Nb.length:Int) 1 300).bind fun t108=>(Ya.j1 k (!t108) Mc Nc Lc Jc Nb)) else (Ya.j1 k true Mc Nc Lc Jc Nb)))) else (Ya.j1 k true Mc Nc Lc Jc Nb))) else (Ya.j1 k true Mc Nc Lc Jc Nb))) else (Ya.j1 k true Mc Nc Lc Jc Nb)))
def Ya.j1:Nat→Bool→List Int→Int→Int→Int→List (Df)→Option (Bool)
 | 0,_,_,_,_,_,_=>none
 | k + 1,x58,Mc,Nc,Lc,Jc,Nb=>if x58=true then (some false) else (Ya.l1 k 0 0 Mc Nc Lc Jc Nb)
def Ya.l1:Nat→Int→Int→List Int→Int→Int→Int→List (Df)→Option (Bool)
 | 0,_,_,_,_,_,_,_=>none
 | k + 1,x4,x5,Mc,Nc,Lc,Jc,Nb=>if x5 < (Nb.length:Int) then (if 0 ≤ x5 then (if (wrap64 (x4 + (((Ta Nb x5).f0).length:Int))) > 1000 then (some false) else ((Ic.f k Mc Nc Lc Jc Nb ((Ta Nb x5).f0) ((Ta Nb x5).f1) ((Ta Nb x5).f2) ((Ta Nb x5).f3) ((Ta Nb x5).f4)).bind fun t111=>(if t111=true then (Ya.l1 k (wrap64 (x4 + (((Ta Nb x5).f0).length:Int))) (wrap64 (x5 + 1)) Mc Nc Lc Jc Nb) else (some false)))) else (none)) else (some true)
end
def Ya.f (k:Nat) (Ma:List Int) (La:Int) (Na:Int) (Ka:Int) (Ea:List (Df)):Option (Bool):=Ya.l0 k 0 Ma La Na Ka Ea
def Ya.T13:Bool × List (List Nat × List Nat):=(true,[([],[]),([0],[0]),([1],[1]),([2],[2]),([2],[2]),([4,2],[2,4]),([2],[2]),([5,6,2],[2,5,6]),([7,2],[2,7]),([3,8,2,2],[2,3,8]),([9,2],[2,9]),([2,10],[2,10])])
def Ya.B13:List Nat:=[0,1,3,7,7,23,7,119,247,511,1023,2047]
theorem Ya.XR:Bn .any (opsOf Try.f66 13)=Ya.T13:=by kernel_rfl
theorem Ya.DM:um Ya.T13.2 Ya.B13=true:=by kernel_rfl
theorem Ya.calls (k:Nat) (xb:Option Addr) (qb:Nat) (Ma:List Int) (La:Int) (Na:Int) (Ka:Int) (Qb:Option Addr) (Kb:Nat) (Ea:List (Df)) (r:Bool) (w:World) (Re:Kd.C (Kd.int .i64) w xb Ma.length Ma) (Pe:Ma.length ≤ qb) (Cg:Kd.C Pr w Qb Ea.length Ea) (zg:Ea.length ≤ Kb) (h:Ya.f k Ma La Na Ka Ea=some r) :
  Calls Try.prog 66 #[.agg #[.slice xb Ma.length qb,.int .i64 La,.int .i64 Na,.int .i64 Ka,.slice Qb Ea.length Kb]] w fun e w'=>e = .returned (.bool r)∧Below w.heap.size w w':=by
 have RC:=Try.underlying45;have dA:=Try.underlying83;have Ue:=aa.mk Re;have af:=aa.mk Pe;clear Re Pe;have Xf:=aa.mk Cg;have Zg:=aa.mk zg;clear Cg zg;have HB:=aa.mk (Below.refl w.heap.size w);have H:(Ya.l0 k 0 Ma La Na Ka Ea)=some r:=h;clear h;have H':=aa.mk H;clear H;go_enter Try.func66,Try.ntmps66;go_wp2_with (first|((with_reducible refine Bb (N:=1) rfl ?_);(try (refine Jj (by rfl) ?_;dsimp only));refine Ob ?hg (N:=1) ?hd (cs:=#[.slice xb Ma.length qb,.int .i64 La,.int .i64 Na,.int .i64 Ka,.slice Qb Ea.length Kb]) (t:=45) ?hr ?_;(case hd=>rfl);(case hg=>rfl);(case hr=>first|(go_simp;done)|(go_simp;rfl));intro za hg w2 oc hb;have Cb:=aa.mk (Oa (by repeat (first|(with_reducible first|exact HB.out|apply oa|apply ia|apply qa)|exact HB.out)) hb);have Lb:=aa.mk (oc);have Pb:=aa.mk ((by rw [hg];exact (Ja (by repeat (first|(with_reducible first|exact HB.out|apply oa|apply ia|apply qa)|exact HB.out))):w.heap.size ≤ za));have Ec:=aa.mk ((by rw [hg];exact (Ja (by repeat (first|(with_reducible first|exact HB.out|apply oa|apply ia|apply qa)|exact HB.out))):w.heap.size ≤ za));clear HB;have HB:=Cb;have ta:=Lb;have He:=Pb;have Ua:=Ec;clear Cb Lb Pb Ec hb oc hg))
 go_loopg [3] k (fun kq v3 w'=>∃ (Tc:Int),v3 = .int .i64 Tc∧aa (Ya.l0 kq Tc Ma La Na Ka Ea=some r)∧aa (kq ≤ k)∧aa (w'.heap[za]? = some (.cells #[(.slice xb Ma.length qb),.int .i64 La,.int .i64 Na,.int .i64 Ka,(.slice Qb Ea.length Kb)] 45 (0,0)))∧aa (Below w.heap.size w w'))
 case atStart=>exact ⟨(0),(by first|rfl|(simp;done)|(simp [*];done)),H',⟨Nat.le_refl _⟩,⟨by (with_reducible repeat (first|refine Aa ?_ _|refine Fa ?_|refine Ba ?_ _));exact ta.out⟩,⟨by repeat (first|(with_reducible first|exact HB.out|apply oa|apply ia|apply qa|refine ua ?_ Ua.out)|exact HB.out)⟩⟩
 case round =>
  clear H'
  try clear p2
  (try clear HA);(try clear Cf);(try clear ta);(try clear HB);obtain ⟨Tc,rfl,HA,Cf,ta,HB⟩:=hrel;cases gk with
  | zero=>exact absurd HA.out (by simp [Ya.l0])
  | succ k1 =>
   have H:=HA.out;clear HA;simp only [Ya.l0] at H
   by_cases c3:Tc < (Ma.length:Int)
   ·rw [if_pos c3] at H;have bh:decide (Tc < (Ma.length:Int))=true:=decide_eq_true c3;clear c3
    by_cases c4:0 ≤ Tc
    ·rw [if_pos c4] at H;have Mk:decide (0 ≤ Tc)=true:=decide_eq_true c4;clear c4;replace H:=Option.bind_eq_some_iff.mp H;obtain ⟨t103,n5,H⟩:=H;replace H:(if t103=true then (Ya.l0 k1 (wrap64 (Tc + 1)) Ma La Na Ka Ea) else (some false))=some r:=H;have A5:=aa.mk n5;clear n5
     by_cases c6:t103=true
     ·subst c6;have H1:(Ya.l0 k1 (wrap64 (Tc + 1)) Ma La Na Ka Ea)=some r:=by rw [if_pos rfl] at H;exact H
      clear H;have H:=H1;clear H1;have H':=aa.mk H;clear H;have UG:wr.cell? ⟨za,0,none⟩=some (.slice xb Ma.length qb):=(ja ta.out 0).trans rfl;have SG:wr.cell? ⟨za,1,none⟩=some (.int .i64 La):=(ja ta.out 1).trans rfl;have RG:wr.cell? ⟨za,2,none⟩=some (.int .i64 Na):=(ja ta.out 2).trans rfl;have QG:wr.cell? ⟨za,3,none⟩=some (.int .i64 Ka):=(ja ta.out 3).trans rfl;have PG:wr.cell? ⟨za,4,none⟩=some (.slice Qb Ea.length Kb):=(ja ta.out 4).trans rfl;have NF:=ga ta.out 0;have MF:=ga ta.out 1;have LF:=ga ta.out 2;have KF:=ga ta.out 3;have JF:=ga ta.out 4;have Mi:0 ≤ (Tc:Int):=Pa;have Li:Tc < (Ma.length:Int):=Pa;obtain ⟨Gf,Cs,qf⟩:=Kd.Ce Ue.out Tc Mi Li;cases Cs;replace qf:=Sa HB.out qf;replace Mi:=eq_true Mi;replace Li:=eq_true Li;go_wp2_with (first|((with_reducible refine Ab (f:=81) rfl ?_);refine Uc (some 18) rfl rfl Try.func81 (by kernel_rfl) rfl #[.int .i64 (rd Ma Tc),.int .i64 1,.int .i64 16] rfl (by (try simp only [List.map_toArray,List.map_cons,List.map_nil]);first|done|rfl|(simp only [List.length_drop,List.length_take];rfl)) ?_;(with_reducible refine (mb.calls (rd Ma Tc) 1 16 true _ A5.out).mono ?_);rintro e w' ⟨rfl,⟨nd,rfl⟩⟩;refine ⟨_,rfl,?_⟩))
      go_roundg k1
      case measure=>have:=Cf.out;omega
      case rel=>exact ⟨(wrap64 (Tc + 1)),(by first|rfl|(simp;done)|(simp [*];done)),H',⟨by have:=Cf.out;omega⟩,⟨by (with_reducible repeat (first|refine Aa ?_ _|refine Fa ?_|refine Ba ?_ _));exact ta.out⟩,⟨by repeat (first|(with_reducible first|exact HB.out|apply oa|apply ia|apply qa|refine ua ?_ Ua.out)|exact HB.out)⟩⟩
     ·replace c6:=Bool.eq_false_iff.mpr c6;subst c6;have H1:(some false)=some r:=by rw [if_neg (show ¬ (false=true) by decide)] at H;exact H
      clear H;have H:=H1;clear H1;obtain rfl:=Option.some.inj H;have Rn:wr.cell? ⟨za,0,none⟩=some (.slice xb Ma.length qb):=(ja ta.out 0).trans rfl;have Qn:wr.cell? ⟨za,1,none⟩=some (.int .i64 La):=(ja ta.out 1).trans rfl;have Pn:wr.cell? ⟨za,2,none⟩=some (.int .i64 Na):=(ja ta.out 2).trans rfl;have Nn:wr.cell? ⟨za,3,none⟩=some (.int .i64 Ka):=(ja ta.out 3).trans rfl;have Mn:wr.cell? ⟨za,4,none⟩=some (.slice Qb Ea.length Kb):=(ja ta.out 4).trans rfl;have Ln:=ga ta.out 0;have Kn:=ga ta.out 1;have Jn:=ga ta.out 2;have Gn:=ga ta.out 3;have En:=ga ta.out 4;have Mi:0 ≤ (Tc:Int):=Pa;have Li:Tc < (Ma.length:Int):=Pa;obtain ⟨Gf,Cs,qf⟩:=Kd.Ce Ue.out Tc Mi Li;cases Cs;replace qf:=Sa HB.out qf;replace Mi:=eq_true Mi;replace Li:=eq_true Li;go_wp2_with (first|((with_reducible refine Ab (f:=81) rfl ?_);refine Uc (some 18) rfl rfl Try.func81 (by kernel_rfl) rfl #[.int .i64 (rd Ma Tc),.int .i64 1,.int .i64 16] rfl (by (try simp only [List.map_toArray,List.map_cons,List.map_nil]);first|done|rfl|(simp only [List.length_drop,List.length_take];rfl)) ?_;(with_reducible refine (mb.calls (rd Ma Tc) 1 16 false _ A5.out).mono ?_);rintro e w' ⟨rfl,⟨nd,rfl⟩⟩;refine ⟨_,rfl,?_⟩));go_ret;exact ⟨by first|rfl|(simp [Ra,Qa] <;> rfl)|(simp [*,Ra,Qa] <;> rfl),by repeat (first|(with_reducible first|exact HB.out|apply oa|apply ia|apply qa|refine ua ?_ Ua.out)|exact HB.out)⟩
    ·rw [if_neg c4] at H;exact absurd H (by simp)
   ·rw [if_neg c3] at H;have bh:decide (Tc < (Ma.length:Int))=false:=decide_eq_false c3;clear c3;have HC9:=aa.mk H;clear H;have Ei:wr.cell? ⟨za,0,none⟩=some (.slice xb Ma.length qb):=(ja ta.out 0).trans rfl;have Di:wr.cell? ⟨za,1,none⟩=some (.int .i64 La):=(ja ta.out 1).trans rfl;have Ci:wr.cell? ⟨za,2,none⟩=some (.int .i64 Na):=(ja ta.out 2).trans rfl;have Bi:wr.cell? ⟨za,3,none⟩=some (.int .i64 Ka):=(ja ta.out 3).trans rfl;have Ai:wr.cell? ⟨za,4,none⟩=some (.slice Qb Ea.length Kb):=(ja ta.out 4).trans rfl;have zi:=ga ta.out 0;have si:=ga ta.out 1;have qi:=ga ta.out 2;have ni:=ga ta.out 3;have ki:=ga ta.out 4
    go_upto_region 6 with (fail)
    go_cut [58] (fun v58 wc=>∃ (kq:Nat) (YM:Bool),v58 = .bool YM∧aa (Ya.j1 kq YM Ma La Na Ka Ea=some r)∧aa (kq ≤ k1)∧aa (wc.heap[za]? = some (.cells #[(.slice xb Ma.length qb),.int .i64 La,.int .i64 Na,.int .i64 Ka,(.slice Qb Ea.length Kb)] 45 (0,0)))∧aa (Below w.heap.size w wc))
    case first =>
     have H:=HC9.out;clear HC9;replace H:=Option.bind_eq_some_iff.mp H;obtain ⟨t104,oV,H⟩:=H;replace H:(if t104=true then ((mb.f Na 0 20).bind fun t105=>(if t105=true then ((mb.f La 0 6).bind fun t106=>(if t106=true then (if La > Na then (Ya.j1 k1 true Ma La Na Ka Ea) else ((mb.f Ka Na 1000).bind fun t107=>(if t107=true then ((mb.f (Ea.length:Int) 1 300).bind fun t108=>(Ya.j1 k1 (!t108) Ma La Na Ka Ea)) else (Ya.j1 k1 true Ma La Na Ka Ea)))) else (Ya.j1 k1 true Ma La Na Ka Ea))) else (Ya.j1 k1 true Ma La Na Ka Ea))) else (Ya.j1 k1 true Ma La Na Ka Ea))=some r:=H;have B5:=aa.mk oV;clear oV
     by_cases uu:t104=true
     ·subst uu;have H1:((mb.f Na 0 20).bind fun t105=>(if t105=true then ((mb.f La 0 6).bind fun t106=>(if t106=true then (if La > Na then (Ya.j1 k1 true Ma La Na Ka Ea) else ((mb.f Ka Na 1000).bind fun t107=>(if t107=true then ((mb.f (Ea.length:Int) 1 300).bind fun t108=>(Ya.j1 k1 (!t108) Ma La Na Ka Ea)) else (Ya.j1 k1 true Ma La Na Ka Ea)))) else (Ya.j1 k1 true Ma La Na Ka Ea))) else (Ya.j1 k1 true Ma La Na Ka Ea)))=some r:=by rw [if_pos rfl] at H;exact H
      clear H;have H:=H1;clear H1;replace H:=Option.bind_eq_some_iff.mp H;obtain ⟨t105,nah,H⟩:=H;replace H:(if t105=true then ((mb.f La 0 6).bind fun t106=>(if t106=true then (if La > Na then (Ya.j1 k1 true Ma La Na Ka Ea) else ((mb.f Ka Na 1000).bind fun t107=>(if t107=true then ((mb.f (Ea.length:Int) 1 300).bind fun t108=>(Ya.j1 k1 (!t108) Ma La Na Ka Ea)) else (Ya.j1 k1 true Ma La Na Ka Ea)))) else (Ya.j1 k1 true Ma La Na Ka Ea))) else (Ya.j1 k1 true Ma La Na Ka Ea))=some r:=H;have A13:=aa.mk nah;clear nah
      by_cases kB:t105=true
      ·subst kB;have H1:((mb.f La 0 6).bind fun t106=>(if t106=true then (if La > Na then (Ya.j1 k1 true Ma La Na Ka Ea) else ((mb.f Ka Na 1000).bind fun t107=>(if t107=true then ((mb.f (Ea.length:Int) 1 300).bind fun t108=>(Ya.j1 k1 (!t108) Ma La Na Ka Ea)) else (Ya.j1 k1 true Ma La Na Ka Ea)))) else (Ya.j1 k1 true Ma La Na Ka Ea)))=some r:=by rw [if_pos rfl] at H;exact H
       clear H;have H:=H1;clear H1;replace H:=Option.bind_eq_some_iff.mp H;obtain ⟨t106,lah,H⟩:=H;replace H:(if t106=true then (if La > Na then (Ya.j1 k1 true Ma La Na Ka Ea) else ((mb.f Ka Na 1000).bind fun t107=>(if t107=true then ((mb.f (Ea.length:Int) 1 300).bind fun t108=>(Ya.j1 k1 (!t108) Ma La Na Ka Ea)) else (Ya.j1 k1 true Ma La Na Ka Ea)))) else (Ya.j1 k1 true Ma La Na Ka Ea))=some r:=H;have A15:=aa.mk lah;clear lah
       by_cases SA:t106=true
       ·subst SA;have H1:(if La > Na then (Ya.j1 k1 true Ma La Na Ka Ea) else ((mb.f Ka Na 1000).bind fun t107=>(if t107=true then ((mb.f (Ea.length:Int) 1 300).bind fun t108=>(Ya.j1 k1 (!t108) Ma La Na Ka Ea)) else (Ya.j1 k1 true Ma La Na Ka Ea))))=some r:=by rw [if_pos rfl] at H;exact H
        clear H;have H:=H1;clear H1
        by_cases qw:La > Na
        ·rw [if_pos qw] at H;have Ls:decide (Na < La)=true:=decide_eq_true qw;clear qw;(first|rw [Ls]|(simp only [Vb,Wb];rw [Ls])|skip);have H':=aa.mk H;clear H;have Wv:wr.cell? ⟨za,0,none⟩=some (.slice xb Ma.length qb):=(ja ta.out 0).trans rfl;have Vv:wr.cell? ⟨za,1,none⟩=some (.int .i64 La):=(ja ta.out 1).trans rfl;have Uv:wr.cell? ⟨za,2,none⟩=some (.int .i64 Na):=(ja ta.out 2).trans rfl;have Tv:wr.cell? ⟨za,3,none⟩=some (.int .i64 Ka):=(ja ta.out 3).trans rfl;have Sv:wr.cell? ⟨za,4,none⟩=some (.slice Qb Ea.length Kb):=(ja ta.out 4).trans rfl;have Hv:=ga ta.out 0;have Gv:=ga ta.out 1;have Fv:=ga ta.out 2;have Dv:=ga ta.out 3;have Cv:=ga ta.out 4;go_wp2_with (first|((with_reducible refine Ab (f:=81) rfl ?_);refine Uc (some 23) rfl rfl Try.func81 (by kernel_rfl) rfl #[.int .i64 (Ma.length:Int),.int .i64 1,.int .i64 4] rfl (by (try simp only [List.map_toArray,List.map_cons,List.map_nil]);first|done|rfl|(simp only [List.length_drop,List.length_take];rfl)) ?_;(with_reducible refine (mb.calls (Ma.length:Int) 1 4 true _ B5.out).mono ?_);rintro e w' ⟨rfl,⟨nd,rfl⟩⟩;refine ⟨_,rfl,?_⟩)|(go_at_call 81;(with_reducible refine (mb.calls Na 0 20 true _ A13.out).mono ?_);rintro e w' ⟨rfl,⟨nd,rfl⟩⟩)|(go_at_call 81;(with_reducible refine (mb.calls La 0 6 true _ A15.out).mono ?_);rintro e w' ⟨rfl,⟨nd,rfl⟩⟩))
         go_meet
         case rel=>exact ⟨_,(true),(by first|rfl|(simp;done)|(simp [*];done)),H',⟨by have:=Cf.out;first|omega|exact Nat.le_refl _⟩,⟨by (with_reducible repeat (first|refine Aa ?_ _|refine Fa ?_|refine Ba ?_ _));exact ta.out⟩,⟨by repeat (first|(with_reducible first|exact HB.out|apply oa|apply ia|apply qa|refine ua ?_ Ua.out)|exact HB.out)⟩⟩
        ·rw [if_neg qw] at H;have Ls:decide (Na < La)=false:=decide_eq_false qw;clear qw;(first|rw [Ls]|(simp only [Vb,Wb];rw [Ls])|skip);replace H:=Option.bind_eq_some_iff.mp H;obtain ⟨t107,kV,H⟩:=H;replace H:(if t107=true then ((mb.f (Ea.length:Int) 1 300).bind fun t108=>(Ya.j1 k1 (!t108) Ma La Na Ka Ea)) else (Ya.j1 k1 true Ma La Na Ka Ea))=some r:=H;have A19:=aa.mk kV;clear kV
         by_cases Qz:t107=true
         ·subst Qz;have H1:((mb.f (Ea.length:Int) 1 300).bind fun t108=>(Ya.j1 k1 (!t108) Ma La Na Ka Ea))=some r:=by rw [if_pos rfl] at H;exact H
          clear H;have H:=H1;clear H1;replace H:=Option.bind_eq_some_iff.mp H;obtain ⟨t108,jah,H⟩:=H;replace H:(Ya.j1 k1 (!t108) Ma La Na Ka Ea)=some r:=H;have A21:=aa.mk jah;clear jah;have H':=aa.mk H;clear H;have qz:wr.cell? ⟨za,0,none⟩=some (.slice xb Ma.length qb):=(ja ta.out 0).trans rfl;have pz:wr.cell? ⟨za,1,none⟩=some (.int .i64 La):=(ja ta.out 1).trans rfl;have oz:wr.cell? ⟨za,2,none⟩=some (.int .i64 Na):=(ja ta.out 2).trans rfl;have mz:wr.cell? ⟨za,3,none⟩=some (.int .i64 Ka):=(ja ta.out 3).trans rfl;have kz:wr.cell? ⟨za,4,none⟩=some (.slice Qb Ea.length Kb):=(ja ta.out 4).trans rfl;have Sy:=ga ta.out 0;have Ry:=ga ta.out 1;have Qy:=ga ta.out 2;have Py:=ga ta.out 3;have Oy:=ga ta.out 4;go_wp2_with (first|((with_reducible refine Ab (f:=81) rfl ?_);refine Uc (some 23) rfl rfl Try.func81 (by kernel_rfl) rfl #[.int .i64 (Ma.length:Int),.int .i64 1,.int .i64 4] rfl (by (try simp only [List.map_toArray,List.map_cons,List.map_nil]);first|done|rfl|(simp only [List.length_drop,List.length_take];rfl)) ?_;(with_reducible refine (mb.calls (Ma.length:Int) 1 4 true _ B5.out).mono ?_);rintro e w' ⟨rfl,⟨nd,rfl⟩⟩;refine ⟨_,rfl,?_⟩)|(go_at_call 81;(with_reducible refine (mb.calls Na 0 20 true _ A13.out).mono ?_);rintro e w' ⟨rfl,⟨nd,rfl⟩⟩)|(go_at_call 81;(with_reducible refine (mb.calls La 0 6 true _ A15.out).mono ?_);rintro e w' ⟨rfl,⟨nd,rfl⟩⟩)|(go_at_call 81;(with_reducible refine (mb.calls Ka Na 1000 true _ A19.out).mono ?_);rintro e w' ⟨rfl,⟨nd,rfl⟩⟩)|(go_at_call 81;(with_reducible refine (mb.calls (Ea.length:Int) 1 300 t108 _ A21.out).mono ?_);rintro e w' ⟨rfl,⟨nd,rfl⟩⟩))
          go_meet
          case rel=>exact ⟨_,(!t108),(by first|rfl|(simp;done)|(simp [*];done)),H',⟨by have:=Cf.out;first|omega|exact Nat.le_refl _⟩,⟨by (with_reducible repeat (first|refine Aa ?_ _|refine Fa ?_|refine Ba ?_ _));exact ta.out⟩,⟨by repeat (first|(with_reducible first|exact HB.out|apply oa|apply ia|apply qa|refine ua ?_ Ua.out)|exact HB.out)⟩⟩
         ·replace Qz:=Bool.eq_false_iff.mpr Qz;subst Qz;have H1:(Ya.j1 k1 true Ma La Na Ka Ea)=some r:=by rw [if_neg (show ¬ (false=true) by decide)] at H;exact H
          clear H;have H:=H1;clear H1;have H':=aa.mk H;clear H;have Eo:wr.cell? ⟨za,0,none⟩=some (.slice xb Ma.length qb):=(ja ta.out 0).trans rfl;have Co:wr.cell? ⟨za,1,none⟩=some (.int .i64 La):=(ja ta.out 1).trans rfl;have Bo:wr.cell? ⟨za,2,none⟩=some (.int .i64 Na):=(ja ta.out 2).trans rfl;have zo:wr.cell? ⟨za,3,none⟩=some (.int .i64 Ka):=(ja ta.out 3).trans rfl;have yo:wr.cell? ⟨za,4,none⟩=some (.slice Qb Ea.length Kb):=(ja ta.out 4).trans rfl;have xo:=ga ta.out 0;have vo:=ga ta.out 1;have uo:=ga ta.out 2;have qo:=ga ta.out 3;have oo:=ga ta.out 4;go_wp2_with (first|((with_reducible refine Ab (f:=81) rfl ?_);refine Uc (some 23) rfl rfl Try.func81 (by kernel_rfl) rfl #[.int .i64 (Ma.length:Int),.int .i64 1,.int .i64 4] rfl (by (try simp only [List.map_toArray,List.map_cons,List.map_nil]);first|done|rfl|(simp only [List.length_drop,List.length_take];rfl)) ?_;(with_reducible refine (mb.calls (Ma.length:Int) 1 4 true _ B5.out).mono ?_);rintro e w' ⟨rfl,⟨nd,rfl⟩⟩;refine ⟨_,rfl,?_⟩)|(go_at_call 81;(with_reducible refine (mb.calls Na 0 20 true _ A13.out).mono ?_);rintro e w' ⟨rfl,⟨nd,rfl⟩⟩)|(go_at_call 81;(with_reducible refine (mb.calls La 0 6 true _ A15.out).mono ?_);rintro e w' ⟨rfl,⟨nd,rfl⟩⟩)|(go_at_call 81;(with_reducible refine (mb.calls Ka Na 1000 false _ A19.out).mono ?_);rintro e w' ⟨rfl,⟨nd,rfl⟩⟩))
          go_meet
          case rel=>exact ⟨_,(true),(by first|rfl|(simp;done)|(simp [*];done)),H',⟨by have:=Cf.out;first|omega|exact Nat.le_refl _⟩,⟨by (with_reducible repeat (first|refine Aa ?_ _|refine Fa ?_|refine Ba ?_ _));exact ta.out⟩,⟨by repeat (first|(with_reducible first|exact HB.out|apply oa|apply ia|apply qa|refine ua ?_ Ua.out)|exact HB.out)⟩⟩
       ·replace SA:=Bool.eq_false_iff.mpr SA;subst SA;have H1:(Ya.j1 k1 true Ma La Na Ka Ea)=some r:=by rw [if_neg (show ¬ (false=true) by decide)] at H;exact H
        clear H;have H:=H1;clear H1;have H':=aa.mk H;clear H;have jz:wr.cell? ⟨za,0,none⟩=some (.slice xb Ma.length qb):=(ja ta.out 0).trans rfl;have iz:wr.cell? ⟨za,1,none⟩=some (.int .i64 La):=(ja ta.out 1).trans rfl;have gz:wr.cell? ⟨za,2,none⟩=some (.int .i64 Na):=(ja ta.out 2).trans rfl;have fz:wr.cell? ⟨za,3,none⟩=some (.int .i64 Ka):=(ja ta.out 3).trans rfl;have ez:wr.cell? ⟨za,4,none⟩=some (.slice Qb Ea.length Kb):=(ja ta.out 4).trans rfl;have Ny:=ga ta.out 0;have My:=ga ta.out 1;have Ky:=ga ta.out 2;have Jy:=ga ta.out 3;have Iy:=ga ta.out 4;go_wp2_with (first|((with_reducible refine Ab (f:=81) rfl ?_);refine Uc (some 23) rfl rfl Try.func81 (by kernel_rfl) rfl #[.int .i64 (Ma.length:Int),.int .i64 1,.int .i64 4] rfl (by (try simp only [List.map_toArray,List.map_cons,List.map_nil]);first|done|rfl|(simp only [List.length_drop,List.length_take];rfl)) ?_;(with_reducible refine (mb.calls (Ma.length:Int) 1 4 true _ B5.out).mono ?_);rintro e w' ⟨rfl,⟨nd,rfl⟩⟩;refine ⟨_,rfl,?_⟩)|(go_at_call 81;(with_reducible refine (mb.calls Na 0 20 true _ A13.out).mono ?_);rintro e w' ⟨rfl,⟨nd,rfl⟩⟩)|(go_at_call 81;(with_reducible refine (mb.calls La 0 6 false _ A15.out).mono ?_);rintro e w' ⟨rfl,⟨nd,rfl⟩⟩))
        go_meet
        case rel=>exact ⟨_,(true),(by first|rfl|(simp;done)|(simp [*];done)),H',⟨by have:=Cf.out;first|omega|exact Nat.le_refl _⟩,⟨by (with_reducible repeat (first|refine Aa ?_ _|refine Fa ?_|refine Ba ?_ _));exact ta.out⟩,⟨by repeat (first|(with_reducible first|exact HB.out|apply oa|apply ia|apply qa|refine ua ?_ Ua.out)|exact HB.out)⟩⟩
      ·replace kB:=Bool.eq_false_iff.mpr kB;subst kB;have H1:(Ya.j1 k1 true Ma La Na Ka Ea)=some r:=by rw [if_neg (show ¬ (false=true) by decide)] at H;exact H
       clear H;have H:=H1;clear H1;have H':=aa.mk H;clear H;have Rv:wr.cell? ⟨za,0,none⟩=some (.slice xb Ma.length qb):=(ja ta.out 0).trans rfl;have Qv:wr.cell? ⟨za,1,none⟩=some (.int .i64 La):=(ja ta.out 1).trans rfl;have Pv:wr.cell? ⟨za,2,none⟩=some (.int .i64 Na):=(ja ta.out 2).trans rfl;have Ov:wr.cell? ⟨za,3,none⟩=some (.int .i64 Ka):=(ja ta.out 3).trans rfl;have Nv:wr.cell? ⟨za,4,none⟩=some (.slice Qb Ea.length Kb):=(ja ta.out 4).trans rfl;have Bv:=ga ta.out 0;have Av:=ga ta.out 1;have wv:=ga ta.out 2;have vv:=ga ta.out 3;have uv:=ga ta.out 4;go_wp2_with (first|((with_reducible refine Ab (f:=81) rfl ?_);refine Uc (some 23) rfl rfl Try.func81 (by kernel_rfl) rfl #[.int .i64 (Ma.length:Int),.int .i64 1,.int .i64 4] rfl (by (try simp only [List.map_toArray,List.map_cons,List.map_nil]);first|done|rfl|(simp only [List.length_drop,List.length_take];rfl)) ?_;(with_reducible refine (mb.calls (Ma.length:Int) 1 4 true _ B5.out).mono ?_);rintro e w' ⟨rfl,⟨nd,rfl⟩⟩;refine ⟨_,rfl,?_⟩)|(go_at_call 81;(with_reducible refine (mb.calls Na 0 20 false _ A13.out).mono ?_);rintro e w' ⟨rfl,⟨nd,rfl⟩⟩))
       go_meet
       case rel=>exact ⟨_,(true),(by first|rfl|(simp;done)|(simp [*];done)),H',⟨by have:=Cf.out;first|omega|exact Nat.le_refl _⟩,⟨by (with_reducible repeat (first|refine Aa ?_ _|refine Fa ?_|refine Ba ?_ _));exact ta.out⟩,⟨by repeat (first|(with_reducible first|exact HB.out|apply oa|apply ia|apply qa|refine ua ?_ Ua.out)|exact HB.out)⟩⟩
     ·replace uu:=Bool.eq_false_iff.mpr uu;subst uu;have H1:(Ya.j1 k1 true Ma La Na Ka Ea)=some r:=by rw [if_neg (show ¬ (false=true) by decide)] at H;exact H
      clear H;have H:=H1;clear H1;have H':=aa.mk H;clear H;have dz:wr.cell? ⟨za,0,none⟩=some (.slice xb Ma.length qb):=(ja ta.out 0).trans rfl;have cz:wr.cell? ⟨za,1,none⟩=some (.int .i64 La):=(ja ta.out 1).trans rfl;have bz:wr.cell? ⟨za,2,none⟩=some (.int .i64 Na):=(ja ta.out 2).trans rfl;have az:wr.cell? ⟨za,3,none⟩=some (.int .i64 Ka):=(ja ta.out 3).trans rfl;have Zy:wr.cell? ⟨za,4,none⟩=some (.slice Qb Ea.length Kb):=(ja ta.out 4).trans rfl;have Hy:=ga ta.out 0;have Gy:=ga ta.out 1;have Fy:=ga ta.out 2;have Ey:=ga ta.out 3;have Dy:=ga ta.out 4;go_wp2_with (first|((with_reducible refine Ab (f:=81) rfl ?_);refine Uc (some 23) rfl rfl Try.func81 (by kernel_rfl) rfl #[.int .i64 (Ma.length:Int),.int .i64 1,.int .i64 4] rfl (by (try simp only [List.map_toArray,List.map_cons,List.map_nil]);first|done|rfl|(simp only [List.length_drop,List.length_take];rfl)) ?_;(with_reducible refine (mb.calls (Ma.length:Int) 1 4 false _ B5.out).mono ?_);rintro e w' ⟨rfl,⟨nd,rfl⟩⟩;refine ⟨_,rfl,?_⟩))
      go_meet
      case rel=>exact ⟨_,(true),(by first|rfl|(simp;done)|(simp [*];done)),H',⟨by have:=Cf.out;first|omega|exact Nat.le_refl _⟩,⟨by (with_reducible repeat (first|refine Aa ?_ _|refine Fa ?_|refine Ba ?_ _));exact ta.out⟩,⟨by repeat (first|(with_reducible first|exact HB.out|apply oa|apply ia|apply qa|refine ua ?_ Ua.out)|exact HB.out)⟩⟩
    case rest =>
     clear HC9
     try clear c1
     try clear p1
     try clear q1
     try clear hx1
     try clear c2
     try clear p2
     try clear c3
     try clear bh
     try clear c4
     try clear Mk
     try clear c6
     try clear p6
     try clear c8
     try clear vE
     try clear uE
     try clear VS
     try clear uu
     try clear kB
     try clear SA
     try clear qw
     try clear Ls
     try clear Qz
     try clear Ei
     try clear Di
     try clear Ci
     try clear Bi
     try clear Ai
     try clear Wv
     try clear Vv
     try clear Uv
     try clear Tv
     try clear Sv
     try clear qz
     try clear pz
     try clear oz
     try clear mz
     try clear kz
     try clear Eo
     try clear Co
     try clear Bo
     try clear zo
     try clear yo
     try clear jz
     try clear iz
     try clear gz
     try clear fz
     try clear ez
     try clear Rv
     try clear Qv
     try clear Pv
     try clear Ov
     try clear Nv
     try clear dz
     try clear cz
     try clear bz
     try clear az
     try clear Zy
     try clear UG
     try clear SG
     try clear RG
     try clear QG
     try clear PG
     try clear Rn
     try clear Qn
     try clear Pn
     try clear Nn
     try clear Mn
     try clear zi
     try clear si
     try clear qi
     try clear ni
     try clear ki
     try clear Hv
     try clear Gv
     try clear Fv
     try clear Dv
     try clear Cv
     try clear Sy
     try clear Ry
     try clear Qy
     try clear Py
     try clear Oy
     try clear xo
     try clear vo
     try clear uo
     try clear qo
     try clear oo
     try clear Ny
     try clear My
     try clear Ky
     try clear Jy
     try clear Iy
     try clear Bv
     try clear Av
     try clear wv
     try clear vv
     try clear uv
     try clear Hy
     try clear Gy
     try clear Fy
     try clear Ey
     try clear Dy
     try clear NF
     try clear MF
     try clear LF
     try clear KF
     try clear JF
     try clear Ln
     try clear Kn
     try clear Jn
     try clear Gn
     try clear En
     try clear qf
     try clear Mi
     try clear p2
     try clear Li
     obtain ⟨kq,YM,rfl,HA,HJ8,ta,HB⟩:=hcut;cases kq with
     | zero=>exact absurd HA.out (by simp [Ya.j1])
     | succ kj8 =>
      have H:=HA.out;clear HA;simp only [Ya.j1] at H
      by_cases rD:YM=true
      ·subst rD;have H1:(some false)=some r:=by rw [if_pos rfl] at H;exact H
       clear H;have H:=H1;clear H1;obtain rfl:=Option.some.inj H;go_wp2;go_ret;exact ⟨by first|rfl|(simp [Ra,Qa] <;> rfl)|(simp [*,Ra,Qa] <;> rfl),by repeat (first|(with_reducible first|exact HB.out|apply oa|apply ia|apply qa|refine ua ?_ Ua.out)|exact HB.out)⟩
      ·replace rD:=Bool.eq_false_iff.mpr rD;subst rD;have H1:(Ya.l1 kj8 0 0 Ma La Na Ka Ea)=some r:=by rw [if_neg (show ¬ (false=true) by decide)] at H;exact H
       clear H;have H:=H1;clear H1;have H':=aa.mk H;clear H;go_wp2
       go_loopg [4,5] kj8 (fun kq v4 v5 w'=>∃ (XE:Int) (Hf:Int),v4 = .int .i64 XE∧v5 = .int .i64 Hf∧aa (Ya.l1 kq XE Hf Ma La Na Ka Ea=some r)∧aa (kq ≤ kj8)∧aa (w'.heap[za]? = some (.cells #[(.slice xb Ma.length qb),.int .i64 La,.int .i64 Na,.int .i64 Ka,(.slice Qb Ea.length Kb)] 45 (0,0)))∧aa (Below w.heap.size w w'))
       case atStart=>exact ⟨(0),(0),(by first|rfl|(simp;done)|(simp [*];done)),(by first|rfl|(simp;done)|(simp [*];done)),H',⟨Nat.le_refl _⟩,⟨by (with_reducible repeat (first|refine Aa ?_ _|refine Fa ?_|refine Ba ?_ _));exact ta.out⟩,⟨by repeat (first|(with_reducible first|exact HB.out|apply oa|apply ia|apply qa|refine ua ?_ Ua.out)|exact HB.out)⟩⟩
       case round =>
        clear H'
        try clear c1
        try clear p1
        try clear q1
        try clear hx1
        try clear c2
        try clear p2
        try clear c3
        try clear bh
        try clear c4
        try clear Mk
        try clear c6
        try clear p6
        try clear c8
        try clear vE
        try clear uE
        try clear VS
        try clear uu
        try clear kB
        try clear SA
        try clear qw
        try clear Ls
        try clear Qz
        try clear rD
        try clear Ei
        try clear Di
        try clear Ci
        try clear Bi
        try clear Ai
        try clear Wv
        try clear Vv
        try clear Uv
        try clear Tv
        try clear Sv
        try clear qz
        try clear pz
        try clear oz
        try clear mz
        try clear kz
        try clear Eo
        try clear Co
        try clear Bo
        try clear zo
        try clear yo
        try clear jz
        try clear iz
        try clear gz
        try clear fz
        try clear ez
        try clear Rv
        try clear Qv
        try clear Pv
        try clear Ov
        try clear Nv
        try clear dz
        try clear cz
        try clear bz
        try clear az
        try clear Zy
        try clear UG
        try clear SG
        try clear RG
        try clear QG
        try clear PG
        try clear Rn
        try clear Qn
        try clear Pn
        try clear Nn
        try clear Mn
        try clear zi
        try clear si
        try clear qi
        try clear ni
        try clear ki
        try clear Hv
        try clear Gv
        try clear Fv
        try clear Dv
        try clear Cv
        try clear Sy
        try clear Ry
        try clear Qy
        try clear Py
        try clear Oy
        try clear xo
        try clear vo
        try clear uo
        try clear qo
        try clear oo
        try clear Ny
        try clear My
        try clear Ky
        try clear Jy
        try clear Iy
        try clear Bv
        try clear Av
        try clear wv
        try clear vv
        try clear uv
        try clear Hy
        try clear Gy
        try clear Fy
        try clear Ey
        try clear Dy
        try clear NF
        try clear MF
        try clear LF
        try clear KF
        try clear JF
        try clear Ln
        try clear Kn
        try clear Jn
        try clear Gn
        try clear En
        try clear qf
        try clear p1
        try clear vE
        try clear Mi
        try clear p2
        try clear p6
        try clear q1
        try clear uE
        try clear Li
        (try clear HA);(try clear yx);(try clear ta);(try clear HB);obtain ⟨XE,Hf,rfl,rfl,HA,yx,ta,HB⟩:=hrel;cases gk with
        | zero=>exact absurd HA.out (by simp [Ya.l1])
        | succ k3 =>
         have H:=HA.out;clear HA;simp only [Ya.l1] at H
         by_cases Zt:Hf < (Ea.length:Int)
         ·rw [if_pos Zt] at H;have nr:decide (Hf < (Ea.length:Int))=true:=decide_eq_true Zt;clear Zt
          by_cases ew:0 ≤ Hf
          ·rw [if_pos ew] at H;have Vu:decide (0 ≤ Hf)=true:=decide_eq_true ew;clear ew
           by_cases yu:(wrap64 (XE + (((Ta Ea Hf).f0).length:Int))) > 1000
           ·rw [if_pos yu] at H;have OA:decide (1000 < (wrap64 (XE + (((Ta Ea Hf).f0).length:Int))))=true:=decide_eq_true yu;clear yu;obtain rfl:=Option.some.inj H;have uH:wr.cell? ⟨za,0,none⟩=some (.slice xb Ma.length qb):=(ja ta.out 0).trans rfl;have tH:wr.cell? ⟨za,1,none⟩=some (.int .i64 La):=(ja ta.out 1).trans rfl;have sH:wr.cell? ⟨za,2,none⟩=some (.int .i64 Na):=(ja ta.out 2).trans rfl;have rH:wr.cell? ⟨za,3,none⟩=some (.int .i64 Ka):=(ja ta.out 3).trans rfl;have qH:wr.cell? ⟨za,4,none⟩=some (.slice Qb Ea.length Kb):=(ja ta.out 4).trans rfl;have qG:=ga ta.out 0;have pG:=ga ta.out 1;have oG:=ga ta.out 2;have nG:=ga ta.out 3;have mG:=ga ta.out 4;have GC:0 ≤ (Hf:Int):=Pa;have EC:Hf < (Ea.length:Int):=Pa;obtain ⟨kj,pV,zU,jU,br,Zq,Yq,Xq,Wq,ir,kr⟩:=Nk Xf.out Hf GC EC;cases jU;replace br:=Sa HB.out br;replace Zq:=Sa HB.out Zq;replace Yq:=Sa HB.out Yq;replace Xq:=Sa HB.out Xq;replace Wq:=Sa HB.out Wq;have aQ:=aa.mk kr;have jQ:=aa.mk ir;clear kr ir;replace GC:=eq_true GC;replace EC:=eq_true EC
            try go_wp2
            have Cb:=aa.mk (Fa ta.out);have Lb:=aa.mk (qa HB.out);clear ta HB;have ta:=Cb;have HB:=Lb;clear Cb Lb;refine fl (n:=12) (S:=fun w'=>True) (ds:=[]) #[false,false,false,false,false,false,false,false,false,false,false,false] (by kernel_rfl) rfl rfl trivial (fun hHeld=>?_);refine Si Ya.XR Ya.DM (fun mg eu=>?_);generalize wr.drew=w32 at ta HB hHeld ⊢;refine od (i:=0) (N:=some 75) (v:=?_) (a':=?_) #[true,false,false,false,false,false,false,false,false,false,false,false] rfl rfl (Vc mg.out (by kernel_rfl)) (fun _ _ _ h=>h) (Or.inl ⟨by rfl,?_⟩) ?_ ?_;rotate_left
            ·intro w';go_simp;with_reducible rfl
            rotate_left
            ·simp only [Act.put,List.setIfInBounds_toArray,List.set_cons_zero,List.set_cons_succ,Vb,Wb]
             rfl
            refine od (i:=1) (N:=some 76) (v:=?_) (a':=?_) #[true,true,false,false,false,false,false,false,false,false,false,false] rfl rfl (Vc mg.out (by kernel_rfl)) (fun _ _ _ h=>h) (Or.inl ⟨by rfl,?_⟩) ?_ ?_;rotate_left
            ·intro w';go_simp;with_reducible rfl
            rotate_left
            ·simp only [Act.put,List.setIfInBounds_toArray,List.set_cons_zero,List.set_cons_succ,Vb,Wb]
             rfl
            refine od (i:=2) (N:=some 77) (v:=?_) (a':=?_) #[true,true,true,false,false,false,false,false,false,false,false,false] rfl rfl (Vc mg.out (by kernel_rfl)) (fun _ _ _ h=>h) (Or.inl ⟨by rfl,?_⟩) ?_ ?_;rotate_left
            ·intro w';go_simp;with_reducible rfl
            rotate_left
            ·simp only [Act.put,List.setIfInBounds_toArray,List.set_cons_zero,List.set_cons_succ,Vb,Wb]
             rfl
            refine od (i:=3) (N:=some 78) (v:=undef) (a':=?_) #[true,true,true,true,false,false,false,false,false,false,false,false] rfl rfl (Vc mg.out (by kernel_rfl)) (fun _ _ _ h=>h) (Or.inr ⟨by rfl,rfl⟩) ?_ ?_;rotate_left
            ·simp only [Act.put,List.setIfInBounds_toArray,List.set_cons_zero,List.set_cons_succ,Vb,Wb]
             rfl
            refine od (i:=4) (N:=some 79) (v:=undef) (a':=?_) #[true,true,true,true,true,false,false,false,false,false,false,false] rfl rfl (Vc mg.out (by kernel_rfl)) (fun _ _ _ h=>h) (Or.inr ⟨by rfl,rfl⟩) ?_ ?_;rotate_left
            ·simp only [Act.put,List.setIfInBounds_toArray,List.set_cons_zero,List.set_cons_succ,Vb,Wb]
             rfl
            refine od (i:=5) (N:=some 80) (v:=undef) (a':=?_) #[true,true,true,true,true,true,false,false,false,false,false,false] rfl rfl (Vc mg.out (by kernel_rfl)) (fun _ _ _ h=>h) (Or.inr ⟨by rfl,rfl⟩) ?_ ?_;rotate_left
            ·simp only [Act.put,List.setIfInBounds_toArray,List.set_cons_zero,List.set_cons_succ,Vb,Wb]
             rfl
            refine od (i:=6) (N:=some 81) (v:=undef) (a':=?_) #[true,true,true,true,true,true,true,false,false,false,false,false] rfl rfl (Vc mg.out (by kernel_rfl)) (fun _ _ _ h=>h) (Or.inr ⟨by rfl,rfl⟩) ?_ ?_;rotate_left
            ·simp only [Act.put,List.setIfInBounds_toArray,List.set_cons_zero,List.set_cons_succ,Vb,Wb]
             rfl
            refine od (i:=7) (N:=some 82) (v:=undef) (a':=?_) #[true,true,true,true,true,true,true,true,false,false,false,false] rfl rfl (Vc mg.out (by kernel_rfl)) (fun _ _ _ h=>h) (Or.inr ⟨by rfl,rfl⟩) ?_ ?_;rotate_left
            ·simp only [Act.put,List.setIfInBounds_toArray,List.set_cons_zero,List.set_cons_succ,Vb,Wb]
             rfl
            refine od (i:=8) (N:=some 83) (v:=undef) (a':=?_) #[true,true,true,true,true,true,true,true,true,false,false,false] rfl rfl (Vc mg.out (by kernel_rfl)) (fun _ _ _ h=>h) (Or.inr ⟨by rfl,rfl⟩) ?_ ?_;rotate_left
            ·simp only [Act.put,List.setIfInBounds_toArray,List.set_cons_zero,List.set_cons_succ,Vb,Wb]
             rfl
            refine od (i:=9) (N:=some 84) (v:=undef) (a':=?_) #[true,true,true,true,true,true,true,true,true,true,false,false] rfl rfl (Vc mg.out (by kernel_rfl)) (fun _ _ _ h=>h) (Or.inr ⟨by rfl,rfl⟩) ?_ ?_;rotate_left
            ·simp only [Act.put,List.setIfInBounds_toArray,List.set_cons_zero,List.set_cons_succ,Vb,Wb]
             rfl
            refine od (i:=10) (N:=some 85) (v:=undef) (a':=?_) #[true,true,true,true,true,true,true,true,true,true,true,false] rfl rfl (Vc mg.out (by kernel_rfl)) (fun _ _ _ h=>h) (Or.inr ⟨by rfl,rfl⟩) ?_ ?_;rotate_left
            ·simp only [Act.put,List.setIfInBounds_toArray,List.set_cons_zero,List.set_cons_succ,Vb,Wb]
             rfl
            refine od (i:=11) (N:=some 86) (v:=?_) (a':=?_) #[true,true,true,true,true,true,true,true,true,true,true,true] rfl rfl (Vc mg.out (by kernel_rfl)) (fun _ _ _ h=>h) (Or.inl ⟨by rfl,?_⟩) ?_ ?_;rotate_left
            ·intro w';go_simp;with_reducible rfl
            rotate_left
            ·simp only [Act.put,List.setIfInBounds_toArray,List.set_cons_zero,List.set_cons_succ,Vb,Wb]
             rfl
            refine Mp (Sl mg.out (by kernel_rfl)) ?_
            try go_wp2
            go_ret;exact ⟨by first|rfl|(simp [Ra,Qa] <;> rfl)|(simp [*,Ra,Qa] <;> rfl),by repeat (first|(with_reducible first|exact HB.out|apply oa|apply ia|apply qa|refine ua ?_ Ua.out)|exact HB.out)⟩
           ·rw [if_neg yu] at H;have OA:decide (1000 < (wrap64 (XE + (((Ta Ea Hf).f0).length:Int))))=false:=decide_eq_false yu;clear yu;replace H:=Option.bind_eq_some_iff.mp H;obtain ⟨t111,eah,H⟩:=H;replace H:(if t111=true then (Ya.l1 k3 (wrap64 (XE + (((Ta Ea Hf).f0).length:Int))) (wrap64 (Hf + 1)) Ma La Na Ka Ea) else (some false))=some r:=H;have A33:=aa.mk eah;clear eah
            by_cases ux:t111=true
            ·subst ux;have H1:(Ya.l1 k3 (wrap64 (XE + (((Ta Ea Hf).f0).length:Int))) (wrap64 (Hf + 1)) Ma La Na Ka Ea)=some r:=by rw [if_pos rfl] at H;exact H
             clear H;have H:=H1;clear H1;have H':=aa.mk H;clear H;have AY:wr.cell? ⟨za,0,none⟩=some (.slice xb Ma.length qb):=(ja ta.out 0).trans rfl;have zY:wr.cell? ⟨za,1,none⟩=some (.int .i64 La):=(ja ta.out 1).trans rfl;have yY:wr.cell? ⟨za,2,none⟩=some (.int .i64 Na):=(ja ta.out 2).trans rfl;have xY:wr.cell? ⟨za,3,none⟩=some (.int .i64 Ka):=(ja ta.out 3).trans rfl;have wY:wr.cell? ⟨za,4,none⟩=some (.slice Qb Ea.length Kb):=(ja ta.out 4).trans rfl;have oX:=ga ta.out 0;have nX:=ga ta.out 1;have mX:=ga ta.out 2;have lX:=ga ta.out 3;have kX:=ga ta.out 4;have GC:0 ≤ (Hf:Int):=Pa;have EC:Hf < (Ea.length:Int):=Pa;obtain ⟨kj,pV,zU,jU,br,Zq,Yq,Xq,Wq,ir,kr⟩:=Nk Xf.out Hf GC EC;cases jU;replace br:=Sa HB.out br;replace Zq:=Sa HB.out Zq;replace Yq:=Sa HB.out Yq;replace Xq:=Sa HB.out Xq;replace Wq:=Sa HB.out Wq;have aQ:=aa.mk kr;have jQ:=aa.mk ir;clear kr ir;replace GC:=eq_true GC;replace EC:=eq_true EC
             try go_wp2
             have Cb:=aa.mk (Fa ta.out);have Lb:=aa.mk (qa HB.out);clear ta HB;have ta:=Cb;have HB:=Lb;clear Cb Lb;have KL:0 ≤ (Hf:Int):=Pa;have EL:Hf < (Ea.length:Int):=Pa;obtain ⟨EU,ID,sD,E8,aq,Zp,Yp,Xp,Wp,xy,Ay⟩:=Nk Xf.out Hf KL EL;have Xx:=Wp;have Yx:=Xp;have Zx:=Yp;have ay:=Zp;have cy:=aq;obtain rfl:kj=EU:=(by injection E8);replace aq:=Sa HB.out aq;replace Zp:=Sa HB.out Zp;replace Yp:=Sa HB.out Yp;replace Xp:=Sa HB.out Xp;replace Wp:=Sa HB.out Wp;have Nz:=aa.mk Ay;have FI:=aa.mk xy;clear Ay xy;replace KL:=eq_true KL;replace EL:=eq_true EL;refine fl (n:=12) (S:=fun w'=>w'.cell? ⟨za,0,none⟩=some (.slice xb Ma.length qb)∧w'.cell? ⟨za,1,none⟩=some (.int .i64 La)∧w'.cell? ⟨za,2,none⟩=some (.int .i64 Na)∧w'.cell? ⟨za,3,none⟩=some (.int .i64 Ka)∧w'.cell? ⟨za,4,none⟩=some (.slice (some kj) Ea.length Kb)∧w'.cell? (kj.add ((Hf).toNat * 5))=some (.slice ID ((Ta Ea Hf).f0).length sD)∧w'.cell? ⟨(kj.add ((Hf).toNat * 5)).block,(kj.add ((Hf).toNat * 5)).off + 1,none⟩=some (.int .i64 ((Ta Ea Hf).f1))∧w'.cell? ⟨(kj.add ((Hf).toNat * 5)).block,(kj.add ((Hf).toNat * 5)).off + 2,none⟩=some (.int .i64 ((Ta Ea Hf).f2))∧w'.cell? ⟨(kj.add ((Hf).toNat * 5)).block,(kj.add ((Hf).toNat * 5)).off + 3,none⟩=some (.int .i64 ((Ta Ea Hf).f3))∧w'.cell? ⟨(kj.add ((Hf).toNat * 5)).block,(kj.add ((Hf).toNat * 5)).off + 4,none⟩=some (.int .i64 ((Ta Ea Hf).f4))) (ds:=[]) #[false,false,false,false,false,false,false,false,false,false,false,false] (by kernel_rfl) rfl rfl ⟨(ja ta.out 0).trans rfl,(ja ta.out 1).trans rfl,(ja ta.out 2).trans rfl,(ja ta.out 3).trans rfl,(ja ta.out 4).trans rfl,(Sa HB.out cy),(Sa HB.out ay),(Sa HB.out Zx),(Sa HB.out Yx),(Sa HB.out Xx)⟩ (fun hHeld=>?_);refine Si Ya.XR Ya.DM (fun mg eu=>?_);generalize wr.drew=pE at ta HB Nz aq Zp Yp Xp Wp hHeld ⊢;refine od (i:=0) (N:=some 75) (v:=?_) (a':=?_) #[true,false,false,false,false,false,false,false,false,false,false,false] rfl rfl (Vc mg.out (by kernel_rfl)) (fun _ _ _ h=>h) (Or.inl ⟨by rfl,?_⟩) ?_ ?_;rotate_left
             ·intro w';go_simp;with_reducible rfl
             rotate_left
             ·simp only [Act.put,List.setIfInBounds_toArray,List.set_cons_zero,List.set_cons_succ,Vb,Wb]
              rfl
             refine od (i:=1) (N:=some 76) (v:=?_) (a':=?_) #[true,true,false,false,false,false,false,false,false,false,false,false] rfl rfl (Vc mg.out (by kernel_rfl)) (fun _ _ _ h=>h) (Or.inl ⟨by rfl,?_⟩) ?_ ?_;rotate_left
             ·intro w';go_simp;with_reducible rfl
             rotate_left
             ·simp only [Act.put,List.setIfInBounds_toArray,List.set_cons_zero,List.set_cons_succ,Vb,Wb]
              rfl
             refine od (i:=2) (N:=some 77) (v:=?_) (a':=?_) #[true,true,true,false,false,false,false,false,false,false,false,false] rfl rfl (Vc mg.out (by kernel_rfl)) (fun _ _ _ h=>h) (Or.inl ⟨by rfl,?_⟩) ?_ ?_;rotate_left
             ·intro w';go_simp;with_reducible rfl
             rotate_left
             ·simp only [Act.put,List.setIfInBounds_toArray,List.set_cons_zero,List.set_cons_succ,Vb,Wb]
              rfl
             refine od (i:=4) (N:=some 79) (v:=?_) (a':=?_) #[true,true,true,false,true,false,false,false,false,false,false,false] rfl rfl (Vc mg.out (by kernel_rfl)) (fun _ _ _ h=>h) (Or.inl ⟨by rfl,?_⟩) ?_ ?_;rotate_left
             ·intro w';go_simp;with_reducible rfl
             rotate_left
             ·simp only [Act.put,List.setIfInBounds_toArray,List.set_cons_zero,List.set_cons_succ,Vb,Wb]
              rfl
             refine od (i:=6) (N:=some 81) (v:=?_) (a':=?_) #[true,true,true,false,true,false,true,false,false,false,false,false] rfl rfl (Vc mg.out (by kernel_rfl)) (fun _ _ _ h=>h) (Or.inl ⟨by rfl,?_⟩) ?_ ?_;rotate_left
             ·intro w';go_simp;with_reducible rfl
             rotate_left
             ·simp only [Act.put,List.setIfInBounds_toArray,List.set_cons_zero,List.set_cons_succ,Vb,Wb]
              rfl
             refine Ih (i:=3) (N:=some 78) (v:=?_) (a':=?_) #[true,true,true,true,true,false,true,false,false,false,false,false] rfl rfl (zf mg.out eu.out (by kernel_rfl)) (fun _ _ _ h=>h) (Or.inl ⟨by rfl,?_⟩) hHeld ?_ ?_;rotate_left
             ·rintro w' ⟨s0,s1,s2,s3,s4,s5,s6,s7,s8,s9⟩;go_simp;with_reducible rfl
             rotate_left
             ·simp only [Act.put,List.setIfInBounds_toArray,List.set_cons_zero,List.set_cons_succ,Vb,Wb]
              rfl
             refine Ih (i:=5) (N:=some 80) (v:=?_) (a':=?_) #[true,true,true,true,true,true,true,false,false,false,false,false] rfl rfl (zf mg.out eu.out (by kernel_rfl)) (fun _ _ _ h=>h) (Or.inl ⟨by rfl,?_⟩) hHeld ?_ ?_;rotate_left
             ·rintro w' ⟨s0,s1,s2,s3,s4,s5,s6,s7,s8,s9⟩;go_simp;with_reducible rfl
             rotate_left
             ·simp only [Act.put,List.setIfInBounds_toArray,List.set_cons_zero,List.set_cons_succ,Vb,Wb]
              rfl
             refine od (i:=7) (N:=some 82) (v:=?_) (a':=?_) #[true,true,true,true,true,true,true,true,false,false,false,false] rfl rfl (Vc mg.out (by kernel_rfl)) (fun _ _ _ h=>h) (Or.inl ⟨by rfl,?_⟩) ?_ ?_;rotate_left
             ·intro w';go_simp;with_reducible rfl
             rotate_left
             ·simp only [Act.put,List.setIfInBounds_toArray,List.set_cons_zero,List.set_cons_succ,Vb,Wb]
              rfl
             refine Ih (i:=8) (N:=some 83) (v:=?_) (a':=?_) #[true,true,true,true,true,true,true,true,true,false,false,false] rfl rfl (zf mg.out eu.out (by kernel_rfl)) (fun _ _ _ h=>h) (Or.inl ⟨by rfl,?_⟩) hHeld ?_ ?_;rotate_left
             ·rintro w' ⟨s0,s1,s2,s3,s4,s5,s6,s7,s8,s9⟩;go_simp;with_reducible rfl
             rotate_left
             ·simp only [Act.put,List.setIfInBounds_toArray,List.set_cons_zero,List.set_cons_succ,Vb,Wb]
              rfl
             refine Ko (i:=9) (N:=some 84) #[true,true,true,true,true,true,true,true,true,true,false,false] rfl rfl (vp mg.out (by kernel_rfl)) (by decide) (fun K hK=>?_);refine ju Try.func101 (by kernel_rfl) rfl #[.agg #[.slice xb Ma.length qb,.int .i64 La,.int .i64 Na,.int .i64 Ka,.slice (some kj) Ea.length Kb],.agg #[.slice ID ((Ta Ea Hf).f0).length sD,.int .i64 ((Ta Ea Hf).f1),.int .i64 ((Ta Ea Hf).f2),.int .i64 ((Ta Ea Hf).f3),.int .i64 ((Ta Ea Hf).f4)]] (by rfl) rfl rfl (by (try simp only [List.map_toArray,List.map_cons,List.map_nil]);first|done|rfl|(simp only [List.length_drop,List.length_take];rfl)) ?_;with_reducible refine (Ic.calls k3 _ _ Ma La Na Ka _ _ Ea _ _ ((Ta Ea Hf).f0) ((Ta Ea Hf).f1) ((Ta Ea Hf).f2) ((Ta Ea Hf).f3) ((Ta Ea Hf).f4) true _ ?jc ?ic ?Ed ?Dd ?Fx ?Ex A33.out).mono ?_
             (case jc=>repeat (first|exact (Kd.Ib Ue.out HB.out)|(with_reducible refine Kd.Jb ?_ _)|(with_reducible refine Kd.Gb ?_ _)|(with_reducible refine Kd.dc ?_)))
             (case ic=>exact af.out)
             (case Ed=>repeat (first|exact (Kd.Ib Xf.out HB.out)|(with_reducible refine Kd.Jb ?_ _)|(with_reducible refine Kd.Gb ?_ _)|(with_reducible refine Kd.dc ?_)))
             (case Dd=>exact Zg.out)
             (case Fx=>repeat (first|exact (Kd.Ib Nz.out HB.out)|(with_reducible refine Kd.Jb ?_ _)|(with_reducible refine Kd.Gb ?_ _)|(with_reducible refine Kd.dc ?_)))
             (case Ex=>exact FI.out)
             rintro e E5 ⟨rfl,hb⟩;refine ⟨_,rfl,?_⟩;have Cb:=aa.mk (Xa (g:=za) (o:=.cells #[.slice xb Ma.length qb,.int .i64 La,.int .i64 Na,.int .i64 Ka,.slice (some kj) Ea.length Kb] 45 (0,0)) (by (with_reducible repeat (first|refine Aa ?_ _|refine Fa ?_|refine Ba ?_ _));exact ta.out) hb);have Lb:=aa.mk (Oa (by repeat (first|(with_reducible first|exact HB.out|apply oa|apply ia|apply qa|refine ua ?_ Ua.out)|exact HB.out)) hb);clear ta HB;have ta:=Cb;have HB:=Lb;clear Cb Lb;(try clear hb);(try clear Gj);(try clear hk);(try clear hi);refine hK.out _ _ ⟨(ja ta.out 0).trans rfl,(ja ta.out 1).trans rfl,(ja ta.out 2).trans rfl,(ja ta.out 3).trans rfl,(ja ta.out 4).trans rfl,(Sa HB.out cy),(Sa HB.out ay),(Sa HB.out Zx),(Sa HB.out Yx),(Sa HB.out Xx)⟩ (fun hHeld=>?_);clear hK K;refine Rg (a':=?_) ?_ ?_;rotate_left
             ·show Act.put _ (some 84) _=_
              simp only [Act.put,List.setIfInBounds_toArray,List.set_cons_zero,List.set_cons_succ,Vb,Wb]
              rfl
             refine od (i:=10) (N:=some 85) (v:=?_) (a':=?_) #[true,true,true,true,true,true,true,true,true,true,true,false] rfl rfl (Vc mg.out (by kernel_rfl)) (fun _ _ _ h=>h) (Or.inl ⟨by rfl,?_⟩) ?_ ?_;rotate_left
             ·intro w';go_simp;with_reducible rfl
             rotate_left
             ·simp only [Act.put,List.setIfInBounds_toArray,List.set_cons_zero,List.set_cons_succ,Vb,Wb]
              rfl
             refine od (i:=11) (N:=some 86) (v:=?_) (a':=?_) #[true,true,true,true,true,true,true,true,true,true,true,true] rfl rfl (Vc mg.out (by kernel_rfl)) (fun _ _ _ h=>h) (Or.inl ⟨by rfl,?_⟩) ?_ ?_;rotate_left
             ·intro w';go_simp;with_reducible rfl
             rotate_left
             ·simp only [Act.put,List.setIfInBounds_toArray,List.set_cons_zero,List.set_cons_succ,Vb,Wb]
              rfl
             refine Mp (Sl mg.out (by kernel_rfl)) ?_
             try go_wp2
             go_roundg k3
             case measure=>have:=Cf.out;have:=HJ8.out;have:=yx.out;omega
             case rel=>exact ⟨(wrap64 (XE + (((Ta Ea Hf).f0).length:Int))),(wrap64 (Hf + 1)),(by first|rfl|(simp;done)|(simp [*];done)),(by first|rfl|(simp;done)|(simp [*];done)),H',⟨by have:=Cf.out;have:=HJ8.out;have:=yx.out;omega⟩,⟨by (with_reducible repeat (first|refine Aa ?_ _|refine Fa ?_|refine Ba ?_ _));exact ta.out⟩,⟨by repeat (first|(with_reducible first|exact HB.out|apply oa|apply ia|apply qa|refine ua ?_ Ua.out)|exact HB.out)⟩⟩
            ·replace ux:=Bool.eq_false_iff.mpr ux;subst ux;have H1:(some false)=some r:=by rw [if_neg (show ¬ (false=true) by decide)] at H;exact H
             clear H;have H:=H1;clear H1;obtain rfl:=Option.some.inj H;have eH:wr.cell? ⟨za,0,none⟩=some (.slice xb Ma.length qb):=(ja ta.out 0).trans rfl;have dH:wr.cell? ⟨za,1,none⟩=some (.int .i64 La):=(ja ta.out 1).trans rfl;have cH:wr.cell? ⟨za,2,none⟩=some (.int .i64 Na):=(ja ta.out 2).trans rfl;have bH:wr.cell? ⟨za,3,none⟩=some (.int .i64 Ka):=(ja ta.out 3).trans rfl;have aH:wr.cell? ⟨za,4,none⟩=some (.slice Qb Ea.length Kb):=(ja ta.out 4).trans rfl;have aG:=ga ta.out 0;have ZF:=ga ta.out 1;have YF:=ga ta.out 2;have XF:=ga ta.out 3;have VF:=ga ta.out 4;have GC:0 ≤ (Hf:Int):=Pa;have EC:Hf < (Ea.length:Int):=Pa;obtain ⟨kj,pV,zU,jU,br,Zq,Yq,Xq,Wq,ir,kr⟩:=Nk Xf.out Hf GC EC;cases jU;replace br:=Sa HB.out br;replace Zq:=Sa HB.out Zq;replace Yq:=Sa HB.out Yq;replace Xq:=Sa HB.out Xq;replace Wq:=Sa HB.out Wq;have aQ:=aa.mk kr;have jQ:=aa.mk ir;clear kr ir;replace GC:=eq_true GC;replace EC:=eq_true EC
             try go_wp2
             have Cb:=aa.mk (Fa ta.out);have Lb:=aa.mk (qa HB.out);clear ta HB;have ta:=Cb;have HB:=Lb;clear Cb Lb;have KL:0 ≤ (Hf:Int):=Pa;have EL:Hf < (Ea.length:Int):=Pa;obtain ⟨EU,ID,sD,E8,aq,Zp,Yp,Xp,Wp,xy,Ay⟩:=Nk Xf.out Hf KL EL;have Xx:=Wp;have Yx:=Xp;have Zx:=Yp;have ay:=Zp;have cy:=aq;obtain rfl:kj=EU:=(by injection E8);replace aq:=Sa HB.out aq;replace Zp:=Sa HB.out Zp;replace Yp:=Sa HB.out Yp;replace Xp:=Sa HB.out Xp;replace Wp:=Sa HB.out Wp;have Nz:=aa.mk Ay;have FI:=aa.mk xy;clear Ay xy;replace KL:=eq_true KL;replace EL:=eq_true EL;refine fl (n:=12) (S:=fun w'=>w'.cell? ⟨za,0,none⟩=some (.slice xb Ma.length qb)∧w'.cell? ⟨za,1,none⟩=some (.int .i64 La)∧w'.cell? ⟨za,2,none⟩=some (.int .i64 Na)∧w'.cell? ⟨za,3,none⟩=some (.int .i64 Ka)∧w'.cell? ⟨za,4,none⟩=some (.slice (some kj) Ea.length Kb)∧w'.cell? (kj.add ((Hf).toNat * 5))=some (.slice ID ((Ta Ea Hf).f0).length sD)∧w'.cell? ⟨(kj.add ((Hf).toNat * 5)).block,(kj.add ((Hf).toNat * 5)).off + 1,none⟩=some (.int .i64 ((Ta Ea Hf).f1))∧w'.cell? ⟨(kj.add ((Hf).toNat * 5)).block,(kj.add ((Hf).toNat * 5)).off + 2,none⟩=some (.int .i64 ((Ta Ea Hf).f2))∧w'.cell? ⟨(kj.add ((Hf).toNat * 5)).block,(kj.add ((Hf).toNat * 5)).off + 3,none⟩=some (.int .i64 ((Ta Ea Hf).f3))∧w'.cell? ⟨(kj.add ((Hf).toNat * 5)).block,(kj.add ((Hf).toNat * 5)).off + 4,none⟩=some (.int .i64 ((Ta Ea Hf).f4))) (ds:=[]) #[false,false,false,false,false,false,false,false,false,false,false,false] (by kernel_rfl) rfl rfl ⟨(ja ta.out 0).trans rfl,(ja ta.out 1).trans rfl,(ja ta.out 2).trans rfl,(ja ta.out 3).trans rfl,(ja ta.out 4).trans rfl,(Sa HB.out cy),(Sa HB.out ay),(Sa HB.out Zx),(Sa HB.out Yx),(Sa HB.out Xx)⟩ (fun hHeld=>?_);refine Si Ya.XR Ya.DM (fun mg eu=>?_);generalize wr.drew=w39 at ta HB Nz aq Zp Yp Xp Wp hHeld ⊢;refine od (i:=0) (N:=some 75) (v:=?_) (a':=?_) #[true,false,false,false,false,false,false,false,false,false,false,false] rfl rfl (Vc mg.out (by kernel_rfl)) (fun _ _ _ h=>h) (Or.inl ⟨by rfl,?_⟩) ?_ ?_;rotate_left
             ·intro w';go_simp;with_reducible rfl
             rotate_left
             ·simp only [Act.put,List.setIfInBounds_toArray,List.set_cons_zero,List.set_cons_succ,Vb,Wb]
              rfl
             refine od (i:=1) (N:=some 76) (v:=?_) (a':=?_) #[true,true,false,false,false,false,false,false,false,false,false,false] rfl rfl (Vc mg.out (by kernel_rfl)) (fun _ _ _ h=>h) (Or.inl ⟨by rfl,?_⟩) ?_ ?_;rotate_left
             ·intro w';go_simp;with_reducible rfl
             rotate_left
             ·simp only [Act.put,List.setIfInBounds_toArray,List.set_cons_zero,List.set_cons_succ,Vb,Wb]
              rfl
             refine od (i:=2) (N:=some 77) (v:=?_) (a':=?_) #[true,true,true,false,false,false,false,false,false,false,false,false] rfl rfl (Vc mg.out (by kernel_rfl)) (fun _ _ _ h=>h) (Or.inl ⟨by rfl,?_⟩) ?_ ?_;rotate_left
             ·intro w';go_simp;with_reducible rfl
             rotate_left
             ·simp only [Act.put,List.setIfInBounds_toArray,List.set_cons_zero,List.set_cons_succ,Vb,Wb]
              rfl
             refine od (i:=4) (N:=some 79) (v:=?_) (a':=?_) #[true,true,true,false,true,false,false,false,false,false,false,false] rfl rfl (Vc mg.out (by kernel_rfl)) (fun _ _ _ h=>h) (Or.inl ⟨by rfl,?_⟩) ?_ ?_;rotate_left
             ·intro w';go_simp;with_reducible rfl
             rotate_left
             ·simp only [Act.put,List.setIfInBounds_toArray,List.set_cons_zero,List.set_cons_succ,Vb,Wb]
              rfl
             refine od (i:=6) (N:=some 81) (v:=?_) (a':=?_) #[true,true,true,false,true,false,true,false,false,false,false,false] rfl rfl (Vc mg.out (by kernel_rfl)) (fun _ _ _ h=>h) (Or.inl ⟨by rfl,?_⟩) ?_ ?_;rotate_left
             ·intro w';go_simp;with_reducible rfl
             rotate_left
             ·simp only [Act.put,List.setIfInBounds_toArray,List.set_cons_zero,List.set_cons_succ,Vb,Wb]
              rfl
             refine Ih (i:=3) (N:=some 78) (v:=?_) (a':=?_) #[true,true,true,true,true,false,true,false,false,false,false,false] rfl rfl (zf mg.out eu.out (by kernel_rfl)) (fun _ _ _ h=>h) (Or.inl ⟨by rfl,?_⟩) hHeld ?_ ?_;rotate_left
             ·rintro w' ⟨s0,s1,s2,s3,s4,s5,s6,s7,s8,s9⟩;go_simp;with_reducible rfl
             rotate_left
             ·simp only [Act.put,List.setIfInBounds_toArray,List.set_cons_zero,List.set_cons_succ,Vb,Wb]
              rfl
             refine Ih (i:=5) (N:=some 80) (v:=?_) (a':=?_) #[true,true,true,true,true,true,true,false,false,false,false,false] rfl rfl (zf mg.out eu.out (by kernel_rfl)) (fun _ _ _ h=>h) (Or.inl ⟨by rfl,?_⟩) hHeld ?_ ?_;rotate_left
             ·rintro w' ⟨s0,s1,s2,s3,s4,s5,s6,s7,s8,s9⟩;go_simp;with_reducible rfl
             rotate_left
             ·simp only [Act.put,List.setIfInBounds_toArray,List.set_cons_zero,List.set_cons_succ,Vb,Wb]
              rfl
             refine od (i:=7) (N:=some 82) (v:=?_) (a':=?_) #[true,true,true,true,true,true,true,true,false,false,false,false] rfl rfl (Vc mg.out (by kernel_rfl)) (fun _ _ _ h=>h) (Or.inl ⟨by rfl,?_⟩) ?_ ?_;rotate_left
             ·intro w';go_simp;with_reducible rfl
             rotate_left
             ·simp only [Act.put,List.setIfInBounds_toArray,List.set_cons_zero,List.set_cons_succ,Vb,Wb]
              rfl
             refine Ih (i:=8) (N:=some 83) (v:=?_) (a':=?_) #[true,true,true,true,true,true,true,true,true,false,false,false] rfl rfl (zf mg.out eu.out (by kernel_rfl)) (fun _ _ _ h=>h) (Or.inl ⟨by rfl,?_⟩) hHeld ?_ ?_;rotate_left
             ·rintro w' ⟨s0,s1,s2,s3,s4,s5,s6,s7,s8,s9⟩;go_simp;with_reducible rfl
             rotate_left
             ·simp only [Act.put,List.setIfInBounds_toArray,List.set_cons_zero,List.set_cons_succ,Vb,Wb]
              rfl
             refine Ko (i:=9) (N:=some 84) #[true,true,true,true,true,true,true,true,true,true,false,false] rfl rfl (vp mg.out (by kernel_rfl)) (by decide) (fun K hK=>?_);refine ju Try.func101 (by kernel_rfl) rfl #[.agg #[.slice xb Ma.length qb,.int .i64 La,.int .i64 Na,.int .i64 Ka,.slice (some kj) Ea.length Kb],.agg #[.slice ID ((Ta Ea Hf).f0).length sD,.int .i64 ((Ta Ea Hf).f1),.int .i64 ((Ta Ea Hf).f2),.int .i64 ((Ta Ea Hf).f3),.int .i64 ((Ta Ea Hf).f4)]] (by rfl) rfl rfl (by (try simp only [List.map_toArray,List.map_cons,List.map_nil]);first|done|rfl|(simp only [List.length_drop,List.length_take];rfl)) ?_;with_reducible refine (Ic.calls k3 _ _ Ma La Na Ka _ _ Ea _ _ ((Ta Ea Hf).f0) ((Ta Ea Hf).f1) ((Ta Ea Hf).f2) ((Ta Ea Hf).f3) ((Ta Ea Hf).f4) false _ ?jc ?ic ?Ed ?Dd ?Fx ?Ex A33.out).mono ?_
             (case jc=>repeat (first|exact (Kd.Ib Ue.out HB.out)|(with_reducible refine Kd.Jb ?_ _)|(with_reducible refine Kd.Gb ?_ _)|(with_reducible refine Kd.dc ?_)))
             (case ic=>exact af.out)
             (case Ed=>repeat (first|exact (Kd.Ib Xf.out HB.out)|(with_reducible refine Kd.Jb ?_ _)|(with_reducible refine Kd.Gb ?_ _)|(with_reducible refine Kd.dc ?_)))
             (case Dd=>exact Zg.out)
             (case Fx=>repeat (first|exact (Kd.Ib Nz.out HB.out)|(with_reducible refine Kd.Jb ?_ _)|(with_reducible refine Kd.Gb ?_ _)|(with_reducible refine Kd.dc ?_)))
             (case Ex=>exact FI.out)
             rintro e w40 ⟨rfl,hb⟩;refine ⟨_,rfl,?_⟩;have Cb:=aa.mk (Xa (g:=za) (o:=.cells #[.slice xb Ma.length qb,.int .i64 La,.int .i64 Na,.int .i64 Ka,.slice (some kj) Ea.length Kb] 45 (0,0)) (by (with_reducible repeat (first|refine Aa ?_ _|refine Fa ?_|refine Ba ?_ _));exact ta.out) hb);have Lb:=aa.mk (Oa (by repeat (first|(with_reducible first|exact HB.out|apply oa|apply ia|apply qa|refine ua ?_ Ua.out)|exact HB.out)) hb);clear ta HB;have ta:=Cb;have HB:=Lb;clear Cb Lb;(try clear hb);(try clear Gj);(try clear hk);(try clear hi);refine hK.out _ _ ⟨(ja ta.out 0).trans rfl,(ja ta.out 1).trans rfl,(ja ta.out 2).trans rfl,(ja ta.out 3).trans rfl,(ja ta.out 4).trans rfl,(Sa HB.out cy),(Sa HB.out ay),(Sa HB.out Zx),(Sa HB.out Yx),(Sa HB.out Xx)⟩ (fun hHeld=>?_);clear hK K;refine Rg (a':=?_) ?_ ?_;rotate_left
             ·show Act.put _ (some 84) _=_
              simp only [Act.put,List.setIfInBounds_toArray,List.set_cons_zero,List.set_cons_succ,Vb,Wb]
              rfl
             refine od (i:=10) (N:=some 85) (v:=?_) (a':=?_) #[true,true,true,true,true,true,true,true,true,true,true,false] rfl rfl (Vc mg.out (by kernel_rfl)) (fun _ _ _ h=>h) (Or.inl ⟨by rfl,?_⟩) ?_ ?_;rotate_left
             ·intro w';go_simp;with_reducible rfl
             rotate_left
             ·simp only [Act.put,List.setIfInBounds_toArray,List.set_cons_zero,List.set_cons_succ,Vb,Wb]
              rfl
             refine od (i:=11) (N:=some 86) (v:=?_) (a':=?_) #[true,true,true,true,true,true,true,true,true,true,true,true] rfl rfl (Vc mg.out (by kernel_rfl)) (fun _ _ _ h=>h) (Or.inl ⟨by rfl,?_⟩) ?_ ?_;rotate_left
             ·intro w';go_simp;with_reducible rfl
             rotate_left
             ·simp only [Act.put,List.setIfInBounds_toArray,List.set_cons_zero,List.set_cons_succ,Vb,Wb]
              rfl
             refine Mp (Sl mg.out (by kernel_rfl)) ?_
             try go_wp2
             go_ret;exact ⟨by first|rfl|(simp [Ra,Qa] <;> rfl)|(simp [*,Ra,Qa] <;> rfl),by repeat (first|(with_reducible first|exact HB.out|apply oa|apply ia|apply qa|refine ua ?_ Ua.out)|exact HB.out)⟩
          ·rw [if_neg ew] at H;exact absurd H (by simp)
         ·rw [if_neg Zt] at H;have nr:decide (Hf < (Ea.length:Int))=false:=decide_eq_false Zt;clear Zt;obtain rfl:=Option.some.inj H;have nY:wr.cell? ⟨za,0,none⟩=some (.slice xb Ma.length qb):=(ja ta.out 0).trans rfl;have mY:wr.cell? ⟨za,1,none⟩=some (.int .i64 La):=(ja ta.out 1).trans rfl;have lY:wr.cell? ⟨za,2,none⟩=some (.int .i64 Na):=(ja ta.out 2).trans rfl;have kY:wr.cell? ⟨za,3,none⟩=some (.int .i64 Ka):=(ja ta.out 3).trans rfl;have jY:wr.cell? ⟨za,4,none⟩=some (.slice Qb Ea.length Kb):=(ja ta.out 4).trans rfl;have bX:=ga ta.out 0;have aX:=ga ta.out 1;have ZW:=ga ta.out 2;have YW:=ga ta.out 3;have XW:=ga ta.out 4;go_wp2;go_ret;exact ⟨by first|rfl|(simp [Ra,Qa] <;> rfl)|(simp [*,Ra,Qa] <;> rfl),by repeat (first|(with_reducible first|exact HB.out|apply oa|apply ia|apply qa|refine ua ?_ Ua.out)|exact HB.out)⟩
end Go.Proofs.Ytoomcmaifgkkfaa.P
end
