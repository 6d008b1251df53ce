import Derived.Test.YtoomcmaifgkkfaaQLoop1
import Derived.Test.YtoomcmaifgkkfaaQLoop3
set_option maxHeartbeats 8000000
set_option maxRecDepth 100000
section
namespace Go.Proofs.Ytoomcmaifgkkfaa.P
open Go.RowKit Go.Proofs.Aa.Db Go.Proofs.Aa.Tc Go.Proofs.Aa.ke
set_option linter.unusedVariables false
set_option linter.unusedSimpArgs false
attribute [local go_sem] fh bh Zh Yh mg lg dh ah
mutual
def Ab.l0:Nat→Int→List Bool→List Int→List Int→Int→Int→Int→List (Wd)→Option (List Bool)
 | 0,_,_,_,_,_,_,_,_=>none
 | k + 1,x2,x3,x8,Fc,Ec,Dc,Cc,Lb=>if (x8.length:Int) > 0 then (if 0 < (x8.length:Int) then (if 0 ≤ (rd x8 0) then (if (rd x8 0) < (Lb.length:Int) then ((bf.f ((Ea Lb (rd x8 0)).f0) ((Ea Lb (rd x8 0)).f1) ((Ea Lb (rd x8 0)).f2) ((Ea Lb (rd x8 0)).f3) ((Ea Lb (rd x8 0)).f4)).bind fun t108=>(if 1 ≤ (x8.length:Int) then (Ab.l1 k x2 x3 (x8.drop (1:Int).toNat) t108 0 Fc Ec Dc Cc Lb) else (none))) else (none)) else (none)) else (none)) else (some x3)
def Ab.l1:Nat→Int→List Bool→List Int→List Int→Int→List Int→Int→Int→Int→List (Wd)→Option (List Bool)
 | 0,_,_,_,_,_,_,_,_,_,_=>none
 | k + 1,x2,x3,x8,x9,sy,Fc,Ec,Dc,Cc,Lb=>if sy < (x9.length:Int) then (if 0 ≤ sy then (if (rd x9 sy)=x2 then (Ab.l1 k x2 x3 x8 x9 (wrap64 (sy + 1)) Fc Ec Dc Cc Lb) else (if 0 ≤ (rd x9 sy) then (if (rd x9 sy) < (x3.length:Int) then (if (xg false x3 (rd x9 sy)=true) then (Ab.l1 k x2 x3 x8 x9 (wrap64 (sy + 1)) Fc Ec Dc Cc Lb) else (if x8.length < 17592186044416 then (Ab.l1 k x2 (x3.set ((rd x9 sy):Int).toNat true) (x8 ++ [rd x9 sy]) x9 (wrap64 (sy + 1)) Fc Ec Dc Cc Lb) else (none))) else (none)) else (none))) else (none)) else (Ab.l0 k x2 x3 x8 Fc Ec Dc Cc Lb)
end
def Ab.f (k:Nat) (Ma:List Int) (Oa:Int) (Pa:Int) (Na:Int) (oa:List (Wd)) (a1:Int) (a2:Int) (l3:List Bool):Option (List Bool):=if 0 ≤ a1 then (if a1 < (l3.length:Int) then (Ab.l0 k a2 (l3.set (a1:Int).toNat true) (([a1]:List Int)) Ma Oa Pa Na oa) else (none)) else (none)
def Ab.T4:Bool × List (List Nat × List Nat):=(true,[([],[]),([0],[0]),([],[]),([2],[2]),([3],[3]),([1,4],[1,4]),([5],[5]),([6],[6]),([7,7,0,1,2,3,4,5,6,7],[7])])
def Ab.B4:List Nat:=[0,1,0,4,12,31,63,127,255]
theorem Ab.j6:qm .any (opsOf Try.f102 4)=Ab.T4:=by kernel_rfl
theorem Ab.bX:xo Ab.T4.2 Ab.B4=true:=by kernel_rfl
theorem Ab.calls (k:Nat) (zb:Option Addr) (yb:Nat) (Ma:List Int) (Oa:Int) (Pa:Int) (Na:Int) (Ob:Option Addr) (Fb:Nat) (oa:List (Wd)) (a1:Int) (a2:Int) (Uq:Nat→Prop) (Xe:Value) (l3:List Bool) (r:List Bool) (w0 w:World) (hB:Below w0.heap.size w0 w) (qd:∀ W_,Kept w W_ (fun k_=>Uq k_)→Kd.C (Kd.int .i64) W_ zb Ma.length Ma) (Ad:Ma.length ≤ yb) (fe:∀ W_,Kept w W_ (fun k_=>Uq k_)→Kd.C Km W_ Ob oa.length oa) (Fe:oa.length ≤ Fb) (bH:Kd.R Kd.bool 4 w w0.heap.size Uq Xe l3) (h:Ab.f k Ma Oa Pa Na oa a1 a2 l3=some r) :
  Calls Try.prog 102 #[.agg #[.slice zb Ma.length yb,.int .i64 Oa,.int .i64 Pa,.int .i64 Na,.slice Ob oa.length Fb],.int .i64 a1,.int .i64 a2,Xe] w fun e w'=>e = .returned (.tuple #[])∧Kd.R Kd.bool 4 w' w0.heap.size (fun k_=>(Uq k_ ∨ w.heap.size ≤ k_)) Xe r∧Below w0.heap.size w0 w'∧Kept w w' (fun k_=>Uq k_):=by
 have gD:=Try.underlying45;have Sy:=Try.underlying83;have Ng:=aa.mk qd;have Pg:=aa.mk Ad;clear qd Ad;have Dh:=aa.mk fe;have bk:=aa.mk Fe;clear fe Fe;have Rt:=aa.mk (show Kd.R Kd.bool 4 w w0.heap.size (fun k_=>(Uq k_ ∨ w.heap.size ≤ k_)) Xe l3 from Kd.Eb bH (fun k_ hk=>(.inl hk)));have HK:=aa.mk (Kept.refl w (fun k_=>Uq k_));have S_:=aa.mk hB.size;have HB:=aa.mk hB;clear hB;have H:(if 0 ≤ a1 then (if a1 < (l3.length:Int) then (Ab.l0 k a2 (l3.set (a1:Int).toNat true) (([a1]:List Int)) Ma Oa Pa Na oa) else (none)) else (none))=some r:=h;clear h;obtain ⟨yd,Ee⟩:∃ y_:List Int,y_=(([a1]:List Int)):=⟨_,rfl⟩;replace H:(if 0 ≤ a1 then (if a1 < (l3.length:Int) then (Ab.l0 k a2 (l3.set (a1:Int).toNat true) yd Ma Oa Pa Na oa) else (none)) else (none))=some r:=by first|(rw [Ee];with_reducible exact H)|(have Qc:=(Option.bind_some _ _).symm.trans H;rw [Ee];with_reducible exact Qc)|(have Qc:=(Option.bind_some _ _).symm.trans H;with_reducible exact Qc)|with_reducible exact H|(rw [Ee];exact H)|exact H
 have Ch:=aa.mk Ee;clear Ee
 by_cases c5:0 ≤ a1
 ·rw [if_pos c5] at H;have Rq:decide (0 ≤ a1)=true:=decide_eq_true c5;clear c5
  by_cases c6:a1 < (l3.length:Int)
  ·rw [if_pos c6] at H;have Gt:decide (a1 < (l3.length:Int))=true:=decide_eq_true c6;clear c6;obtain ⟨Pd,Hf⟩:∃ y_:List Bool,y_=(l3.set (a1:Int).toNat true):=⟨_,rfl⟩;replace H:(Ab.l0 k a2 Pd yd Ma Oa Pa Na oa)=some r:=by first|(rw [Hf];with_reducible exact H)|(have Qc:=(Option.bind_some _ _).symm.trans H;rw [Hf];with_reducible exact Qc)|(have Qc:=(Option.bind_some _ _).symm.trans H;with_reducible exact Qc)|with_reducible exact H|(rw [Hf];exact H)|exact H
   have Tk:=aa.mk Hf;clear Hf;have H':=aa.mk H;clear H;go_enter Try.func102,Try.ntmps102;go_wp2_with (first|((with_reducible refine Qb (N:=4) rfl ?_);refine Ic ?hg (N:=4) ?hd (cs:=#[.slice zb Ma.length yb,.int .i64 Oa,.int .i64 Pa,.int .i64 Na,.slice Ob oa.length Fb]) (t:=45) ?hr ?_;(case hd|hg=>rfl);(case hr=>exact jaj);intro Ka hg w8 Bd hb;have Pb:=aa.mk (Kd.ec (by (with_reducible repeat (first|apply Kd.Ia|apply Kd.La|apply Kd.Ra));exact Rt.out) hb);have Rb:=aa.mk (Kept.below (S:=(fun k_=>Uq k_)) Daj hb);have Yb:=aa.mk (Ga maj hb);have Vc:=aa.mk (Bd);have Df:=aa.mk ((by rw [hg];exact (by first|exact HK.out.1|exact (show Kept w _ (fun k_=>Uq k_) from by repeat (first|(with_reducible first|exact HK.out|apply Kept.alloc|apply Kept.drewN|apply Kept.drew)|exact HK.out)).1):w.heap.size ≤ Ka));have Qg:=aa.mk ((by rw [hg];exact (Qa maj):w0.heap.size ≤ Ka));clear Rt HK HB;have Rt:=Pb;have HK:=Rb;have HB:=Yb;have qa:=Vc;have Vf:=Df;have Xa:=Qg;clear Pb Rb Yb Vc Df Qg hb Bd hg)|((with_reducible refine Qb (N:=12) rfl ?_);refine Kd.Yj (Kd.int .i64) _ 3 ?hg (N:=12) ?hd (xs:=([a1]:List Int)) (inner:=[.int .i64 a1]) (ok:=fun _=>True) (Yg:=fun _=>True) ?hr ?hp (fun _ hk=>hk) trivial (Below.refl _ _) (Nat.le_refl _) (by simp) ?_;(case hd|hg=>rfl);(case hr=>exact jaj);(case hp=>exact (Pc.one (show Kd.M (Kd.int .i64) _ _ _ a1 [.int .i64 a1] from rfl) (Pc.none _ _)));intro th w9 YI hb Ll Pe;clear Ll Pe;(first|rw [← Ch.out] at YI|(simp only [Int.reduceToNat] at YI;rw [← Ch.out] at YI));have Pb:=aa.mk (Kd.ec (by (with_reducible repeat (first|apply Kd.Ia|apply Kd.La|apply Kd.Ra));exact Rt.out) hb);have Rb:=aa.mk (Kd.Xc (Kd.AK (M:=fun k_=>(Uq k_ ∨ w.heap.size ≤ k_)) YI Vaj (fun k_ h_=>.inr h_)) (Qa laj));have Yb:=aa.mk (Ta (g:=Ka) (o:=.cells #[.slice zb Ma.length yb,.int .i64 Oa,.int .i64 Pa,.int .i64 Na,.slice Ob oa.length Fb] 45 (0,0)) naj hb);have Vc:=aa.mk (Kept.below (S:=(fun k_=>Uq k_)) Paj hb);have Df:=aa.mk (Ga laj hb);clear Rt qa HK HB;have Rt:=Pb;have qe:=Rb;have qa:=Yb;have HK:=Vc;have HB:=Df;clear Pb Rb Yb Vc Df hb YI;have p7:0 ≤ (a1:Int):=Ja;have q7:(a1:Int) < ((l3.length:Int):Int):=Ja;obtain ⟨sD,bT,eo7,gb7,gl7,cl7,GY⟩:=Kd.qj Rt.out (by omega);(first|cases eo7|(injection eo7 with ej qv tv;(first|subst ej|(injection ej with ej;subst ej));subst tv;clear qv));have GB7:=aa.mk gb7;have GG7:=aa.mk GY;clear gb7 gl7 GY;have lae:=aa.mk (show (Uq sD ∨ w.heap.size ≤ sD) from (Rt.out.1 _ rfl));obtain ⟨GI,IV⟩:=Kd.Dg false Rt.out (a1:Int) p7 q7;replace p7:=eq_true p7;replace q7:=eq_true q7;obtain ⟨aab,Zaa⟩:=Kd.Dg false Rt.out (a1:Int) (Ja) (Ja);have cE:=Kd.vk Rt.out (a1:Int) true)|((with_reducible refine Ce (t:=4) (p:=15) rfl ?_);refine Sd (t:=4) (p:=15) (v:=?T5) (w1:=(w9.setCell ⟨sD,(a1:Int).toNat,none⟩ (.bool true))) ?hg ?ho ?hn ?hr ?_;(case ho=>rfl);(case hg=>rfl);(case hn=>rfl);(case hr=>exact jaj);intro Vv hw;have hg:w9.grownBy Vv (some sD):=(by rw [hw];exact cE.2);have Gj:Kd.R Kd.bool 4 Vv w0.heap.size (fun k_=>(Uq k_ ∨ w.heap.size ≤ k_)) (.slice (some ⟨sD,0,none⟩) l3.length bT) Pd:=(by rw [hw,Tk.out];exact cE.1);clear cE;have Pb:=aa.mk (Gj);have Rb:=aa.mk (uf (g:=Ka) (o:=.cells #[.slice zb Ma.length yb,.int .i64 Oa,.int .i64 Pa,.int .i64 Na,.slice Ob oa.length Fb] 45 (0,0)) naj hg (Kd.xp Rt.out qa.out (by decide)));have Yb:=aa.mk (Kd.Ek (v:=(.slice (some ⟨sD,0,none⟩) l3.length bT)) yaj (Kd.Dk Rt.out) (by decide) hg);have Vc:=aa.mk ((by rw [hw];exact ta (HB.out) GB7.out:Below w0.heap.size w0 Vv));have Df:=aa.mk (Kept.Af (S:=(fun k_=>Uq k_)) hg Paj (fun k_ e_=>(Rt.out.1 k_ e_)));clear Rt qa qe HB HK;have Rt:=Pb;have qa:=Rb;have qe:=Yb;have HB:=Vc;have HK:=Df;clear Pb Rb Yb Vc Df hg hw Gj))
   go_loopg [8] k (fun kq v8 w'=>∃ (uc:List Bool) (qc:List Int),aa (Ab.l0 kq a2 uc qc Ma Oa Pa Na oa=some r)∧aa (kq ≤ k)∧aa (Kd.R Kd.bool 4 w' w0.heap.size (fun k_=>(Uq k_ ∨ w.heap.size ≤ k_)) (.slice (some ⟨sD,0,none⟩) l3.length bT) uc)∧aa (Kd.Q (Kd.int .i64) 3 w' w0.heap.size (fun k_=>(Uq k_ ∨ w.heap.size ≤ k_)) v8 qc)∧aa (w'.heap[Ka]? = some (.cells #[(.slice zb Ma.length yb),.int .i64 Oa,.int .i64 Pa,.int .i64 Na,(.slice Ob oa.length Fb)] 45 (0,0)))∧aa (Kept w w' (fun k_=>Uq k_))∧aa (Below w0.heap.size w0 w'))
   case atStart=>exact ⟨(Pd),(yd),H',⟨Nat.le_refl _⟩,⟨by (with_reducible repeat (first|apply Kd.Ia|apply Kd.La|apply Kd.Ra));exact Rt.out⟩,⟨Kd.Sw (by (with_reducible repeat (first|apply Kd.Ia|apply Kd.La|apply Kd.Ra));exact Kd.Eb qe.out (fun _ hk=>hk.1))⟩,⟨saj⟩,⟨Iaj⟩,⟨oaj⟩⟩
   case round =>
    clear H'
    try clear c1
    try clear p2
    try clear c5
    try clear Rq
    try clear c6
    try clear Gt
    try clear p7
    try clear q7
    try clear hx7
    try clear hf7
    try clear mK
    try clear GI
    try clear p7
    try clear q7
    (try clear HA);(try clear Kf);(try clear jc);(try clear jf);(try clear qa);(try clear HK);(try clear HB);obtain ⟨uc,qc,HA,Kf,jc,jf,qa,HK,HB⟩:=hrel;have Rh:=(Kd.Ua jc.out).1;rw [Rh] at jc;(try simp only [Rh]);(try simp only [Rh] at qa);(try simp only [Rh] at jf);cases gk with
    | zero=>exact absurd HA.out (by simp [Ab.l0])
    | succ k1 =>
     have H:=HA.out;clear HA;simp only [Ab.l0] at H
     by_cases Cx:(qc.length:Int) > 0
     ·rw [if_pos Cx] at H;have Zx:decide (0 < (qc.length:Int))=true:=decide_eq_true Cx;have yP:decide (0 < qc.length)=true:=decide_eq_true (by omega);clear Cx
      by_cases rA:0 < (qc.length:Int)
      ·rw [if_pos rA] at H;have Yx:decide (0 < (qc.length:Int))=true:=decide_eq_true rA;have RW:decide (0 < qc.length)=true:=decide_eq_true (by omega);clear rA
       by_cases Zw:0 ≤ (rd qc 0)
       ·rw [if_pos Zw] at H;have xP:decide (0 ≤ (rd qc 0))=true:=decide_eq_true Zw;clear Zw
        by_cases Iz:(rd qc 0) < (oa.length:Int)
        ·rw [if_pos Iz] at H;have XB:decide ((rd qc 0) < (oa.length:Int))=true:=decide_eq_true Iz;clear Iz;replace H:=Option.bind_eq_some_iff.mp H;obtain ⟨t108,rZ,H⟩:=H
         try dsimp only at H
         have A17:=aa.mk rZ;clear rZ
         by_cases Xx:1 ≤ (qc.length:Int)
         ·rw [if_pos Xx] at H;have Wx:=eq_true Xx;have WB:decide (1 ≤ (qc.length:Int))=true:=decide_eq_true Xx;clear Xx;obtain ⟨FC,cB⟩:∃ y_:List Int,y_=(qc.drop (1:Int).toNat):=⟨_,rfl⟩;replace H:(Ab.l1 k1 a2 uc FC t108 0 Ma Oa Pa Na oa)=some r:=by first|(rw [cB];with_reducible exact H)|(have Qc:=(Option.bind_some _ _).symm.trans H;rw [cB];with_reducible exact Qc)|(have Qc:=(Option.bind_some _ _).symm.trans H;with_reducible exact Qc)|with_reducible exact H|(rw [cB];exact H)|exact H
          have GP:=aa.mk cB;clear cB;have H':=aa.mk H;clear H;obtain ⟨Caa,dK,WS,_⟩:=Kd.Fk jf.out;subst WS
          try go_wp2
          have Pb:=aa.mk (Kd.Ra jc.out);have Rb:=aa.mk (Kd.Ze jf.out);have Yb:=aa.mk (Fa qa.out);have Vc:=aa.mk (Kept.drew HK.out);have Df:=aa.mk (ja HB.out);clear jc jf qa HK HB;have jc:=Pb;have jf:=Rb;have qa:=Yb;have HK:=Vc;have HB:=Df;clear Pb Rb Yb Vc Df;have RL:0 ≤ (0:Int):=(by omega);have NL:0 < (qc.length:Int):=Ja;obtain ⟨iy,z_,Es⟩:=Kd.Ld (Kd.Gm jf.out).2.2 0 RL NL;cases z_;have Raa:(0 < qc.length)=True:=eq_true (by omega);(try rw [show ((0:Int)).toNat=0 from rfl] at Es);(try rw [Addr.add_zero'] at Es);replace RL:=eq_true RL;replace NL:=eq_true NL;have Ay:0 ≤ ((rd qc 0):Int):=Ja;have yy:(rd qc 0) < (oa.length:Int):=Ja;obtain ⟨Qk,gA,Jz,ZS,Ym,Xm,Wm,Vm,Um,Ws,bt⟩:=Vj (Kd.jE Dh.out HK.out) (rd qc 0) Ay yy;have CZ:=Um;have DZ:=Vm;have EZ:=Wm;have FZ:=Xm;have GZ:=Ym;cases ZS;have Zl:=aa.mk bt;have dA:=aa.mk Ws;clear bt Ws;replace Ay:=eq_true Ay;replace yy:=eq_true yy;refine Yk (n:=9) (S:=fun w'=>w'.cell? ⟨Ka,0,none⟩=some (.slice zb Ma.length yb)∧w'.cell? ⟨Ka,1,none⟩=some (.int .i64 Oa)∧w'.cell? ⟨Ka,2,none⟩=some (.int .i64 Pa)∧w'.cell? ⟨Ka,3,none⟩=some (.int .i64 Na)∧w'.cell? ⟨Ka,4,none⟩=some (.slice (some Qk) oa.length Fb)∧w'.cell? iy=some (.int .i64 (rd qc 0))∧w'.cell? (Qk.add (((rd qc 0)).toNat * 5))=some (.slice gA ((Ea oa (rd qc 0)).f0).length Jz)∧w'.cell? ⟨(Qk.add (((rd qc 0)).toNat * 5)).block,(Qk.add (((rd qc 0)).toNat * 5)).off + 1,none⟩=some (.int .i64 ((Ea oa (rd qc 0)).f1))∧w'.cell? ⟨(Qk.add (((rd qc 0)).toNat * 5)).block,(Qk.add (((rd qc 0)).toNat * 5)).off + 2,none⟩=some (.int .i64 ((Ea oa (rd qc 0)).f2))∧w'.cell? ⟨(Qk.add (((rd qc 0)).toNat * 5)).block,(Qk.add (((rd qc 0)).toNat * 5)).off + 3,none⟩=some (.int .i64 ((Ea oa (rd qc 0)).f3))∧w'.cell? ⟨(Qk.add (((rd qc 0)).toNat * 5)).block,(Qk.add (((rd qc 0)).toNat * 5)).off + 4,none⟩=some (.int .i64 ((Ea oa (rd qc 0)).f4))) (ds:=[]) #[false,false,false,false,false,false,false,false,false] (by kernel_rfl) rfl rfl ⟨(ya qa.out 0).trans rfl,(ya qa.out 1).trans rfl,(ya qa.out 2).trans rfl,(ya qa.out 3).trans rfl,(ya qa.out 4).trans rfl,Es,Ym,Xm,Wm,Vm,Um⟩ (fun hHeld=>?_);refine Ut Ab.j6 Ab.bX (fun Uo tL=>?_);generalize wr.drew=D5 at jc jf qa HK HB Zl Es Ym Xm Wm Vm Um hHeld ⊢;refine od (i:=0) (N:=some 19) (v:=?_) (a':=?_) #[true,false,false,false,false,false,false,false,false] rfl rfl (Ug Uo.out (by kernel_rfl)) (fun _ _ _ h=>h) (Or.inl ⟨by rfl,?_⟩) ?_ ?_;rotate_left
          ·exact eaj
          rotate_left
          ·exact daj
          refine od (i:=2) (N:=some 21) (v:=?_) (a':=?_) #[true,false,true,false,false,false,false,false,false] rfl rfl (Ug Uo.out (by kernel_rfl)) (fun _ _ _ h=>h) (Or.inl ⟨by rfl,?_⟩) ?_ ?_;rotate_left
          ·exact eaj
          rotate_left
          ·exact daj
          refine od (i:=3) (N:=some 22) (v:=?_) (a':=?_) #[true,false,true,true,false,false,false,false,false] rfl rfl (Ug Uo.out (by kernel_rfl)) (fun _ _ _ h=>h) (Or.inl ⟨by rfl,?_⟩) ?_ ?_;rotate_left
          ·exact eaj
          rotate_left
          ·exact daj
          refine Ph (i:=1) (N:=some 20) (v:=?_) (a':=?_) #[true,true,true,true,false,false,false,false,false] rfl rfl (Ik Uo.out tL.out (by kernel_rfl)) (fun _ _ _ h=>h) (Or.inl ⟨by rfl,?_⟩) hHeld ?_ ?_;rotate_left
          ·exact gaj
          rotate_left
          ·exact daj
          refine Ph (i:=4) (N:=some 23) (v:=?_) (a':=?_) #[true,true,true,true,true,false,false,false,false] rfl rfl (Ik Uo.out tL.out (by kernel_rfl)) (fun _ _ _ h=>h) (Or.inl ⟨by rfl,?_⟩) hHeld ?_ ?_;rotate_left
          ·exact gaj
          rotate_left
          ·exact daj
          refine od (i:=5) (N:=some 24) (v:=?_) (a':=?_) #[true,true,true,true,true,true,false,false,false] rfl rfl (Ug Uo.out (by kernel_rfl)) (fun _ _ _ h=>h) (Or.inl ⟨by rfl,?_⟩) ?_ ?_;rotate_left
          ·exact eaj
          rotate_left
          ·exact daj
          refine Ph (i:=6) (N:=some 25) (v:=?_) (a':=?_) #[true,true,true,true,true,true,true,false,false] rfl rfl (Ik Uo.out tL.out (by kernel_rfl)) (fun _ _ _ h=>h) (Or.inl ⟨by rfl,?_⟩) hHeld ?_ ?_;rotate_left
          ·exact gaj
          rotate_left
          ·exact daj
          refine qp (i:=7) (N:=some 26) #[true,true,true,true,true,true,true,true,false] rfl rfl (Ey Uo.out (by kernel_rfl)) (by decide) (fun K hK=>?_);refine qt Try.func85 (by kernel_rfl) rfl #[.agg #[.slice gA ((Ea oa (rd qc 0)).f0).length Jz,.int .i64 ((Ea oa (rd qc 0)).f1),.int .i64 ((Ea oa (rd qc 0)).f2),.int .i64 ((Ea oa (rd qc 0)).f3),.int .i64 ((Ea oa (rd qc 0)).f4)]] (by rfl) rfl rfl paj ?_;with_reducible refine (bf.calls _ _ ((Ea oa (rd qc 0)).f0) ((Ea oa (rd qc 0)).f1) ((Ea oa (rd qc 0)).f2) ((Ea oa (rd qc 0)).f3) ((Ea oa (rd qc 0)).f4) t108 _ ?Oc ?Nc A17.out).mono ?_
          (case Oc=>repeat (first|exact (by repeat (first|(with_reducible exact Zl.out)|(with_reducible refine Kd.Gd ?_ _)|(with_reducible refine Kd.Ed ?_ _)|(with_reducible refine Kd.He ?_)|exact Zl.out))|(with_reducible refine Kd.Gd ?_ _)|(with_reducible refine Kd.Ed ?_ _)|(with_reducible refine Kd.He ?_)))
          (case Nc=>exact dA.out)
          rintro e St ⟨v109,rfl,Rg,hb⟩;have PT:=(hb.cell (World.block_lt_of_cell? _ _ (hHeld.2.2.2.2.2.1))).trans (hHeld.2.2.2.2.2.1);have Y_:=(hb.cell (World.block_lt_of_cell? _ _ (hHeld.2.2.2.2.2.2.1))).trans (hHeld.2.2.2.2.2.2.1);have X_:=(hb.cell (World.block_lt_of_cell? _ _ (hHeld.2.2.2.2.2.2.2.1))).trans (hHeld.2.2.2.2.2.2.2.1);have V_:=(hb.cell (World.block_lt_of_cell? _ _ (hHeld.2.2.2.2.2.2.2.2.1))).trans (hHeld.2.2.2.2.2.2.2.2.1);have U_:=(hb.cell (World.block_lt_of_cell? _ _ (hHeld.2.2.2.2.2.2.2.2.2.1))).trans (hHeld.2.2.2.2.2.2.2.2.2.1);have XX:=(hb.cell (World.block_lt_of_cell? _ _ (hHeld.2.2.2.2.2.2.2.2.2.2))).trans (hHeld.2.2.2.2.2.2.2.2.2.2);refine ⟨_,rfl,?_⟩;have Pb:=aa.mk (Kd.ec Baj hb);have Rb:=aa.mk (Kd.Pt Oaj (Kd.Wf Rg) hb);have Yb:=aa.mk (Kd.Xc (Kd.Bh (Kd.AK (M:=fun k_=>(Uq k_ ∨ w.heap.size ≤ k_)) Rg Vaj (fun k_ h_=>.inr h_)) (Kd.zH Oaj)) (Qa laj));have Vc:=aa.mk (Ta (g:=Ka) (o:=.cells #[.slice zb Ma.length yb,.int .i64 Oa,.int .i64 Pa,.int .i64 Na,.slice (some Qk) oa.length Fb] 45 (0,0)) naj hb);have Df:=aa.mk (Kd.Za (by repeat (first|(with_reducible exact Zl.out)|(with_reducible refine Kd.Gd ?_ _)|(with_reducible refine Kd.Ed ?_ _)|(with_reducible refine Kd.He ?_)|exact Zl.out)) hb);have Qg:=aa.mk (Kept.below (S:=(fun k_=>Uq k_)) Paj hb);have dr:=aa.mk (Ga laj hb);clear jc jf qa Zl HK HB;have jc:=Pb;have jf:=Rb;have bp:=Yb;have qa:=Vc;have Zl:=Df;have HK:=Qg;have HB:=dr;clear Pb Rb Yb Vc Df Qg dr;(try clear hb);(try clear Cl);(try clear hk);(try clear hi);(try clear Rg);refine hK.out _ _ ⟨(ya qa.out 0).trans rfl,(ya qa.out 1).trans rfl,(ya qa.out 2).trans rfl,(ya qa.out 3).trans rfl,(ya qa.out 4).trans rfl,PT,Y_,X_,V_,U_,XX⟩ (fun hHeld=>?_);clear hK K;refine Nf (a':=?_) ?_ ?_;rotate_left
          ·show Act.put _ (some 26) _=_
           exact daj
          refine od (i:=8) (N:=some 9) (v:=?_) (a':=?_) #[true,true,true,true,true,true,true,true,true] rfl rfl (Ug Uo.out (by kernel_rfl)) (fun _ _ _ h=>h) (Or.inl ⟨by rfl,?_⟩) ?_ ?_;rotate_left
          ·exact eaj
          rotate_left
          ·exact daj
          refine Yo (Cz Uo.out (by kernel_rfl)) ?_;have KL:(1:Int) ≤ ((qc.length:Int):Int):=Ja;obtain ⟨P6,iB,_,UE,_⟩:=info_parts info3;have oD:=Wn (P:=Try.prog) 22 3 .i64 Try.underlying22 iB 1 UE (some iy) qc.length dK 1 (by omega) KL;have qx:=Kd.Tw (k:=(1:Int).toNat) jf.out (by omega);obtain ⟨vQ,aN⟩:∃ A1,A1=(if dK=(1:Int).toNat then (some iy) else ((some iy):Option Addr).map (·.add ((1:Int).toNat * 1))):=⟨_,rfl⟩;obtain ⟨oA,zS⟩:∃ c1,c1=dK - (1:Int).toNat:=⟨_,rfl⟩;have aH:FC.length=qc.length - (1:Int).toNat:=(by rw [GP.out,List.length_drop]);rw [← GP.out] at qx;rw [← aH,← aN,← zS] at oD;replace qx:Kd.Q (Kd.int .i64) 3 St w0.heap.size (fun k_=>(Uq k_ ∨ w.heap.size ≤ k_)∧some k_ ≠ (v109:Value).ownBlock) (.slice vQ FC.length oA) FC:=(by rw [aN,zS,aH];exact qx);have kaa:aa ((Value.slice vQ FC.length oA).ownBlock=(.slice (some iy) qc.length dK:Value).ownBlock):=⟨by rw [aN];split <;> (cases ((some iy):Option Addr) <;> rfl)⟩;clear aH iB UE jf aN zS;have sY:=aa.mk qx;clear qx;replace KL:=eq_true KL;have n_:=aa.mk (Kd.Eb (cl:=fun k_=>((((Uq k_ ∨ w.heap.size ≤ k_))∧True)∧some k_ ≠ (.slice vQ FC.length oA:Value).ownBlock)) bp.out (fun k_ hk=>⟨⟨hk.1.1,trivial⟩,(by rw [kaa.out];exact hk.2)⟩));clear bp;have bp:=n_;clear n_
          try go_wp2
          go_loopg [8,10] k1 (fun kq v8 v10 w'=>∃ (jj:List Bool) (me:List Int) (Yd:Int),v10 = .int .i64 Yd∧aa (Ab.l1 kq a2 jj me t108 Yd Ma Oa Pa Na oa=some r)∧aa (kq ≤ k1)∧aa (Kd.R Kd.bool 4 w' w0.heap.size (fun k_=>(Uq k_ ∨ w.heap.size ≤ k_)) (.slice (some ⟨sD,0,none⟩) uc.length bT) jj)∧aa (Kd.Q (Kd.int .i64) 3 w' w0.heap.size (fun k_=>(Uq k_ ∨ w.heap.size ≤ k_)∧some k_ ≠ (v109:Value).ownBlock) v8 me)∧aa (Kd.R (Kd.int .i64) 3 w' w0.heap.size (fun k_=>(Uq k_ ∨ w.heap.size ≤ k_)∧some k_ ≠ (v8:Value).ownBlock) v109 t108)∧aa (w'.heap[Ka]? = some (.cells #[(.slice zb Ma.length yb),.int .i64 Oa,.int .i64 Pa,.int .i64 Na,(.slice (some Qk) oa.length Fb)] 45 (0,0)))∧aa (Kept w w' (fun k_=>Uq k_))∧aa (Below w0.heap.size w0 w'))
          case atStart=>exact ⟨(uc),(FC),(0),raj,H',⟨Nat.le_refl _⟩,⟨by (try simp only [Rh]);(with_reducible repeat (first|apply Kd.Ia|apply Kd.La|apply Kd.Ra));exact jc.out⟩,⟨by (try simp only [Rh]);(with_reducible repeat (first|apply Kd.ye|apply Kd.xe|apply Kd.Ze));exact sY.out⟩,⟨by (try simp only [Rh]);(with_reducible repeat (first|apply Kd.Ia|apply Kd.La|apply Kd.Ra));exact Kd.Eb bp.out (fun _ hk=>⟨hk.1.1,hk.2⟩)⟩,⟨by (try simp only [Rh]);(with_reducible repeat (first|refine Ca ?_ _|refine Fa ?_|refine Ba ?_ _));exact qa.out⟩,⟨Iaj⟩,⟨oaj⟩⟩
          case round =>
           clear H'
           try clear c1
           try clear p1
           try clear q1
           try clear hx1
           try clear o6
           try clear c2
           try clear p2
           try clear q2
           try clear c5
           try clear Rq
           try clear c6
           try clear Gt
           try clear p7
           try clear q7
           try clear hx7
           try clear hf7
           try clear c8
           try clear mK
           try clear mA
           try clear kA
           try clear dM
           try clear iaf
           try clear Cx
           try clear Zx
           try clear yP
           try clear rA
           try clear Yx
           try clear RW
           try clear Zw
           try clear xP
           try clear Iz
           try clear XB
           try clear Xx
           try clear Wx
           try clear WB
           try clear oA
           try clear KL
           try clear Es
           try clear Ym
           try clear Xm
           try clear Wm
           try clear Vm
           try clear Um
           try clear GI
           try clear RL
           try clear Ay
           try clear p2
           try clear p7
           try clear NL
           try clear yy
           try clear KL
           try clear q7
           (try clear HA);(try clear aj);(try clear jc);(try clear jf);(try clear Eg);(try clear qa);(try clear HK);(try clear HB);obtain ⟨jj,me,Yd,rfl,HA,aj,jc,jf,Eg,qa,HK,HB⟩:=hrel;have ai:=(Kd.Ua jc.out).1;rw [ai] at jc;(try simp only [ai]);(try simp only [ai] at qa);(try simp only [ai] at jf);(try simp only [ai] at Eg);cases gk with
           | zero=>exact absurd HA.out (by simp [Ab.l1])
           | succ k2 =>
            have H:=HA.out;clear HA;simp only [Ab.l1] at H
            by_cases Qn:Yd < (t108.length:Int)
            ·rw [if_pos Qn] at H;have bq:decide (Yd < (t108.length:Int))=true:=decide_eq_true Qn;clear Qn
             by_cases TB:0 ≤ Yd
             ·rw [if_pos TB] at H;have SF:decide (0 ≤ Yd)=true:=decide_eq_true TB;clear TB
              by_cases SB:(rd t108 Yd)=a2
              ·rw [if_pos SB] at H;have tP:=beq_iff_eq.mpr SB;have QW:=bne_eq_false_iff_eq.mpr SB;clear SB;have H':=aa.mk H;clear H;obtain ⟨qO,lN,VS⟩:=Kd.Vb Eg.out;subst VS;have Fp:0 ≤ (Yd:Int):=Ja;have Dp:Yd < (t108.length:Int):=Ja;obtain ⟨Mi,ED,Jl⟩:=Kd.Ld (Kd.Ua Eg.out).2.2 Yd Fp Dp;cases ED;replace Fp:=eq_true Fp;replace Dp:=eq_true Dp;go_wp2;(try simp only [← ai])
               go_roundg k2
               case measure=>have:=Kf.out;have:=aj.out;omega
               case rel=>exact ⟨(jj),(me),(wrap64 (Yd + 1)),raj,H',⟨by have:=Kf.out;have:=aj.out;omega⟩,⟨by (try simp only [Rh]);(try simp only [ai]);(with_reducible repeat (first|apply Kd.Ia|apply Kd.La|apply Kd.Ra));exact jc.out⟩,⟨by (try simp only [Rh]);(try simp only [ai]);(with_reducible repeat (first|apply Kd.ye|apply Kd.xe|apply Kd.Ze));exact jf.out⟩,⟨by (try simp only [Rh]);(try simp only [ai]);(with_reducible repeat (first|apply Kd.Ia|apply Kd.La|apply Kd.Ra));exact Eg.out⟩,⟨by (try simp only [Rh]);(try simp only [ai]);(with_reducible repeat (first|refine Ca ?_ _|refine Fa ?_|refine Ba ?_ _));exact qa.out⟩,⟨Iaj⟩,⟨oaj⟩⟩
              ·rw [if_neg SB] at H;have tP:=beq_eq_false_iff_ne.mpr SB;have QW:=bne_iff_ne.mpr SB
               by_cases LH:0 ≤ (rd t108 Yd)
               ·rw [if_pos LH] at H;have Bad:decide (0 ≤ (rd t108 Yd))=true:=decide_eq_true LH;clear LH
                by_cases zu:(rd t108 Yd) < (jj.length:Int)
                ·rw [if_pos zu] at H;have aq:decide ((rd t108 Yd) < (jj.length:Int))=true:=decide_eq_true zu;clear zu;obtain ⟨YW,JJ⟩:∃ b_:Bool,b_=(xg false jj (rd t108 Yd)):=⟨_,rfl⟩;replace H:(if (YW=true) then (Ab.l1 k2 a2 jj me t108 (wrap64 (Yd + 1)) Ma Oa Pa Na oa) else (if me.length < 17592186044416 then (Ab.l1 k2 a2 (jj.set ((rd t108 Yd):Int).toNat true) (me ++ [rd t108 Yd]) t108 (wrap64 (Yd + 1)) Ma Oa Pa Na oa) else (none)))=some r:=by rw [← JJ] at H;exact H
                 have IP:=aa.mk JJ;clear JJ
                 by_cases rL:(YW=true)
                 ·subst rL;rw [if_pos rfl] at H;have H':=aa.mk H;clear H;obtain ⟨DH,mH,TS⟩:=Kd.Vb Eg.out;subst TS;have Fp:0 ≤ (Yd:Int):=Ja;have Dp:Yd < (t108.length:Int):=Ja;obtain ⟨Mi,ED,Jl⟩:=Kd.Ld (Kd.Ua Eg.out).2.2 Yd Fp Dp;cases ED;replace Fp:=eq_true Fp;replace Dp:=eq_true Dp;have Cr:0 ≤ (Yd:Int):=Ja;have ur:Yd < (t108.length:Int):=Ja;obtain ⟨cC,DD,yq⟩:=Kd.Ld (Kd.Ua Eg.out).2.2 Yd Cr ur;obtain rfl:Mi=cC:=(by injection DD);replace Cr:=eq_true Cr;replace ur:=eq_true ur;have XC:0 ≤ ((rd t108 Yd):Int):=Ja;have UC:(rd t108 Yd) < (jj.length:Int):=Ja;obtain ⟨qK,YS,Il⟩:=Kd.Uj (Kd.Ua jc.out).2.2 (rd t108 Yd) XC UC;(try rw [← IP.out] at Il);obtain rfl:(⟨sD,0,none⟩:Addr)=qK:=(by injection YS);(first|simp only [add_plain] at Il|simp only [Qo] at Il|simp only [Addr.add,Nat.zero_add] at Il|skip);replace XC:=eq_true XC;replace UC:=eq_true UC;go_wp2;(try simp only [← ai])
                  go_roundg k2
                  case measure=>have:=Kf.out;have:=aj.out;omega
                  case rel=>exact ⟨(jj),(me),(wrap64 (Yd + 1)),raj,H',⟨by have:=Kf.out;have:=aj.out;omega⟩,⟨by (try simp only [Rh]);(try simp only [ai]);(with_reducible repeat (first|apply Kd.Ia|apply Kd.La|apply Kd.Ra));exact jc.out⟩,⟨by (try simp only [Rh]);(try simp only [ai]);(with_reducible repeat (first|apply Kd.ye|apply Kd.xe|apply Kd.Ze));exact jf.out⟩,⟨by (try simp only [Rh]);(try simp only [ai]);(with_reducible repeat (first|apply Kd.Ia|apply Kd.La|apply Kd.Ra));exact Eg.out⟩,⟨by (try simp only [Rh]);(try simp only [ai]);(with_reducible repeat (first|refine Ca ?_ _|refine Fa ?_|refine Ba ?_ _));exact qa.out⟩,⟨Iaj⟩,⟨oaj⟩⟩
                 ·replace rL:=Bool.eq_false_iff.mpr rL;subst rL;rw [if_neg (show ¬ (false=true) by decide)] at H;obtain ⟨Qr,Np⟩:∃ y_:List Bool,y_=(jj.set ((rd t108 Yd):Int).toNat true):=⟨_,rfl⟩;replace H:(if me.length < 17592186044416 then (Ab.l1 k2 a2 Qr (me ++ [rd t108 Yd]) t108 (wrap64 (Yd + 1)) Ma Oa Pa Na oa) else (none))=some r:=by first|(rw [Np];with_reducible exact H)|(have Qc:=(Option.bind_some _ _).symm.trans H;rw [Np];with_reducible exact Qc)|(have Qc:=(Option.bind_some _ _).symm.trans H;with_reducible exact Qc)|with_reducible exact H|(rw [Np];exact H)|exact H
                  have cG:=aa.mk Np;clear Np
                  by_cases iK:me.length < 17592186044416
                  ·rw [if_pos iK] at H;have DX:=aa.mk iK;clear iK;obtain ⟨VU,ZA⟩:∃ y_:List Int,y_=(me ++ [rd t108 Yd]):=⟨_,rfl⟩;replace H:(Ab.l1 k2 a2 Qr VU t108 (wrap64 (Yd + 1)) Ma Oa Pa Na oa)=some r:=by first|(rw [ZA];with_reducible exact H)|(have Qc:=(Option.bind_some _ _).symm.trans H;rw [ZA];with_reducible exact Qc)|(have Qc:=(Option.bind_some _ _).symm.trans H;with_reducible exact Qc)|with_reducible exact H|(rw [ZA];exact H)|exact H
                   have wX:=aa.mk ZA;clear ZA;have H':=aa.mk H;clear H;obtain ⟨pO,bK,SS⟩:=Kd.Vb Eg.out;subst SS;have Fp:0 ≤ (Yd:Int):=Ja;have Dp:Yd < (t108.length:Int):=Ja;obtain ⟨Mi,ED,Jl⟩:=Kd.Ld (Kd.Ua Eg.out).2.2 Yd Fp Dp;cases ED;replace Fp:=eq_true Fp;replace Dp:=eq_true Dp;have Cr:0 ≤ (Yd:Int):=Ja;have ur:Yd < (t108.length:Int):=Ja;obtain ⟨cC,DD,yq⟩:=Kd.Ld (Kd.Ua Eg.out).2.2 Yd Cr ur;obtain rfl:Mi=cC:=(by injection DD);replace Cr:=eq_true Cr;replace ur:=eq_true ur;have XC:0 ≤ ((rd t108 Yd):Int):=Ja;have UC:(rd t108 Yd) < (jj.length:Int):=Ja;obtain ⟨qK,YS,Il⟩:=Kd.Uj (Kd.Ua jc.out).2.2 (rd t108 Yd) XC UC;(try rw [← IP.out] at Il);obtain rfl:(⟨sD,0,none⟩:Addr)=qK:=(by injection YS);(first|simp only [add_plain] at Il|simp only [Qo] at Il|simp only [Addr.add,Nat.zero_add] at Il|skip);replace XC:=eq_true XC;replace UC:=eq_true UC;have OQ:0 ≤ (Yd:Int):=Ja;have NQ:Yd < (t108.length:Int):=Ja;obtain ⟨gX,v_,BZ⟩:=Kd.Ld (Kd.Ua Eg.out).2.2 Yd OQ NQ;obtain rfl:Mi=gX:=(by injection v_);replace OQ:=eq_true OQ;replace NQ:=eq_true NQ;have K6:0 ≤ ((rd t108 Yd):Int):=Ja;have E6:((rd t108 Yd):Int) < ((jj.length:Int):Int):=Ja;obtain ⟨V6,E8⟩:=Kd.Dg false jc.out ((rd t108 Yd):Int) K6 E6;replace K6:=eq_true K6;replace E6:=eq_true E6;have ZT:=Kd.vk jc.out ((rd t108 Yd):Int) true;go_wp2_with (first|((with_reducible refine Ce (t:=4) (p:=56) rfl ?_);refine Sd (t:=4) (p:=56) (v:=?K5) (w1:=(wr.setCell ⟨sD,((rd t108 Yd):Int).toNat,none⟩ (.bool true))) ?hg ?ho ?hn ?hr ?_;(case ho=>rfl);(case hg=>rfl);(case hn=>rfl);(case hr=>exact jaj);intro zL hw;have hg:wr.grownBy zL (some sD):=(by rw [hw];exact ZT.2);have Gj:Kd.R Kd.bool 4 zL w0.heap.size (fun k_=>(Uq k_ ∨ w.heap.size ≤ k_)) (.slice (some ⟨sD,0,none⟩) jj.length bT) Qr:=(by rw [hw,cG.out];exact ZT.1);clear ZT;have Pb:=aa.mk (Gj);have Rb:=aa.mk (Kd.CN (v:=(.slice (some ⟨sD,0,none⟩) jj.length bT)) Oaj (Kd.Dk jc.out) (by decide) hg);have Yb:=aa.mk (Kd.Ek (v:=(.slice (some ⟨sD,0,none⟩) jj.length bT)) Maj (Kd.Dk jc.out) (by decide) hg);have Vc:=aa.mk (uf (g:=Ka) (o:=.cells #[.slice zb Ma.length yb,.int .i64 Oa,.int .i64 Pa,.int .i64 Na,.slice (some Qk) oa.length Fb] 45 (0,0)) naj hg (Kd.xp jc.out qa.out (by decide)));have Df:=aa.mk ((by rw [hw];exact ta (HB.out) GB7.out:Below w0.heap.size w0 zL));have Qg:=aa.mk (Kept.Af (S:=(fun k_=>Uq k_)) hg Paj (fun k_ e_=>(jc.out.1 k_ e_)));clear jc jf Eg qa HB HK;have jc:=Pb;have jf:=Rb;have Eg:=Yb;have qa:=Vc;have HB:=Df;have HK:=Qg;clear Pb Rb Yb Vc Df Qg hg hw Gj;have gw:0 ≤ (Yd:Int):=Ja;have cw:Yd < (t108.length:Int):=Ja;obtain ⟨Zo,XJ,xq⟩:=Kd.Ld (Kd.Ua Eg.out).2.2 Yd gw cw;obtain rfl:Mi=Zo:=(by injection XJ);replace gw:=eq_true gw;replace cw:=eq_true cw)|((with_reducible refine Bg (b:=.append) (xs:=#[.tmp 57,.tmp 62]) rfl ?_);at_builtin;refine Kd.Qt (Kd.int .i64) (w0:=w0) w0.heap.size rfl (.tmp 57) (.tmp 62) 22 3 (.int .i64 0) 8 rfl Try.underlying22 info3 rfl (by decide) (by omega) u8 me (rd t108 Yd) [.int .i64 (rd t108 Yd)] (fun k_=>(Uq k_ ∨ w.heap.size ≤ k_)∧some k_ ≠ (.slice (some Mi) t108.length bK:Value).ownBlock) (fun _=>False) rfl rfl ?aP (fun _ hk=>hk.elim) ?aF ?aO ?aB ?aS ?aL ?_;(case aP=>exact rfl);(case aB=>exact laj);(case aF=>exact (fun k_ hk=>⟨(.inr (Nat.le_trans Vaj hk)),Kd.fresh' (Kd.Yi Maj) k_ hk⟩));(case aO=>exact Oaj);(case aS=>exact (Qa laj));(case aL=>have:=DX.out;omega);intro eaf ZU ho hb hg hat;rw [← wX.out] at ho;have Pb:=aa.mk (Kd.Ek Baj (Kd.BN Oaj) (by decide) hg);have Rb:=aa.mk (Kd.qg (ok:=(fun k_=>(Uq k_ ∨ w.heap.size ≤ k_))) Maj hg hat);have Yb:=aa.mk (uf (g:=Ka) (o:=.cells #[.slice zb Ma.length yb,.int .i64 Oa,.int .i64 Pa,.int .i64 Na,.slice (some Qk) oa.length Fb] 45 (0,0)) naj hg (Kd.DN jf.out qa.out (by decide)));have Vc:=aa.mk (hb);have Df:=aa.mk (Kept.Af (S:=(fun k_=>Uq k_)) hg Paj (fun k_ e_=>(jf.out.1 k_ e_).1));have Qg:=aa.mk (ho);clear jc Eg qa HB HK jf;have jc:=Pb;have Eg:=Rb;have qa:=Yb;have HB:=Vc;have HK:=Df;have pY:=Qg;clear Pb Rb Yb Vc Df Qg ho hb hg hat));(try simp only [← ai])
                   go_roundg k2
                   case measure=>have:=Kf.out;have:=aj.out;omega
                   case rel=>exact ⟨(Qr),(VU),(wrap64 (Yd + 1)),raj,H',⟨by have:=Kf.out;have:=aj.out;omega⟩,⟨by (try simp only [Rh]);(try simp only [ai]);(with_reducible repeat (first|apply Kd.Ia|apply Kd.La|apply Kd.Ra));exact jc.out⟩,⟨by (try simp only [Rh]);(try simp only [ai]);(with_reducible repeat (first|apply Kd.ye|apply Kd.xe|apply Kd.Ze));exact pY.out⟩,⟨by (try simp only [Rh]);(try simp only [ai]);(with_reducible repeat (first|apply Kd.Ia|apply Kd.La|apply Kd.Ra));exact Eg.out⟩,⟨by (try simp only [Rh]);(try simp only [ai]);(with_reducible repeat (first|refine Ca ?_ _|refine Fa ?_|refine Ba ?_ _));exact qa.out⟩,⟨Iaj⟩,⟨oaj⟩⟩
                  ·rw [if_neg iK] at H;exact absurd H (by simp)
                ·rw [if_neg zu] at H;exact absurd H (by simp)
               ·rw [if_neg LH] at H;exact absurd H (by simp)
             ·rw [if_neg TB] at H;exact absurd H (by simp)
            ·rw [if_neg Qn] at H;have bq:decide (Yd < (t108.length:Int))=false:=decide_eq_false Qn;clear Qn;have H':=aa.mk H;clear H;obtain ⟨vC,QB,RS⟩:=Kd.Vb Eg.out;subst RS;go_wp2;(try simp only [← Rh,← ai])
             go_roundg k2
             case measure=>have:=Kf.out;have:=aj.out;omega
             case rel=>exact ⟨(jj),(me),H',⟨by have:=Kf.out;have:=aj.out;omega⟩,⟨by (try simp only [Rh]);(try simp only [ai]);(with_reducible repeat (first|apply Kd.Ia|apply Kd.La|apply Kd.Ra));exact jc.out⟩,⟨by (try simp only [Rh]);(try simp only [ai]);(with_reducible repeat (first|apply Kd.ye|apply Kd.xe|apply Kd.Ze));exact Kd.Vg jf.out (fun _ hk=>hk.1)⟩,⟨by (try simp only [Rh]);(try simp only [ai]);(with_reducible repeat (first|refine Ca ?_ _|refine Fa ?_|refine Ba ?_ _));exact qa.out⟩,⟨Iaj⟩,⟨oaj⟩⟩
         ·rw [if_neg Xx] at H;exact absurd H (by simp)
        ·rw [if_neg Iz] at H;exact absurd H (by simp)
       ·rw [if_neg Zw] at H;exact absurd H (by simp)
      ·rw [if_neg rA] at H;exact absurd H (by simp)
     ·rw [if_neg Cx] at H;have Zx:decide (0 < (qc.length:Int))=false:=decide_eq_false Cx;have yP:decide (0 < qc.length)=false:=decide_eq_false (by omega);clear Cx;obtain rfl:=Option.some.inj H;obtain ⟨Aaa,D_,QS,_⟩:=Kd.Fk jf.out;subst QS;go_wp2
      first|go_end0|((try simp only [Exit.inBlock,Exit.then]);refine bodyPost_ret (results_none rfl _ _ _) rfl ?_)
      exact ⟨taj,(by first|exact Baj|(simp only [Rh];exact Baj)),oaj,Iaj⟩
  ·rw [if_neg c6] at H;exact absurd H (by simp)
 ·rw [if_neg c5] at H;exact absurd H (by simp)
def Sc.l0:Nat→Int→List Int→Int→Option (List Int)
 | 0,_,_,_=>none
 | k + 1,x0,x3,x4=>if x4 < x0 then (if x3.length < 17592186044416 then (Sc.l0 k x0 (x3 ++ [0]) (wrap64 (x4 + 1))) else (none)) else (some x3)
def Sc.f (k:Nat) (a0:Int):Option (List Int):=Sc.l0 k a0 (([]:List Int)) 0
theorem Sc.calls (k:Nat) (a0:Int) (r:List Int) (w:World) (h:Sc.f k a0=some r) :
  Calls Try.prog 90 #[.int .i64 a0] w fun e w'=>∃ Di:Value,e = .returned (Di)∧Kd.R (Kd.int .i64) 3 w' w.heap.size (fun _=>True) Di r∧Below w.heap.size w w':=by
 have HB:=aa.mk (Below.refl w.heap.size w);have H:(Sc.l0 k a0 (([]:List Int)) 0)=some r:=h;clear h;obtain ⟨Re,Ye⟩:∃ y_:List Int,y_=(([]:List Int)):=⟨_,rfl⟩;replace H:(Sc.l0 k a0 Re 0)=some r:=by first|(rw [Ye];with_reducible exact H)|(have Qc:=(Option.bind_some _ _).symm.trans H;rw [Ye];with_reducible exact Qc)|(have Qc:=(Option.bind_some _ _).symm.trans H;with_reducible exact Qc)|with_reducible exact H|(rw [Ye];exact H)|exact H
 have Zi:=aa.mk Ye;clear Ye;have H':=aa.mk H;clear H;go_enter Try.func90,Try.ntmps90;go_wp2_with (first|((with_reducible refine Qb (N:=5) rfl ?_);refine Kd.Yj (Kd.int .i64) _ 3 ?hg (N:=5) ?hd (xs:=([]:List Int)) (inner:=[]) (ok:=fun _=>True) (Yg:=fun _=>True) ?hr ?hp (fun _ hk=>hk) trivial (Below.refl _ _) (Nat.le_refl _) (by simp) ?_;(case hd|hg=>rfl);(case hr=>exact jaj);(case hp=>exact (Pc.none _ _));intro yA w2 bH hb Ll Pe;clear Ll Pe;(first|rw [← Zi.out] at bH|(simp only [Int.reduceToNat] at bH;rw [← Zi.out] at bH));have Pb:=aa.mk (Kd.Xc bH (Qa maj));have Rb:=aa.mk (Ga maj hb);clear HB;have uo:=Pb;have HB:=Rb;clear Pb Rb hb bH))
 go_loopg [3,4] k (fun kq v3 v4 w'=>∃ (uc:List Int) (Ib:Int),v4 = .int .i64 Ib∧aa (Sc.l0 kq a0 uc Ib=some r)∧aa (kq ≤ k)∧aa (Kd.R (Kd.int .i64) 3 w' w.heap.size (fun _=>True) v3 uc)∧aa (Below w.heap.size w w'))
 case atStart=>exact ⟨(Re),(0),raj,H',⟨Nat.le_refl _⟩,⟨by (with_reducible repeat (first|apply Kd.Ia|apply Kd.La|apply Kd.Ra));exact uo.out⟩,⟨qaj⟩⟩
 case round =>
  clear H'
  try clear p2
  (try clear HA);(try clear Kf);(try clear jc);(try clear HB);obtain ⟨uc,Ib,rfl,HA,Kf,jc,HB⟩:=hrel;cases gk with
  | zero=>exact absurd HA.out (by simp [Sc.l0])
  | succ k1 =>
   have H:=HA.out;clear HA;simp only [Sc.l0] at H
   by_cases c4:Ib < a0
   ·rw [if_pos c4] at H;have zm:decide (Ib < a0)=true:=decide_eq_true c4;clear c4
    by_cases c5:uc.length < 17592186044416
    ·rw [if_pos c5] at H;have M_:=aa.mk c5;clear c5;obtain ⟨Qe,Pk⟩:∃ y_:List Int,y_=(uc ++ [0]):=⟨_,rfl⟩;replace H:(Sc.l0 k1 a0 Qe (wrap64 (Ib + 1)))=some r:=by first|(rw [Pk];with_reducible exact H)|(have Qc:=(Option.bind_some _ _).symm.trans H;rw [Pk];with_reducible exact Qc)|(have Qc:=(Option.bind_some _ _).symm.trans H;with_reducible exact Qc)|with_reducible exact H|(rw [Pk];exact H)|exact H
     have nC:=aa.mk Pk;clear Pk;have H':=aa.mk H;clear H;go_wp2_with (first|((with_reducible refine Bg (b:=.append) (xs:=#[.tmp 11,.tmp 12]) rfl ?_);at_builtin;refine Kd.Fm (Kd.int .i64) (w0:=w) w.heap.size rfl (.tmp 11) (.tmp 12) 22 3 (.int .i64 0) 8 rfl Try.underlying22 info3 rfl (by decide) (by omega) u3 uc 0 [.int .i64 0] (fun _=>True) (fun _=>False) rfl rfl ?aP (fun _ hk=>hk.elim) ?aF ?aO ?aB ?aS ?aL ?_;(case aP=>exact rfl);(case aB=>exact maj);(case aF=>exact (fun _ _=>trivial));(case aO=>exact Baj);(case aS=>exact (Qa maj));(case aL=>have:=M_.out;omega);intro v105 w6 ho hb hg hat;rw [← nC.out] at ho;have Pb:=aa.mk (hb);have Rb:=aa.mk (ho);clear HB jc;have HB:=Pb;have jr:=Rb;clear Pb Rb ho hb hg hat))
     go_roundg k1
     case measure=>have:=Kf.out;omega
     case rel=>exact ⟨(Qe),(wrap64 (Ib + 1)),raj,H',⟨by have:=Kf.out;omega⟩,⟨by (with_reducible repeat (first|apply Kd.Ia|apply Kd.La|apply Kd.Ra));exact jr.out⟩,⟨qaj⟩⟩
    ·rw [if_neg c5] at H;exact absurd H (by simp)
   ·rw [if_neg c4] at H;have zm:decide (Ib < a0)=false:=decide_eq_false c4;clear c4;obtain rfl:=Option.some.inj H;go_wp2;go_ret;exact ⟨_,taj,Uaj,qaj⟩
mutual
noncomputable def Cb.l0:Nat→List Int→List Int→List Int→List Int→Int→Int→Int→List (Wd)→Option (List Int)
 | 0,_,_,_,_,_,_,_,_=>none
 | k + 1,x3,x4,x5,Fc,Ec,Dc,Cc,Lb=>if (x5.length:Int) > 0 then (if 0 < (x5.length:Int) then (if 0 ≤ (rd x5 0) then (if (rd x5 0) < (Lb.length:Int) then ((bf.f ((Ea Lb (rd x5 0)).f0) ((Ea Lb (rd x5 0)).f1) ((Ea Lb (rd x5 0)).f2) ((Ea Lb (rd x5 0)).f3) ((Ea Lb (rd x5 0)).f4)).bind fun t115=>(if 1 ≤ (x5.length:Int) then (Cb.l1 k x3 x4 (x5.drop (1:Int).toNat) t115 0 Fc Ec Dc Cc Lb) else (none))) else (none)) else (none)) else (none)) else (Cb.l2 k x3 x4 0)
noncomputable def Cb.l1:Nat→List Int→List Int→List Int→List Int→Int→List Int→Int→Int→Int→List (Wd)→Option (List Int)
 | 0,_,_,_,_,_,_,_,_,_,_=>none
 | k + 1,x3,x4,x5,x6,x7,Fc,Ec,Dc,Cc,Lb=>if x7 < (x6.length:Int) then (if 0 ≤ x7 then (if 0 ≤ (rd x6 x7) then (if (rd x6 x7) < (x4.length:Int) then (if (rd x4 (rd x6 x7))=0 then (if x5.length < 17592186044416 then (Cb.l1 k x3 (x4.set ((rd x6 x7):Int).toNat 1) (x5 ++ [rd x6 x7]) x6 (wrap64 (x7 + 1)) Fc Ec Dc Cc Lb) else (none)) else (Cb.l1 k x3 x4 x5 x6 (wrap64 (x7 + 1)) Fc Ec Dc Cc Lb)) else (none)) else (none)) else (none)) else (Cb.l0 k x3 x4 x5 Fc Ec Dc Cc Lb)
noncomputable def Cb.l2:Nat→List Int→List Int→Int→Option (List Int)
 | 0,_,_,_=>none
 | k + 1,x3,x4,x8=>if x8 < (x4.length:Int) then (if 0 ≤ x8 then (if (rd x4 x8)=1 then (if x3.length < 17592186044416 then (Cb.l2 k (x3 ++ [x8]) x4 (wrap64 (x8 + 1))) else (none)) else (Cb.l2 k x3 x4 (wrap64 (x8 + 1)))) else (none)) else (some x3)
end
noncomputable def Cb.f (k:Nat) (Ma:List Int) (Oa:Int) (Pa:Int) (Na:Int) (oa:List (Wd)):Option (List Int):=(some (([]:List Int):List Int)).bind fun yd=>((Qd.f k Ma Oa Pa Na oa).bind fun t105=>(if t105=true then ((Sc.f k (oa.length:Int)).bind fun t106=>(if 0 < (t106.length:Int) then (Cb.l0 k yd (t106.set (0:Int).toNat 1) (([0]:List Int)) Ma Oa Pa Na oa) else (none))) else (some yd)))
def Cb.T8:Bool × List (List Nat × List Nat):=(true,[([],[]),([0],[0]),([],[]),([2],[2]),([3],[3]),([1,4],[1,4]),([5],[5]),([6],[6]),([7,7,0,1,2,3,4,5,6,7],[7])])
def Cb.B8:List Nat:=[0,1,0,4,12,31,63,127,255]
theorem Cb.Z5:qm .any (opsOf Try.f68 8)=Cb.T8:=by kernel_rfl
theorem Cb.aX:xo Cb.T8.2 Cb.B8=true:=by kernel_rfl
theorem Cb.calls (k:Nat) (zb:Option Addr) (yb:Nat) (Ma:List Int) (Oa:Int) (Pa:Int) (Na:Int) (Ob:Option Addr) (Fb:Nat) (oa:List (Wd)) (r:List Int) (w:World) (qd:Kd.C (Kd.int .i64) w zb Ma.length Ma) (Ad:Ma.length ≤ yb) (fe:Kd.C Km w Ob oa.length oa) (Fe:oa.length ≤ Fb) (h:Cb.f k Ma Oa Pa Na oa=some r) :
  Calls Try.prog 68 #[.agg #[.slice zb Ma.length yb,.int .i64 Oa,.int .i64 Pa,.int .i64 Na,.slice Ob oa.length Fb]] w fun e w'=>∃ Di:Value,e = .returned (Di)∧Kd.R (Kd.int .i64) 3 w' w.heap.size (fun _=>True) Di r∧Below w.heap.size w w':=by
 have gD:=Try.underlying45;have Sy:=Try.underlying83;have Ng:=aa.mk qd;have Pg:=aa.mk Ad;clear qd Ad;have Dh:=aa.mk fe;have bk:=aa.mk Fe;clear fe Fe;have HB:=aa.mk (Below.refl w.heap.size w);have H:((some (([]:List Int):List Int)).bind fun yd=>((Qd.f k Ma Oa Pa Na oa).bind fun t105=>(if t105=true then ((Sc.f k (oa.length:Int)).bind fun t106=>(if 0 < (t106.length:Int) then (Cb.l0 k yd (t106.set (0:Int).toNat 1) (([0]:List Int)) Ma Oa Pa Na oa) else (none))) else (some yd))))=some r:=h;clear h;obtain ⟨yd,Ee⟩:∃ y_:List Int,y_=(([]:List Int)):=⟨_,rfl⟩;replace H:((Qd.f k Ma Oa Pa Na oa).bind fun t105=>(if t105=true then ((Sc.f k (oa.length:Int)).bind fun t106=>(if 0 < (t106.length:Int) then (Cb.l0 k yd (t106.set (0:Int).toNat 1) (([0]:List Int)) Ma Oa Pa Na oa) else (none))) else (some yd)))=some r:=by first|(rw [Ee];with_reducible exact H)|(have Qc:=(Option.bind_some _ _).symm.trans H;rw [Ee];with_reducible exact Qc)|(have Qc:=(Option.bind_some _ _).symm.trans H;with_reducible exact Qc)|with_reducible exact H|(rw [Ee];exact H)|exact H
 have Ch:=aa.mk Ee;clear Ee;replace H:=Option.bind_eq_some_iff.mp H;obtain ⟨t105,gL,H⟩:=H
 try dsimp only at H
 have A2:=aa.mk gL;clear gL
 by_cases c3:t105=true
 ·subst c3;rw [if_pos rfl] at H;replace H:=Option.bind_eq_some_iff.mp H;obtain ⟨t106,uQ,H⟩:=H
  try dsimp only at H
  have A4:=aa.mk uQ;clear uQ
  by_cases c5:0 < (t106.length:Int)
  ·rw [if_pos c5] at H;have Rq:decide (0 < (t106.length:Int))=true:=decide_eq_true c5;have LD:decide (0 < t106.length)=true:=decide_eq_true (by omega);clear c5;obtain ⟨tA,Sp⟩:∃ y_:List Int,y_=(t106.set (0:Int).toNat 1):=⟨_,rfl⟩;replace H:(Cb.l0 k yd tA (([0]:List Int)) Ma Oa Pa Na oa)=some r:=by first|(rw [Sp];with_reducible exact H)|(have Qc:=(Option.bind_some _ _).symm.trans H;rw [Sp];with_reducible exact Qc)|(have Qc:=(Option.bind_some _ _).symm.trans H;with_reducible exact Qc)|with_reducible exact H|(rw [Sp];exact H)|exact H
   have EK:=aa.mk Sp;clear Sp;obtain ⟨RH,Rp⟩:∃ y_:List Int,y_=(([0]:List Int)):=⟨_,rfl⟩;replace H:(Cb.l0 k yd tA RH Ma Oa Pa Na oa)=some r:=by first|(rw [Rp];with_reducible exact H)|(have Qc:=(Option.bind_some _ _).symm.trans H;rw [Rp];with_reducible exact Qc)|(have Qc:=(Option.bind_some _ _).symm.trans H;with_reducible exact Qc)|with_reducible exact H|(rw [Rp];exact H)|exact H
   have mC:=aa.mk Rp;clear Rp;have H':=aa.mk H;clear H;go_enter Try.func68,Try.ntmps68;go_wp2_with (first|((with_reducible refine Qb (N:=1) rfl ?_);refine Ic ?hg (N:=1) ?hd (cs:=#[.slice zb Ma.length yb,.int .i64 Oa,.int .i64 Pa,.int .i64 Na,.slice Ob oa.length Fb]) (t:=45) ?hr ?_;(case hd|hg=>rfl);(case hr=>exact jaj);intro Ka hg w7 Bd hb;have Pb:=aa.mk (Ga maj hb);have Rb:=aa.mk (Bd);have Yb:=aa.mk ((by rw [hg];exact (Qa maj):w.heap.size ≤ Ka));have Vc:=aa.mk ((by rw [hg];exact (Qa maj):w.heap.size ≤ Ka));clear HB;have HB:=Pb;have qa:=Rb;have Vf:=Yb;have Xa:=Vc;clear Pb Rb Yb Vc hb Bd hg)|((with_reducible refine Qb (N:=9) rfl ?_);refine Kd.Yj (Kd.int .i64) _ 3 ?hg (N:=9) ?hd (xs:=([]:List Int)) (inner:=[]) (ok:=fun _=>True) (Yg:=fun _=>True) ?hr ?hp (fun _ hk=>hk) trivial (Below.refl _ _) (Nat.le_refl _) (by simp) ?_;(case hd|hg=>rfl);(case hr=>exact jaj);(case hp=>exact (Pc.none _ _));intro th w8 UI hb Ll Pe;clear Ll Pe;(first|rw [← Ch.out] at UI|(simp only [Int.reduceToNat] at UI;rw [← Ch.out] at UI));have Pb:=aa.mk (Kd.Xc UI (Qa laj));have Rb:=aa.mk (Ta (g:=Ka) (o:=.cells #[.slice zb Ma.length yb,.int .i64 Oa,.int .i64 Pa,.int .i64 Na,.slice Ob oa.length Fb] 45 (0,0)) naj hb);have Yb:=aa.mk (Ga laj hb);clear qa HB;have qe:=Pb;have qa:=Rb;have HB:=Yb;clear Pb Rb Yb hb UI;have Wl:w8.cell? ⟨Ka,0,none⟩=some (.slice zb Ma.length yb):=(ya qa.out 0).trans rfl;have Vl:w8.cell? ⟨Ka,1,none⟩=some (.int .i64 Oa):=(ya qa.out 1).trans rfl;have Ul:w8.cell? ⟨Ka,2,none⟩=some (.int .i64 Pa):=(ya qa.out 2).trans rfl;have Tl:w8.cell? ⟨Ka,3,none⟩=some (.int .i64 Na):=(ya qa.out 3).trans rfl;have Sl:w8.cell? ⟨Ka,4,none⟩=some (.slice Ob oa.length Fb):=(ya qa.out 4).trans rfl;have Rl:=za qa.out 0;have Ql:=za qa.out 1;have Ol:=za qa.out 2;have Nl:=za qa.out 3;have Ml:=za qa.out 4)|((with_reducible refine Kb (f:=66) rfl ?_);refine ie (some 11) rfl rfl Try.func66 (by kernel_rfl) rfl #[.agg #[.slice zb Ma.length yb,.int .i64 Oa,.int .i64 Pa,.int .i64 Na,.slice Ob oa.length Fb]] rfl paj ?_;(with_reducible refine (Qd.calls k _ _ Ma Oa Pa Na _ _ oa true _ ?Oc ?Nc ?Si ?Ri A2.out).mono ?_);(case Oc=>repeat (first|exact (Kd.Za Ng.out HB.out)|(with_reducible refine Kd.Gd ?_ _)|(with_reducible refine Kd.Ed ?_ _)|(with_reducible refine Kd.He ?_)));(case Nc=>exact Pg.out);(case Si=>repeat (first|exact (Kd.Za Dh.out HB.out)|(with_reducible refine Kd.Gd ?_ _)|(with_reducible refine Kd.Ed ?_ _)|(with_reducible refine Kd.He ?_)));(case Ri=>exact bk.out);rintro e Dl ⟨rfl,hb⟩;refine ⟨_,rfl,?_⟩;have Pb:=aa.mk (Kd.ec yaj hb);have Rb:=aa.mk (Ta (g:=Ka) (o:=.cells #[.slice zb Ma.length yb,.int .i64 Oa,.int .i64 Pa,.int .i64 Na,.slice Ob oa.length Fb] 45 (0,0)) naj hb);have Yb:=aa.mk (Ga laj hb);clear qe qa HB;have qe:=Pb;have qa:=Rb;have HB:=Yb;clear Pb Rb Yb;(try clear hb);(try clear Cl);(try clear hk);(try clear hi);have Rj:Dl.cell? ⟨Ka,0,none⟩=some (.slice zb Ma.length yb):=(ya qa.out 0).trans rfl;have Qj:Dl.cell? ⟨Ka,1,none⟩=some (.int .i64 Oa):=(ya qa.out 1).trans rfl;have Pj:Dl.cell? ⟨Ka,2,none⟩=some (.int .i64 Pa):=(ya qa.out 2).trans rfl;have Oj:Dl.cell? ⟨Ka,3,none⟩=some (.int .i64 Na):=(ya qa.out 3).trans rfl;have Mj:Dl.cell? ⟨Ka,4,none⟩=some (.slice Ob oa.length Fb):=(ya qa.out 4).trans rfl;have Lj:=za qa.out 0;have Kj:=za qa.out 1;have Jj:=za qa.out 2;have Ij:=za qa.out 3;have Hj:=za qa.out 4)|((with_reducible refine Kb (f:=90) rfl ?_);refine ie (some 17) rfl rfl Try.func90 (by kernel_rfl) rfl #[.int .i64 (oa.length:Int)] rfl paj ?_;(with_reducible refine (Sc.calls k (oa.length:Int) t106 _ A4.out).mono ?_);rintro e jA ⟨v107,rfl,Rg,hb⟩;refine ⟨_,rfl,?_⟩;have Pb:=aa.mk (Kd.Ag yaj (Kd.Wf Rg) hb);have Rb:=aa.mk (Kd.Xc (Kd.Bh Rg (Kd.Yi yaj)) (Qa laj));have Yb:=aa.mk (Ta (g:=Ka) (o:=.cells #[.slice zb Ma.length yb,.int .i64 Oa,.int .i64 Pa,.int .i64 Na,.slice Ob oa.length Fb] 45 (0,0)) naj hb);have Vc:=aa.mk (Ga laj hb);clear qe qa HB;have qe:=Pb;have Im:=Rb;have qa:=Yb;have HB:=Vc;clear Pb Rb Yb Vc;(try clear hb);(try clear Cl);(try clear hk);(try clear hi);(try clear Rg);have p6:0 ≤ (0:Int):=(by omega);have q6:(0:Int) < ((t106.length:Int):Int):=Ja;have n6:(0 < t106.length)=True:=eq_true (by omega);obtain ⟨Wp,Dt,X3,gb6,gl6,cl6,JY⟩:=Kd.qj Im.out (by omega);(first|cases X3|(injection X3 with ej qv tv;(first|subst ej|(injection ej with ej;subst ej));subst tv;clear qv));have GB6:=aa.mk gb6;have GG6:=aa.mk JY;clear gb6 gl6 JY;obtain ⟨Qx,kJ⟩:=Kd.Dg 0 Im.out (0:Int) p6 q6;(try rw [show ((0:Int)).toNat=0 from rfl] at Qx);(try simp only [Nat.reduceMul,Nat.zero_mul,Nat.zero_add,Nat.reduceAdd] at Qx);(try rw [show ((0:Int)).toNat=0 from rfl] at kJ);(try simp only [Nat.reduceMul,Nat.zero_mul,Nat.zero_add,Nat.reduceAdd] at kJ);replace p6:=eq_true p6;replace q6:=eq_true q6;have n_:=aa.mk (Kd.Eb (cl:=(fun k_=>some k_ ≠ (th:Value).ownBlock)) Im.out (fun k_ hk=>hk.2));clear Im;have Im:=n_;clear n_;obtain ⟨yO,xO⟩:=Kd.Dg 0 Im.out (0:Int) (by omega) (Ja);(try simp only [Int.reduceToNat,Int.toNat_zero,Int.toNat_ofNat,Nat.reduceMul,Nat.zero_mul,Nat.zero_add] at yO xO);(try rw [show ((0:Int)).toNat=0 from rfl] at yO);(try rw [show ((0:Int)).toNat=0 from rfl] at xO);have bE:=Kd.vk Im.out (0:Int) 1)|((with_reducible refine Ce (t:=3) (p:=19) rfl ?_);refine Sd (t:=3) (p:=19) (v:=?yQ) (w1:=(jA.setCell ⟨Wp,(0:Int).toNat,none⟩ (.int .i64 1))) ?hg ?ho ?hn ?hr ?_;(case ho=>rfl);(case hg=>rfl);(case hn=>rfl);(case hr=>exact jaj);intro yo hw;have hg:jA.grownBy yo (some Wp):=(by rw [hw];exact bE.2);have Gj:Kd.R (Kd.int .i64) 3 yo w.heap.size (fun k_=>some k_ ≠ (th:Value).ownBlock) (.slice (some ⟨Wp,0,none⟩) t106.length Dt) tA:=(by rw [hw,EK.out];exact bE.1);clear bE;have Pb:=aa.mk (uf (g:=Ka) (o:=.cells #[.slice zb Ma.length yb,.int .i64 Oa,.int .i64 Pa,.int .i64 Na,.slice Ob oa.length Fb] 45 (0,0)) naj hg (Kd.xp Im.out qa.out (by decide)));have Rb:=aa.mk (Kd.qg (v:=(.slice (some ⟨Wp,0,none⟩) t106.length Dt)) (v1:=(.slice (some ⟨Wp,0,none⟩) t106.length Dt)) (ok:=(fun _=>True)) yaj hg (.inl rfl));have Yb:=aa.mk (Gj);have Vc:=aa.mk ((by rw [hw];exact ta (HB.out) GB6.out:Below w.heap.size w yo));clear qa qe Im HB;have qa:=Pb;have qe:=Rb;have Im:=Yb;have HB:=Vc;clear Pb Rb Yb Vc hg hw Gj)|((with_reducible refine Qb (N:=20) rfl ?_);refine Kd.Yj (Kd.int .i64) _ 3 ?hg (N:=20) ?hd (xs:=([0]:List Int)) (inner:=[.int .i64 0]) (ok:=fun _=>True) (Yg:=fun _=>True) ?hr ?hp (fun _ hk=>hk) trivial (Below.refl _ _) (Nat.le_refl _) (by simp) ?_;(case hd|hg=>rfl);(case hr=>exact jaj);(case hp=>exact (Pc.one (show Kd.M (Kd.int .i64) _ _ _ 0 [.int .i64 0] from rfl) (Pc.none _ _)));intro Y5 E5 jD hb Ll Pe;clear Ll Pe;(first|rw [← mC.out] at jD|(simp only [Int.reduceToNat] at jD;rw [← mC.out] at jD));have Pb:=aa.mk (Kd.Ag yaj (Kd.Wf jD) hb);have Rb:=aa.mk (Kd.Ag (by (with_reducible repeat (first|apply Kd.Ia|apply Kd.La|apply Kd.Ra));exact Im.out) (Kd.Wf jD) hb);have Yb:=aa.mk (Kd.Xc (Kd.Bh (Kd.Bh jD (Kd.Yi yaj)) (Kd.Yi (by (with_reducible repeat (first|apply Kd.Ia|apply Kd.La|apply Kd.Ra));exact Im.out))) (Qa laj));have Vc:=aa.mk (Ta (g:=Ka) (o:=.cells #[.slice zb Ma.length yb,.int .i64 Oa,.int .i64 Pa,.int .i64 Na,.slice Ob oa.length Fb] 45 (0,0)) naj hb);have Df:=aa.mk (Ga laj hb);clear qe Im qa HB;have qe:=Pb;have Im:=Rb;have UK:=Yb;have qa:=Vc;have HB:=Df;clear Pb Rb Yb Vc Df hb jD))
   go_loopg [5] k (fun kq v5 w'=>∃ (Ib:List Int) (Da:List Int),aa (Cb.l0 kq yd Ib Da Ma Oa Pa Na oa=some r)∧aa (kq ≤ k)∧aa (Kd.R (Kd.int .i64) 3 w' w.heap.size (fun k_=>some k_ ≠ ((.slice (some ⟨Wp,0,none⟩) t106.length Dt):Value).ownBlock∧some k_ ≠ (v5:Value).ownBlock) th yd)∧aa (Kd.R (Kd.int .i64) 3 w' w.heap.size (fun k_=>some k_ ≠ (th:Value).ownBlock∧some k_ ≠ (v5:Value).ownBlock) (.slice (some ⟨Wp,0,none⟩) t106.length Dt) Ib)∧aa (Kd.Q (Kd.int .i64) 3 w' w.heap.size (fun k_=>some k_ ≠ (th:Value).ownBlock∧some k_ ≠ ((.slice (some ⟨Wp,0,none⟩) t106.length Dt):Value).ownBlock) v5 Da)∧aa (w'.heap[Ka]? = some (.cells #[(.slice zb Ma.length yb),.int .i64 Oa,.int .i64 Pa,.int .i64 Na,(.slice Ob oa.length Fb)] 45 (0,0)))∧aa (Below w.heap.size w w'))
   case atStart=>exact ⟨(tA),(RH),H',⟨Nat.le_refl _⟩,⟨by (with_reducible repeat (first|apply Kd.Ia|apply Kd.La|apply Kd.Ra));exact Kd.Eb qe.out (fun _ hk=>⟨hk.1.2,hk.2⟩)⟩,⟨by (with_reducible repeat (first|apply Kd.Ia|apply Kd.La|apply Kd.Ra));exact Im.out⟩,⟨Kd.Sw (by (with_reducible repeat (first|apply Kd.Ia|apply Kd.La|apply Kd.Ra));exact Kd.Eb UK.out (fun _ hk=>⟨hk.1.2,hk.2⟩))⟩,⟨saj⟩,⟨oaj⟩⟩
   case round =>
    clear H'
    try clear p2
    try clear c3
    try clear c5
    try clear Rq
    try clear LD
    try clear c6
    try clear p6
    try clear q6
    try clear Ky
    try clear n6
    try clear hf6
    try clear c9
    try clear Wl
    try clear Vl
    try clear Ul
    try clear Tl
    try clear Sl
    try clear Rj
    try clear Qj
    try clear Pj
    try clear Oj
    try clear Mj
    try clear Rl
    try clear Ql
    try clear Ol
    try clear Nl
    try clear Ml
    try clear Lj
    try clear Kj
    try clear Jj
    try clear Ij
    try clear Hj
    try clear Qx
    try clear p6
    try clear q6
    (try clear HA);(try clear Kf);(try clear jc);(try clear Uc);(try clear Ue);(try clear qa);(try clear HB);obtain ⟨Ib,Da,HA,Kf,jc,Uc,Ue,qa,HB⟩:=hrel;have ng:=(Kd.Ua Uc.out).1;rw [ng] at Uc;(try simp only [ng]);(try simp only [ng] at qa);(try simp only [ng] at jc);(try simp only [ng] at Ue);cases gk with
    | zero=>exact absurd HA.out (by simp [Cb.l0])
    | succ k1 =>
     have H:=HA.out;clear HA;simp only [Cb.l0] at H
     by_cases Xx:(Da.length:Int) > 0
     ·rw [if_pos Xx] at H;have Wx:decide (0 < (Da.length:Int))=true:=decide_eq_true Xx;have WB:decide (0 < Da.length)=true:=decide_eq_true (by omega);clear Xx
      by_cases Hz:0 < (Da.length:Int)
      ·rw [if_pos Hz] at H;have VF:decide (0 < (Da.length:Int))=true:=decide_eq_true Hz;have vP:decide (0 < Da.length)=true:=decide_eq_true (by omega);clear Hz
       by_cases DC:0 ≤ (rd Da 0)
       ·rw [if_pos DC] at H;have kK:decide (0 ≤ (rd Da 0))=true:=decide_eq_true DC;clear DC
        by_cases qA:(rd Da 0) < (oa.length:Int)
        ·rw [if_pos qA] at H;have UB:decide ((rd Da 0) < (oa.length:Int))=true:=decide_eq_true qA;clear qA;replace H:=Option.bind_eq_some_iff.mp H;obtain ⟨t115,fL,H⟩:=H
         try dsimp only at H
         have vQ:=aa.mk fL;clear fL
         by_cases Qn:1 ≤ (Da.length:Int)
         ·rw [if_pos Qn] at H;have bq:=eq_true Qn;have Kw:decide (1 ≤ (Da.length:Int))=true:=decide_eq_true Qn;clear Qn;obtain ⟨Qr,Np⟩:∃ y_:List Int,y_=(Da.drop (1:Int).toNat):=⟨_,rfl⟩;replace H:(Cb.l1 k1 yd Ib Qr t115 0 Ma Oa Pa Na oa)=some r:=by first|(rw [Np];with_reducible exact H)|(have Qc:=(Option.bind_some _ _).symm.trans H;rw [Np];with_reducible exact Qc)|(have Qc:=(Option.bind_some _ _).symm.trans H;with_reducible exact Qc)|with_reducible exact H|(rw [Np];exact H)|exact H
          have cG:=aa.mk Np;clear Np;have H':=aa.mk H;clear H;obtain ⟨Jah,cK,fN,_⟩:=Kd.Fk Ue.out;subst fN
          try go_wp2
          have Pb:=aa.mk (Kd.Ra jc.out);have Rb:=aa.mk (Kd.Ra Uc.out);have Yb:=aa.mk (Kd.Ze Ue.out);have Vc:=aa.mk (Fa qa.out);have Df:=aa.mk (ja HB.out);clear jc Uc Ue qa HB;have jc:=Pb;have Uc:=Rb;have Ue:=Yb;have qa:=Vc;have HB:=Df;clear Pb Rb Yb Vc Df;have gI:0 ≤ (0:Int):=(by omega);have dI:0 < (Da.length:Int):=Ja;obtain ⟨gy,w_,Dq⟩:=Kd.Ld (Kd.Gm Ue.out).2.2 0 gI dI;cases w_;have Qaa:(0 < Da.length)=True:=eq_true (by omega);(try rw [show ((0:Int)).toNat=0 from rfl] at Dq);(try rw [Addr.add_zero'] at Dq);replace gI:=eq_true gI;replace dI:=eq_true dI;have Fp:0 ≤ ((rd Da 0):Int):=Ja;have Dp:(rd Da 0) < (oa.length:Int):=Ja;obtain ⟨Mi,iL,lK,ED,Jl,Cq,Bq,Aq,zq,XE,cF⟩:=Vj Dh.out (rd Da 0) Fp Dp;have OE:=zq;have PE:=Aq;have QE:=Bq;have RE:=Cq;have SE:=Jl;cases ED;replace Jl:=Jb HB.out Jl;replace Cq:=Jb HB.out Cq;replace Bq:=Jb HB.out Bq;replace Aq:=Jb HB.out Aq;replace zq:=Jb HB.out zq;have kG:=aa.mk cF;have fO:=aa.mk XE;clear cF XE;replace Fp:=eq_true Fp;replace Dp:=eq_true Dp;refine Yk (n:=9) (S:=fun w'=>w'.cell? ⟨Ka,0,none⟩=some (.slice zb Ma.length yb)∧w'.cell? ⟨Ka,1,none⟩=some (.int .i64 Oa)∧w'.cell? ⟨Ka,2,none⟩=some (.int .i64 Pa)∧w'.cell? ⟨Ka,3,none⟩=some (.int .i64 Na)∧w'.cell? ⟨Ka,4,none⟩=some (.slice (some Mi) oa.length Fb)∧w'.cell? gy=some (.int .i64 (rd Da 0))∧w'.cell? (Mi.add (((rd Da 0)).toNat * 5))=some (.slice iL ((Ea oa (rd Da 0)).f0).length lK)∧w'.cell? ⟨(Mi.add (((rd Da 0)).toNat * 5)).block,(Mi.add (((rd Da 0)).toNat * 5)).off + 1,none⟩=some (.int .i64 ((Ea oa (rd Da 0)).f1))∧w'.cell? ⟨(Mi.add (((rd Da 0)).toNat * 5)).block,(Mi.add (((rd Da 0)).toNat * 5)).off + 2,none⟩=some (.int .i64 ((Ea oa (rd Da 0)).f2))∧w'.cell? ⟨(Mi.add (((rd Da 0)).toNat * 5)).block,(Mi.add (((rd Da 0)).toNat * 5)).off + 3,none⟩=some (.int .i64 ((Ea oa (rd Da 0)).f3))∧w'.cell? ⟨(Mi.add (((rd Da 0)).toNat * 5)).block,(Mi.add (((rd Da 0)).toNat * 5)).off + 4,none⟩=some (.int .i64 ((Ea oa (rd Da 0)).f4))) (ds:=[]) #[false,false,false,false,false,false,false,false,false] (by kernel_rfl) rfl rfl ⟨(ya qa.out 0).trans rfl,(ya qa.out 1).trans rfl,(ya qa.out 2).trans rfl,(ya qa.out 3).trans rfl,(ya qa.out 4).trans rfl,Dq,(Jb HB.out SE),(Jb HB.out RE),(Jb HB.out QE),(Jb HB.out PE),(Jb HB.out OE)⟩ (fun hHeld=>?_);refine Ut Cb.Z5 Cb.aX (fun Uo tL=>?_);generalize wr.drew=vZ at jc Uc Ue qa HB kG Dq Jl Cq Bq Aq zq hHeld ⊢;refine od (i:=0) (N:=some 24) (v:=?_) (a':=?_) #[true,false,false,false,false,false,false,false,false] rfl rfl (Ug Uo.out (by kernel_rfl)) (fun _ _ _ h=>h) (Or.inl ⟨by rfl,?_⟩) ?_ ?_;rotate_left
          ·exact eaj
          rotate_left
          ·exact daj
          refine od (i:=2) (N:=some 26) (v:=?_) (a':=?_) #[true,false,true,false,false,false,false,false,false] rfl rfl (Ug Uo.out (by kernel_rfl)) (fun _ _ _ h=>h) (Or.inl ⟨by rfl,?_⟩) ?_ ?_;rotate_left
          ·exact eaj
          rotate_left
          ·exact daj
          refine od (i:=3) (N:=some 27) (v:=?_) (a':=?_) #[true,false,true,true,false,false,false,false,false] rfl rfl (Ug Uo.out (by kernel_rfl)) (fun _ _ _ h=>h) (Or.inl ⟨by rfl,?_⟩) ?_ ?_;rotate_left
          ·exact eaj
          rotate_left
          ·exact daj
          refine Ph (i:=1) (N:=some 25) (v:=?_) (a':=?_) #[true,true,true,true,false,false,false,false,false] rfl rfl (Ik Uo.out tL.out (by kernel_rfl)) (fun _ _ _ h=>h) (Or.inl ⟨by rfl,?_⟩) hHeld ?_ ?_;rotate_left
          ·exact gaj
          rotate_left
          ·exact daj
          refine Ph (i:=4) (N:=some 28) (v:=?_) (a':=?_) #[true,true,true,true,true,false,false,false,false] rfl rfl (Ik Uo.out tL.out (by kernel_rfl)) (fun _ _ _ h=>h) (Or.inl ⟨by rfl,?_⟩) hHeld ?_ ?_;rotate_left
          ·exact gaj
          rotate_left
          ·exact daj
          refine od (i:=5) (N:=some 29) (v:=?_) (a':=?_) #[true,true,true,true,true,true,false,false,false] rfl rfl (Ug Uo.out (by kernel_rfl)) (fun _ _ _ h=>h) (Or.inl ⟨by rfl,?_⟩) ?_ ?_;rotate_left
          ·exact eaj
          rotate_left
          ·exact daj
          refine Ph (i:=6) (N:=some 30) (v:=?_) (a':=?_) #[true,true,true,true,true,true,true,false,false] rfl rfl (Ik Uo.out tL.out (by kernel_rfl)) (fun _ _ _ h=>h) (Or.inl ⟨by rfl,?_⟩) hHeld ?_ ?_;rotate_left
          ·exact gaj
          rotate_left
          ·exact daj
          refine qp (i:=7) (N:=some 31) #[true,true,true,true,true,true,true,true,false] rfl rfl (Ey Uo.out (by kernel_rfl)) (by decide) (fun K hK=>?_);refine qt Try.func85 (by kernel_rfl) rfl #[.agg #[.slice iL ((Ea oa (rd Da 0)).f0).length lK,.int .i64 ((Ea oa (rd Da 0)).f1),.int .i64 ((Ea oa (rd Da 0)).f2),.int .i64 ((Ea oa (rd Da 0)).f3),.int .i64 ((Ea oa (rd Da 0)).f4)]] (by rfl) rfl rfl paj ?_;with_reducible refine (bf.calls _ _ ((Ea oa (rd Da 0)).f0) ((Ea oa (rd Da 0)).f1) ((Ea oa (rd Da 0)).f2) ((Ea oa (rd Da 0)).f3) ((Ea oa (rd Da 0)).f4) t115 _ ?Oc ?Nc vQ.out).mono ?_
          (case Oc=>repeat (first|exact (Kd.Za kG.out HB.out)|(with_reducible refine Kd.Gd ?_ _)|(with_reducible refine Kd.Ed ?_ _)|(with_reducible refine Kd.He ?_)))
          (case Nc=>exact fO.out)
          rintro e Jx ⟨xA,rfl,Rg,hb⟩;have PT:=(hb.cell (World.block_lt_of_cell? _ _ (hHeld.2.2.2.2.2.1))).trans (hHeld.2.2.2.2.2.1);refine ⟨_,rfl,?_⟩;have Pb:=aa.mk (Kd.Ag Baj (Kd.Wf Rg) hb);have Rb:=aa.mk (Kd.Ag waj (Kd.Wf Rg) hb);have Yb:=aa.mk (Kd.Pt (by (with_reducible repeat (first|apply Kd.ye|apply Kd.xe|apply Kd.Ze));exact Ue.out) (Kd.Wf Rg) hb);have Vc:=aa.mk (Kd.Xc (Kd.Bh (Kd.Bh (Kd.Bh Rg (Kd.Yi Baj)) (Kd.Yi waj)) (Kd.zH (by (with_reducible repeat (first|apply Kd.ye|apply Kd.xe|apply Kd.Ze));exact Ue.out))) (Qa laj));have Df:=aa.mk (Ta (g:=Ka) (o:=.cells #[.slice zb Ma.length yb,.int .i64 Oa,.int .i64 Pa,.int .i64 Na,.slice (some Mi) oa.length Fb] 45 (0,0)) naj hb);have Qg:=aa.mk (Ga laj hb);clear jc Uc Ue qa HB;have jc:=Pb;have Uc:=Rb;have Ue:=Yb;have oG:=Vc;have qa:=Df;have HB:=Qg;clear Pb Rb Yb Vc Df Qg;(try clear hb);(try clear Cl);(try clear hk);(try clear hi);(try clear Rg);refine hK.out _ _ ⟨(ya qa.out 0).trans rfl,(ya qa.out 1).trans rfl,(ya qa.out 2).trans rfl,(ya qa.out 3).trans rfl,(ya qa.out 4).trans rfl,PT,(Jb HB.out SE),(Jb HB.out RE),(Jb HB.out QE),(Jb HB.out PE),(Jb HB.out OE)⟩ (fun hHeld=>?_);clear hK K;refine Nf (a':=?_) ?_ ?_;rotate_left
          ·show Act.put _ (some 31) _=_
           exact daj
          refine od (i:=8) (N:=some 6) (v:=?_) (a':=?_) #[true,true,true,true,true,true,true,true,true] rfl rfl (Ug Uo.out (by kernel_rfl)) (fun _ _ _ h=>h) (Or.inl ⟨by rfl,?_⟩) ?_ ?_;rotate_left
          ·exact eaj
          rotate_left
          ·exact daj
          refine Yo (Cz Uo.out (by kernel_rfl)) ?_;have n_:=aa.mk (Kd.Vg (cl:=(fun k_=>some k_ ≠ (th:Value).ownBlock∧some k_ ≠ (.slice (some ⟨Wp,0,none⟩) Ib.length Dt:Value).ownBlock∧some k_ ≠ (xA:Value).ownBlock)) Ue.out (fun k_ hk=>⟨hk.1.1,⟨hk.1.2,hk.2⟩⟩));clear Ue;have Ue:=n_;clear n_;have MQ:(1:Int) ≤ ((Da.length:Int):Int):=Ja;obtain ⟨laf,PO,_,BO,_⟩:=info_parts info3;have uS:=Wn (P:=Try.prog) 22 3 .i64 Try.underlying22 PO 1 BO (some gy) Da.length cK 1 (by omega) MQ;have RI:=Kd.Tw (k:=(1:Int).toNat) Ue.out (by omega);obtain ⟨xL,ZM⟩:∃ A1,A1=(if cK=(1:Int).toNat then (some gy) else ((some gy):Option Addr).map (·.add ((1:Int).toNat * 1))):=⟨_,rfl⟩;obtain ⟨LH,yS⟩:∃ c1,c1=cK - (1:Int).toNat:=⟨_,rfl⟩;have ZQ:Qr.length=Da.length - (1:Int).toNat:=(by rw [cG.out,List.length_drop]);rw [← cG.out] at RI;rw [← ZQ,← ZM,← yS] at uS;replace RI:Kd.Q (Kd.int .i64) 3 Jx w.heap.size (fun k_=>some k_ ≠ (th:Value).ownBlock∧some k_ ≠ (.slice (some ⟨Wp,0,none⟩) Ib.length Dt:Value).ownBlock∧some k_ ≠ (xA:Value).ownBlock) (.slice xL Qr.length LH) Qr:=(by rw [ZM,yS,ZQ];exact RI);have nU:aa ((Value.slice xL Qr.length LH).ownBlock=(.slice (some gy) Da.length cK:Value).ownBlock):=⟨by rw [ZM];split <;> (cases ((some gy):Option Addr) <;> rfl)⟩;clear ZQ PO BO Ue ZM yS;have qY:=aa.mk RI;clear RI;replace MQ:=eq_true MQ;have n_:=aa.mk (Kd.Eb (cl:=fun k_=>((some k_ ≠ (.slice (some ⟨Wp,0,none⟩) Ib.length Dt:Value).ownBlock∧some k_ ≠ (.slice xL Qr.length LH:Value).ownBlock)∧some k_ ≠ (xA:Value).ownBlock)) jc.out (fun k_ hk=>⟨⟨hk.1.1,(by rw [nU.out];exact hk.1.2)⟩,hk.2⟩));clear jc;have jc:=n_;clear n_;have n_:=aa.mk (Kd.Eb (cl:=fun k_=>((some k_ ≠ (th:Value).ownBlock∧some k_ ≠ (.slice xL Qr.length LH:Value).ownBlock)∧some k_ ≠ (xA:Value).ownBlock)) Uc.out (fun k_ hk=>⟨⟨hk.1.1,(by rw [nU.out];exact hk.1.2)⟩,hk.2⟩));clear Uc;have Uc:=n_;clear n_;have n_:=aa.mk (Kd.Eb (cl:=fun k_=>(((True∧some k_ ≠ (th:Value).ownBlock)∧some k_ ≠ (.slice (some ⟨Wp,0,none⟩) Ib.length Dt:Value).ownBlock)∧some k_ ≠ (.slice xL Qr.length LH:Value).ownBlock)) oG.out (fun k_ hk=>⟨⟨⟨trivial,hk.1.1.2⟩,hk.1.2⟩,(by rw [nU.out];exact hk.2)⟩));clear oG;have oG:=n_;clear n_
          try go_wp2
          go_loopg [5,7] k1 (fun kq v5 v7 w'=>∃ (yf:List Int) (kr:List Int) (ef:Int),v7 = .int .i64 ef∧aa (Cb.l1 kq yd yf kr t115 ef Ma Oa Pa Na oa=some r)∧aa (kq ≤ k1)∧aa (Kd.R (Kd.int .i64) 3 w' w.heap.size (fun k_=>some k_ ≠ ((.slice (some ⟨Wp,0,none⟩) Ib.length Dt):Value).ownBlock∧some k_ ≠ (v5:Value).ownBlock∧some k_ ≠ (xA:Value).ownBlock) th yd)∧aa (Kd.R (Kd.int .i64) 3 w' w.heap.size (fun k_=>some k_ ≠ (th:Value).ownBlock∧some k_ ≠ (v5:Value).ownBlock∧some k_ ≠ (xA:Value).ownBlock) (.slice (some ⟨Wp,0,none⟩) Ib.length Dt) yf)∧aa (Kd.Q (Kd.int .i64) 3 w' w.heap.size (fun k_=>some k_ ≠ (th:Value).ownBlock∧some k_ ≠ ((.slice (some ⟨Wp,0,none⟩) Ib.length Dt):Value).ownBlock∧some k_ ≠ (xA:Value).ownBlock) v5 kr)∧aa (Kd.R (Kd.int .i64) 3 w' w.heap.size (fun k_=>some k_ ≠ (th:Value).ownBlock∧some k_ ≠ ((.slice (some ⟨Wp,0,none⟩) Ib.length Dt):Value).ownBlock∧some k_ ≠ (v5:Value).ownBlock) xA t115)∧aa (w'.heap[Ka]? = some (.cells #[(.slice zb Ma.length yb),.int .i64 Oa,.int .i64 Pa,.int .i64 Na,(.slice (some Mi) oa.length Fb)] 45 (0,0)))∧aa (Below w.heap.size w w'))
          case atStart=>exact ⟨(Ib),(Qr),(0),raj,H',⟨Nat.le_refl _⟩,⟨by (try simp only [ng]);(with_reducible repeat (first|apply Kd.Ia|apply Kd.La|apply Kd.Ra));exact Kd.Eb jc.out (fun _ hk=>⟨hk.1.1,⟨hk.1.2,hk.2⟩⟩)⟩,⟨by (try simp only [ng]);(with_reducible repeat (first|apply Kd.Ia|apply Kd.La|apply Kd.Ra));exact Kd.Eb Uc.out (fun _ hk=>⟨hk.1.1,⟨hk.1.2,hk.2⟩⟩)⟩,⟨by (try simp only [ng]);(with_reducible repeat (first|apply Kd.ye|apply Kd.xe|apply Kd.Ze));exact qY.out⟩,⟨by (try simp only [ng]);(with_reducible repeat (first|apply Kd.Ia|apply Kd.La|apply Kd.Ra));exact Kd.Eb oG.out (fun _ hk=>⟨hk.1.1.2,⟨hk.1.2,hk.2⟩⟩)⟩,⟨by (try simp only [ng]);(with_reducible repeat (first|refine Ca ?_ _|refine Fa ?_|refine Ba ?_ _));exact qa.out⟩,⟨oaj⟩⟩
          case round =>
           clear H'
           try clear c1
           try clear p1
           try clear q1
           try clear hx1
           try clear o6
           try clear c2
           try clear p2
           try clear q2
           try clear c3
           try clear c5
           try clear Rq
           try clear LD
           try clear c6
           try clear p6
           try clear q6
           try clear Ky
           try clear n6
           try clear hf6
           try clear c8
           try clear c9
           try clear Dx
           try clear M6
           try clear EH
           try clear qV
           try clear iV
           try clear Xx
           try clear Wx
           try clear WB
           try clear Hz
           try clear VF
           try clear vP
           try clear DC
           try clear kK
           try clear qA
           try clear UB
           try clear Qn
           try clear bq
           try clear Kw
           try clear LH
           try clear MQ
           try clear Wl
           try clear Vl
           try clear Ul
           try clear Tl
           try clear Sl
           try clear Rj
           try clear Qj
           try clear Pj
           try clear Oj
           try clear Mj
           try clear Rl
           try clear Ql
           try clear Ol
           try clear Nl
           try clear Ml
           try clear Lj
           try clear Kj
           try clear Jj
           try clear Ij
           try clear Hj
           try clear Dq
           try clear Jl
           try clear Cq
           try clear Bq
           try clear Aq
           try clear zq
           try clear Qx
           try clear gI
           try clear Fp
           try clear p2
           try clear p6
           try clear dI
           try clear Dp
           try clear MQ
           try clear q6
           (try clear HA);(try clear aj);(try clear jc);(try clear Uc);(try clear Ue);(try clear Ap);(try clear qa);(try clear HB);obtain ⟨yf,kr,ef,rfl,HA,aj,jc,Uc,Ue,Ap,qa,HB⟩:=hrel;have Ai:=(Kd.Ua Uc.out).1;rw [Ai] at Uc;(try simp only [Ai]);(try simp only [Ai] at qa);(try simp only [Ai] at jc);(try simp only [Ai] at Ue);(try simp only [Ai] at Ap);cases gk with
           | zero=>exact absurd HA.out (by simp [Cb.l1])
           | succ k2 =>
            have H:=HA.out;clear HA;simp only [Cb.l1] at H
            by_cases zu:ef < (t115.length:Int)
            ·rw [if_pos zu] at H;have aq:decide (ef < (t115.length:Int))=true:=decide_eq_true zu;clear zu
             by_cases MD:0 ≤ ef
             ·rw [if_pos MD] at H;have PW:decide (0 ≤ ef)=true:=decide_eq_true MD;clear MD
              by_cases rL:0 ≤ (rd t115 ef)
              ·rw [if_pos rL] at H;have OW:decide (0 ≤ (rd t115 ef))=true:=decide_eq_true rL;clear rL
               by_cases NW:(rd t115 ef) < (yf.length:Int)
               ·rw [if_pos NW] at H;have MW:decide ((rd t115 ef) < (yf.length:Int))=true:=decide_eq_true NW;clear NW
                by_cases sP:(rd yf (rd t115 ef))=0
                ·rw [if_pos sP] at H;have rP:=beq_iff_eq.mpr sP;have qP:=bne_eq_false_iff_eq.mpr sP;clear sP;obtain ⟨sA,Mp⟩:∃ y_:List Int,y_=(yf.set ((rd t115 ef):Int).toNat 1):=⟨_,rfl⟩;replace H:(if kr.length < 17592186044416 then (Cb.l1 k2 yd sA (kr ++ [rd t115 ef]) t115 (wrap64 (ef + 1)) Ma Oa Pa Na oa) else (none))=some r:=by first|(rw [Mp];with_reducible exact H)|(have Qc:=(Option.bind_some _ _).symm.trans H;rw [Mp];with_reducible exact Qc)|(have Qc:=(Option.bind_some _ _).symm.trans H;with_reducible exact Qc)|with_reducible exact H|(rw [Mp];exact H)|exact H
                 have CK:=aa.mk Mp;clear Mp
                 by_cases KH:kr.length < 17592186044416
                 ·rw [if_pos KH] at H;have CX:=aa.mk KH;clear KH;obtain ⟨QH,Lp⟩:∃ y_:List Int,y_=(kr ++ [rd t115 ef]):=⟨_,rfl⟩;replace H:(Cb.l1 k2 yd sA QH t115 (wrap64 (ef + 1)) Ma Oa Pa Na oa)=some r:=by first|(rw [Lp];with_reducible exact H)|(have Qc:=(Option.bind_some _ _).symm.trans H;rw [Lp];with_reducible exact Qc)|(have Qc:=(Option.bind_some _ _).symm.trans H;with_reducible exact Qc)|with_reducible exact H|(rw [Lp];exact H)|exact H
                  have BK:=aa.mk Lp;clear Lp;have H':=aa.mk H;clear H;obtain ⟨Eah,lH,X9⟩:=Kd.Vb Ap.out;subst X9;have Qq:0 ≤ (ef:Int):=Ja;have Pq:ef < (t115.length:Int):=Ja;obtain ⟨Zn,BD,Sm⟩:=Kd.Ld (Kd.Ua Ap.out).2.2 ef Qq Pq;cases BD;replace Qq:=eq_true Qq;replace Pq:=eq_true Pq;have nv:0 ≤ ((rd t115 ef):Int):=Ja;have jv:(rd t115 ef) < (yf.length:Int):=Ja;obtain ⟨Ow,WJ,Bj⟩:=Kd.Ld (Kd.Ua Uc.out).2.2 (rd t115 ef) nv jv;obtain rfl:(⟨Wp,0,none⟩:Addr)=Ow:=(by injection WJ);(first|simp only [add_plain] at Bj|simp only [Qo] at Bj|simp only [Addr.add,Nat.zero_add] at Bj|skip);replace nv:=eq_true nv;replace jv:=eq_true jv;have QL:0 ≤ (ef:Int):=Ja;have ML:ef < (t115.length:Int):=Ja;obtain ⟨fX,u_,cM⟩:=Kd.Ld (Kd.Ua Ap.out).2.2 ef QL ML;obtain rfl:Zn=fX:=(by injection u_);replace QL:=eq_true QL;replace ML:=eq_true ML;have mV:0 ≤ ((rd t115 ef):Int):=Ja;have kV:((rd t115 ef):Int) < ((yf.length:Int):Int):=Ja;obtain ⟨iR,D8⟩:=Kd.Dg 0 Uc.out ((rd t115 ef):Int) mV kV;replace mV:=eq_true mV;replace kV:=eq_true kV;have YT:=Kd.vk Uc.out ((rd t115 ef):Int) 1;go_wp2_with (first|((with_reducible refine Ce (t:=3) (p:=53) rfl ?_);refine Sd (t:=3) (p:=53) (v:=?J5) (w1:=(wr.setCell ⟨Wp,((rd t115 ef):Int).toNat,none⟩ (.int .i64 1))) ?hg ?ho ?hn ?hr ?_;(case ho=>rfl);(case hg=>rfl);(case hn=>rfl);(case hr=>exact jaj);intro ZU hw;have hg:wr.grownBy ZU (some Wp):=(by rw [hw];exact YT.2);have Gj:Kd.R (Kd.int .i64) 3 ZU w.heap.size (fun k_=>some k_ ≠ (th:Value).ownBlock∧some k_ ≠ (u5:Value).ownBlock∧some k_ ≠ (.slice (some Zn) t115.length lH:Value).ownBlock) (.slice (some ⟨Wp,0,none⟩) yf.length Dt) sA:=(by rw [hw,CK.out];exact YT.1);clear YT;have Pb:=aa.mk (Kd.qg (v:=(.slice (some ⟨Wp,0,none⟩) yf.length Dt)) (v1:=(.slice (some ⟨Wp,0,none⟩) yf.length Dt)) (ok:=(fun k_=>some k_ ≠ (u5:Value).ownBlock∧some k_ ≠ (.slice (some Zn) t115.length lH:Value).ownBlock)) (by (with_reducible repeat (first|apply Kd.Ia|apply Kd.La|apply Kd.Ra));exact Kd.Eb jc.out (fun _ hk=>⟨⟨hk.2.1,hk.2.2⟩,hk.1⟩)) hg (.inl rfl));have Rb:=aa.mk (Gj);have Yb:=aa.mk (Kd.bG (v:=(.slice (some ⟨Wp,0,none⟩) yf.length Dt)) (v1:=(.slice (some ⟨Wp,0,none⟩) yf.length Dt)) (ok:=(fun k_=>some k_ ≠ (th:Value).ownBlock∧some k_ ≠ (.slice (some Zn) t115.length lH:Value).ownBlock)) (by (with_reducible repeat (first|apply Kd.ye|apply Kd.xe|apply Kd.Ze));exact Kd.Vg Ue.out (fun _ hk=>⟨⟨hk.1,hk.2.2⟩,hk.2.1⟩)) hg (.inl rfl));have Vc:=aa.mk (Kd.qg (v:=(.slice (some ⟨Wp,0,none⟩) yf.length Dt)) (v1:=(.slice (some ⟨Wp,0,none⟩) yf.length Dt)) (ok:=(fun k_=>some k_ ≠ (th:Value).ownBlock∧some k_ ≠ (u5:Value).ownBlock)) (by (with_reducible repeat (first|apply Kd.Ia|apply Kd.La|apply Kd.Ra));exact Kd.Eb Ap.out (fun _ hk=>⟨⟨hk.1,hk.2.2⟩,hk.2.1⟩)) hg (.inl rfl));have Df:=aa.mk (uf (g:=Ka) (o:=.cells #[.slice zb Ma.length yb,.int .i64 Oa,.int .i64 Pa,.int .i64 Na,.slice (some Mi) oa.length Fb] 45 (0,0)) naj hg (Kd.xp Uc.out qa.out (by decide)));have Qg:=aa.mk ((by rw [hw];exact ta (HB.out) GB6.out:Below w.heap.size w ZU));clear jc Uc Ue Ap qa HB;have jc:=Pb;have Uc:=Rb;have Ue:=Yb;have Ap:=Vc;have qa:=Df;have HB:=Qg;clear Pb Rb Yb Vc Df Qg hg hw Gj;have PL:0 ≤ (ef:Int):=Ja;have LL:ef < (t115.length:Int):=Ja;obtain ⟨eX,t_,bM⟩:=Kd.Ld (Kd.Ua Ap.out).2.2 ef PL LL;obtain rfl:Zn=eX:=(by injection t_);replace PL:=eq_true PL;replace LL:=eq_true LL)|((with_reducible refine Bg (b:=.append) (xs:=#[.tmp 54,.tmp 59]) rfl ?_);at_builtin;refine Kd.Qt (Kd.int .i64) (w0:=w) w.heap.size rfl (.tmp 54) (.tmp 59) 22 3 (.int .i64 0) 8 rfl Try.underlying22 info3 rfl (by decide) (by omega) u5 kr (rd t115 ef) [.int .i64 (rd t115 ef)] (fun k_=>some k_ ≠ (th:Value).ownBlock∧some k_ ≠ (.slice (some ⟨Wp,0,none⟩) yf.length Dt:Value).ownBlock∧some k_ ≠ (.slice (some Zn) t115.length lH:Value).ownBlock) (fun _=>False) rfl rfl ?aP (fun _ hk=>hk.elim) ?aF ?aO ?aB ?aS ?aL ?_;(case aP=>exact rfl);(case aB=>exact laj);(case aF=>exact (fun k_ hk=>⟨Kd.fresh' (Kd.Yi Baj) k_ hk,Kd.fresh' (Kd.Yi waj) k_ hk,Kd.fresh' (Kd.Yi (by (with_reducible repeat (first|apply Kd.Ia|apply Kd.La|apply Kd.Ra));exact Ap.out)) k_ hk⟩));(case aO=>exact (by (with_reducible repeat (first|apply Kd.ye|apply Kd.xe|apply Kd.Ze));exact Kd.Vg Ue.out (fun _ hk=>⟨hk.1.1,⟨hk.2,hk.1.2⟩⟩)));(case aS=>exact (Qa laj));(case aL=>have:=CX.out;omega);intro v127 w38 ho hb hg hat;rw [← BK.out] at ho;have Pb:=aa.mk (Kd.qg (ok:=(fun k_=>some k_ ≠ (.slice (some ⟨Wp,0,none⟩) yf.length Dt:Value).ownBlock∧some k_ ≠ (.slice (some Zn) t115.length lH:Value).ownBlock)) (by (with_reducible repeat (first|apply Kd.Ia|apply Kd.La|apply Kd.Ra));exact Kd.Eb jc.out (fun _ hk=>⟨⟨hk.2,hk.1.2⟩,hk.1.1⟩)) hg hat);have Rb:=aa.mk (Kd.qg (ok:=(fun k_=>some k_ ≠ (th:Value).ownBlock∧some k_ ≠ (.slice (some Zn) t115.length lH:Value).ownBlock)) (by (with_reducible repeat (first|apply Kd.Ia|apply Kd.La|apply Kd.Ra));exact Kd.Eb Uc.out (fun _ hk=>⟨⟨hk.1,hk.2.2⟩,hk.2.1⟩)) hg hat);have Yb:=aa.mk (Kd.qg (ok:=(fun k_=>some k_ ≠ (th:Value).ownBlock∧some k_ ≠ (.slice (some ⟨Wp,0,none⟩) yf.length Dt:Value).ownBlock)) (by (with_reducible repeat (first|apply Kd.Ia|apply Kd.La|apply Kd.Ra));exact Kd.Eb Ap.out (fun _ hk=>⟨⟨hk.1.1,hk.2⟩,hk.1.2⟩)) hg hat);have Vc:=aa.mk (uf (g:=Ka) (o:=.cells #[.slice zb Ma.length yb,.int .i64 Oa,.int .i64 Pa,.int .i64 Na,.slice (some Mi) oa.length Fb] 45 (0,0)) naj hg (Kd.DN Ue.out qa.out (by decide)));have Df:=aa.mk (hb);have Qg:=aa.mk (ho);clear jc Uc Ap qa HB Ue;have jc:=Pb;have Uc:=Rb;have Ap:=Yb;have qa:=Vc;have HB:=Df;have SK:=Qg;clear Pb Rb Yb Vc Df Qg ho hb hg hat));(try simp only [← Ai])
                  go_roundg k2
                  case measure=>have:=Kf.out;have:=aj.out;omega
                  case rel=>exact ⟨(sA),(QH),(wrap64 (ef + 1)),raj,H',⟨by have:=Kf.out;have:=aj.out;omega⟩,⟨by (try simp only [ng]);(try simp only [Ai]);(with_reducible repeat (first|apply Kd.Ia|apply Kd.La|apply Kd.Ra));exact Kd.Eb jc.out (fun _ hk=>⟨hk.1.1,⟨hk.2,hk.1.2⟩⟩)⟩,⟨by (try simp only [ng]);(try simp only [Ai]);(with_reducible repeat (first|apply Kd.Ia|apply Kd.La|apply Kd.Ra));exact Kd.Eb Uc.out (fun _ hk=>⟨hk.1.1,⟨hk.2,hk.1.2⟩⟩)⟩,⟨by (try simp only [ng]);(try simp only [Ai]);(with_reducible repeat (first|apply Kd.ye|apply Kd.xe|apply Kd.Ze));exact SK.out⟩,⟨by (try simp only [ng]);(try simp only [Ai]);(with_reducible repeat (first|apply Kd.Ia|apply Kd.La|apply Kd.Ra));exact Kd.Eb Ap.out (fun _ hk=>⟨hk.1.1,⟨hk.1.2,hk.2⟩⟩)⟩,⟨by (try simp only [ng]);(try simp only [Ai]);(with_reducible repeat (first|refine Ca ?_ _|refine Fa ?_|refine Ba ?_ _));exact qa.out⟩,⟨oaj⟩⟩
                 ·rw [if_neg KH] at H;exact absurd H (by simp)
                ·rw [if_neg sP] at H;have rP:=beq_eq_false_iff_ne.mpr sP;have qP:=bne_iff_ne.mpr sP;have H':=aa.mk H;clear H;obtain ⟨Aaa,D_,QS⟩:=Kd.Vb Ap.out;subst QS;have Qq:0 ≤ (ef:Int):=Ja;have Pq:ef < (t115.length:Int):=Ja;obtain ⟨Zn,BD,Sm⟩:=Kd.Ld (Kd.Ua Ap.out).2.2 ef Qq Pq;cases BD;replace Qq:=eq_true Qq;replace Pq:=eq_true Pq;have nv:0 ≤ ((rd t115 ef):Int):=Ja;have jv:(rd t115 ef) < (yf.length:Int):=Ja;obtain ⟨Ow,WJ,Bj⟩:=Kd.Ld (Kd.Ua Uc.out).2.2 (rd t115 ef) nv jv;obtain rfl:(⟨Wp,0,none⟩:Addr)=Ow:=(by injection WJ);(first|simp only [add_plain] at Bj|simp only [Qo] at Bj|simp only [Addr.add,Nat.zero_add] at Bj|skip);replace nv:=eq_true nv;replace jv:=eq_true jv;go_wp2;(try simp only [← Ai])
                 go_roundg k2
                 case measure=>have:=Kf.out;have:=aj.out;omega
                 case rel=>exact ⟨(yf),(kr),(wrap64 (ef + 1)),raj,H',⟨by have:=Kf.out;have:=aj.out;omega⟩,⟨by (try simp only [ng]);(try simp only [Ai]);(with_reducible repeat (first|apply Kd.Ia|apply Kd.La|apply Kd.Ra));exact jc.out⟩,⟨by (try simp only [ng]);(try simp only [Ai]);(with_reducible repeat (first|apply Kd.Ia|apply Kd.La|apply Kd.Ra));exact Uc.out⟩,⟨by (try simp only [ng]);(try simp only [Ai]);(with_reducible repeat (first|apply Kd.ye|apply Kd.xe|apply Kd.Ze));exact Ue.out⟩,⟨by (try simp only [ng]);(try simp only [Ai]);(with_reducible repeat (first|apply Kd.Ia|apply Kd.La|apply Kd.Ra));exact Ap.out⟩,⟨by (try simp only [ng]);(try simp only [Ai]);(with_reducible repeat (first|refine Ca ?_ _|refine Fa ?_|refine Ba ?_ _));exact qa.out⟩,⟨oaj⟩⟩
               ·rw [if_neg NW] at H;exact absurd H (by simp)
              ·rw [if_neg rL] at H;exact absurd H (by simp)
             ·rw [if_neg MD] at H;exact absurd H (by simp)
            ·rw [if_neg zu] at H;have aq:decide (ef < (t115.length:Int))=false:=decide_eq_false zu;clear zu;have H':=aa.mk H;clear H;obtain ⟨iZ,tW,PS⟩:=Kd.Vb Ap.out;subst PS;go_wp2;(try simp only [← ng,← Ai])
             go_roundg k2
             case measure=>have:=Kf.out;have:=aj.out;omega
             case rel=>exact ⟨(yf),(kr),H',⟨by have:=Kf.out;have:=aj.out;omega⟩,⟨by (try simp only [ng]);(try simp only [Ai]);(with_reducible repeat (first|apply Kd.Ia|apply Kd.La|apply Kd.Ra));exact Kd.Eb jc.out (fun _ hk=>⟨hk.1,hk.2.1⟩)⟩,⟨by (try simp only [ng]);(try simp only [Ai]);(with_reducible repeat (first|apply Kd.Ia|apply Kd.La|apply Kd.Ra));exact Kd.Eb Uc.out (fun _ hk=>⟨hk.1,hk.2.1⟩)⟩,⟨by (try simp only [ng]);(try simp only [Ai]);(with_reducible repeat (first|apply Kd.ye|apply Kd.xe|apply Kd.Ze));exact Kd.Vg Ue.out (fun _ hk=>⟨hk.1,hk.2.1⟩)⟩,⟨by (try simp only [ng]);(try simp only [Ai]);(with_reducible repeat (first|refine Ca ?_ _|refine Fa ?_|refine Ba ?_ _));exact qa.out⟩,⟨oaj⟩⟩
         ·rw [if_neg Qn] at H;exact absurd H (by simp)
        ·rw [if_neg qA] at H;exact absurd H (by simp)
       ·rw [if_neg DC] at H;exact absurd H (by simp)
      ·rw [if_neg Hz] at H;exact absurd H (by simp)
     ·rw [if_neg Xx] at H;have Wx:decide (0 < (Da.length:Int))=false:=decide_eq_false Xx;have WB:decide (0 < Da.length)=false:=decide_eq_false (by omega);clear Xx;have H':=aa.mk H;clear H;obtain ⟨zaa,C_,OS,_⟩:=Kd.Fk Ue.out;subst OS;go_wp2
      go_loopg [3,8] k1 (fun kq v3 v8 w'=>∃ (jj:List Int) (me:Int),v8 = .int .i64 me∧aa (Cb.l2 kq jj Ib me=some r)∧aa (kq ≤ k1)∧aa (Kd.R (Kd.int .i64) 3 w' w.heap.size (fun k_=>some k_ ≠ ((.slice (some ⟨Wp,0,none⟩) Ib.length Dt):Value).ownBlock) v3 jj)∧aa (Kd.R (Kd.int .i64) 3 w' w.heap.size (fun k_=>some k_ ≠ (v3:Value).ownBlock) (.slice (some ⟨Wp,0,none⟩) Ib.length Dt) Ib)∧aa (w'.heap[Ka]? = some (.cells #[(.slice zb Ma.length yb),.int .i64 Oa,.int .i64 Pa,.int .i64 Na,(.slice Ob oa.length Fb)] 45 (0,0)))∧aa (Below w.heap.size w w'))
      case atStart=>exact ⟨(yd),(0),raj,H',⟨Nat.le_refl _⟩,⟨by (try simp only [ng]);(with_reducible repeat (first|apply Kd.Ia|apply Kd.La|apply Kd.Ra));exact Kd.Eb jc.out (fun _ hk=>hk.1)⟩,⟨by (try simp only [ng]);(with_reducible repeat (first|apply Kd.Ia|apply Kd.La|apply Kd.Ra));exact Kd.Eb Uc.out (fun _ hk=>hk.1)⟩,⟨by (try simp only [ng]);(with_reducible repeat (first|refine Ca ?_ _|refine Fa ?_|refine Ba ?_ _));exact qa.out⟩,⟨oaj⟩⟩
      case round =>
       clear H'
       try clear c1
       try clear p1
       try clear q1
       try clear hx1
       try clear o6
       try clear c2
       try clear p2
       try clear q2
       try clear c3
       try clear p3
       try clear q3
       try clear ov
       try clear hf3
       try clear c5
       try clear Rq
       try clear LD
       try clear c6
       try clear p6
       try clear q6
       try clear Ky
       try clear n6
       try clear hf6
       try clear c8
       try clear c9
       try clear Dx
       try clear M6
       try clear EH
       try clear qV
       try clear iV
       try clear AZ
       try clear zZ
       try clear taf
       try clear Xx
       try clear Wx
       try clear WB
       try clear Hz
       try clear VF
       try clear vP
       try clear DC
       try clear kK
       try clear qA
       try clear UB
       try clear Qn
       try clear bq
       try clear Kw
       try clear LH
       try clear MQ
       try clear zu
       try clear aq
       try clear MD
       try clear PW
       try clear rL
       try clear OW
       try clear NW
       try clear MW
       try clear sP
       try clear rP
       try clear qP
       try clear mV
       try clear kV
       try clear saf
       try clear Taf
       try clear KH
       try clear Wl
       try clear Vl
       try clear Ul
       try clear Tl
       try clear Sl
       try clear Rj
       try clear Qj
       try clear Pj
       try clear Oj
       try clear Mj
       try clear Rl
       try clear Ql
       try clear Ol
       try clear Nl
       try clear Ml
       try clear Lj
       try clear Kj
       try clear Jj
       try clear Ij
       try clear Hj
       try clear Dq
       try clear Jl
       try clear Cq
       try clear Bq
       try clear Aq
       try clear zq
       try clear Sm
       try clear Bj
       try clear cM
       try clear bM
       try clear iR
       try clear Qx
       try clear p1
       try clear M6
       try clear gI
       try clear Fp
       try clear Qq
       try clear nv
       try clear QL
       try clear PL
       try clear p2
       try clear mV
       try clear p6
       try clear q1
       try clear EH
       try clear dI
       try clear Dp
       try clear Pq
       try clear jv
       try clear ML
       try clear LL
       try clear q2
       try clear MQ
       try clear kV
       try clear q6
       (try clear HA);(try clear aj);(try clear jc);(try clear Uc);(try clear qa);(try clear HB);obtain ⟨jj,me,rfl,HA,aj,jc,Uc,qa,HB⟩:=hrel;cases gk with
       | zero=>exact absurd HA.out (by simp [Cb.l2])
       | succ k2 =>
        have H:=HA.out;clear HA;simp only [Cb.l2] at H
        by_cases gK:me < (Ib.length:Int)
        ·rw [if_pos gK] at H;have pP:decide (me < (Ib.length:Int))=true:=decide_eq_true gK;clear gK
         by_cases rN:0 ≤ me
         ·rw [if_pos rN] at H;have EW:decide (0 ≤ me)=true:=decide_eq_true rN;clear rN
          by_cases pT:(rd Ib me)=1
          ·rw [if_pos pT] at H;have DW:=beq_iff_eq.mpr pT;have CW:=bne_eq_false_iff_eq.mpr pT;clear pT
           by_cases qN:jj.length < 17592186044416
           ·rw [if_pos qN] at H;have BX:=aa.mk qN;clear qN;obtain ⟨UU,XA⟩:∃ y_:List Int,y_=(jj ++ [me]):=⟨_,rfl⟩;replace H:(Cb.l2 k2 UU Ib (wrap64 (me + 1)))=some r:=by first|(rw [XA];with_reducible exact H)|(have Qc:=(Option.bind_some _ _).symm.trans H;rw [XA];with_reducible exact Qc)|(have Qc:=(Option.bind_some _ _).symm.trans H;with_reducible exact Qc)|with_reducible exact H|(rw [XA];exact H)|exact H
            have uX:=aa.mk XA;clear XA;have H':=aa.mk H;clear H;have WC:0 ≤ (me:Int):=Ja;have TC:me < (Ib.length:Int):=Ja;obtain ⟨pK,XS,Jo⟩:=Kd.Ld (Kd.Ua Uc.out).2.2 me WC TC;obtain rfl:(⟨Wp,0,none⟩:Addr)=pK:=(by injection XS);(first|simp only [add_plain] at Jo|simp only [Qo] at Jo|simp only [Addr.add,Nat.zero_add] at Jo|skip);replace WC:=eq_true WC;replace TC:=eq_true TC;go_wp2_with (first|((with_reducible refine Bg (b:=.append) (xs:=#[.tmp 72,.tmp 74]) rfl ?_);at_builtin;refine Kd.Fm (Kd.int .i64) (w0:=w) w.heap.size rfl (.tmp 72) (.tmp 74) 22 3 (.int .i64 0) 8 rfl Try.underlying22 info3 rfl (by decide) (by omega) u3 jj me [.int .i64 me] (fun k_=>some k_ ≠ (.slice (some ⟨Wp,0,none⟩) Ib.length Dt:Value).ownBlock) (fun _=>False) rfl rfl ?aP (fun _ hk=>hk.elim) ?aF ?aO ?aB ?aS ?aL ?_;(case aP=>exact rfl);(case aB=>exact laj);(case aF=>exact (fun k_ hk=>Kd.fresh' (Kd.Yi waj) k_ hk));(case aO=>exact Baj);(case aS=>exact (Qa laj));(case aL=>have:=BX.out;omega);intro v131 w46 ho hb hg hat;rw [← uX.out] at ho;have Pb:=aa.mk (Kd.qg (ok:=(fun _=>True)) (by (with_reducible repeat (first|apply Kd.Ia|apply Kd.La|apply Kd.Ra));exact Kd.Eb Uc.out (fun _ hk=>⟨trivial,hk⟩)) hg hat);have Rb:=aa.mk (uf (g:=Ka) (o:=.cells #[.slice zb Ma.length yb,.int .i64 Oa,.int .i64 Pa,.int .i64 Na,.slice Ob oa.length Fb] 45 (0,0)) naj hg (Kd.xp jc.out qa.out (by decide)));have Yb:=aa.mk (hb);have Vc:=aa.mk (ho);clear Uc qa HB jc;have Uc:=Pb;have qa:=Rb;have HB:=Yb;have oY:=Vc;clear Pb Rb Yb Vc ho hb hg hat))
            go_roundg k2
            case measure=>have:=Kf.out;have:=aj.out;omega
            case rel=>exact ⟨(UU),(wrap64 (me + 1)),raj,H',⟨by have:=Kf.out;have:=aj.out;omega⟩,⟨by (try simp only [ng]);(with_reducible repeat (first|apply Kd.Ia|apply Kd.La|apply Kd.Ra));exact oY.out⟩,⟨by (try simp only [ng]);(with_reducible repeat (first|apply Kd.Ia|apply Kd.La|apply Kd.Ra));exact Kd.Eb Uc.out (fun _ hk=>hk.2)⟩,⟨by (try simp only [ng]);(with_reducible repeat (first|refine Ca ?_ _|refine Fa ?_|refine Ba ?_ _));exact qa.out⟩,⟨oaj⟩⟩
           ·rw [if_neg qN] at H;exact absurd H (by simp)
          ·rw [if_neg pT] at H;have DW:=beq_eq_false_iff_ne.mpr pT;have CW:=bne_iff_ne.mpr pT;have H':=aa.mk H;clear H;have WC:0 ≤ (me:Int):=Ja;have TC:me < (Ib.length:Int):=Ja;obtain ⟨pK,XS,Jo⟩:=Kd.Ld (Kd.Ua Uc.out).2.2 me WC TC;obtain rfl:(⟨Wp,0,none⟩:Addr)=pK:=(by injection XS);(first|simp only [add_plain] at Jo|simp only [Qo] at Jo|simp only [Addr.add,Nat.zero_add] at Jo|skip);replace WC:=eq_true WC;replace TC:=eq_true TC;go_wp2
           go_roundg k2
           case measure=>have:=Kf.out;have:=aj.out;omega
           case rel=>exact ⟨(jj),(wrap64 (me + 1)),raj,H',⟨by have:=Kf.out;have:=aj.out;omega⟩,⟨by (try simp only [ng]);(with_reducible repeat (first|apply Kd.Ia|apply Kd.La|apply Kd.Ra));exact jc.out⟩,⟨by (try simp only [ng]);(with_reducible repeat (first|apply Kd.Ia|apply Kd.La|apply Kd.Ra));exact Uc.out⟩,⟨by (try simp only [ng]);(with_reducible repeat (first|refine Ca ?_ _|refine Fa ?_|refine Ba ?_ _));exact qa.out⟩,⟨oaj⟩⟩
         ·rw [if_neg rN] at H;exact absurd H (by simp)
        ·rw [if_neg gK] at H;have pP:decide (me < (Ib.length:Int))=false:=decide_eq_false gK;clear gK;obtain rfl:=Option.some.inj H;go_wp2;go_ret;exact ⟨_,taj,by (with_reducible repeat (first|apply Kd.Ia|apply Kd.La|apply Kd.Ra));exact Kd.Eb jc.out (fun _ hk=>trivial),oaj⟩
  ·rw [if_neg c5] at H;exact absurd H (by simp)
 ·replace c3:=Bool.eq_false_iff.mpr c3;subst c3;rw [if_neg (show ¬ (false=true) by decide)] at H;obtain rfl:=Option.some.inj H;go_enter Try.func68,Try.ntmps68;go_wp2_with (first|((with_reducible refine Qb (N:=1) rfl ?_);refine Ic ?hg (N:=1) ?hd (cs:=#[.slice zb Ma.length yb,.int .i64 Oa,.int .i64 Pa,.int .i64 Na,.slice Ob oa.length Fb]) (t:=45) ?hr ?_;(case hd|hg=>rfl);(case hr=>exact jaj);intro Ka hg w47 Bd hb;have Pb:=aa.mk (Ga maj hb);have Rb:=aa.mk (Bd);have Yb:=aa.mk ((by rw [hg];exact (Qa maj):w.heap.size ≤ Ka));have Vc:=aa.mk ((by rw [hg];exact (Qa maj):w.heap.size ≤ Ka));clear HB;have HB:=Pb;have qa:=Rb;have Vf:=Yb;have Xa:=Vc;clear Pb Rb Yb Vc hb Bd hg)|((with_reducible refine Qb (N:=9) rfl ?_);refine Kd.Yj (Kd.int .i64) _ 3 ?hg (N:=9) ?hd (xs:=([]:List Int)) (inner:=[]) (ok:=fun _=>True) (Yg:=fun _=>True) ?hr ?hp (fun _ hk=>hk) trivial (Below.refl _ _) (Nat.le_refl _) (by simp) ?_;(case hd|hg=>rfl);(case hr=>exact jaj);(case hp=>exact (Pc.none _ _));intro th YU VI hb Ll Pe;clear Ll Pe;(first|rw [← Ch.out] at VI|(simp only [Int.reduceToNat] at VI;rw [← Ch.out] at VI));have Pb:=aa.mk (Kd.Xc VI (Qa laj));have Rb:=aa.mk (Ta (g:=Ka) (o:=.cells #[.slice zb Ma.length yb,.int .i64 Oa,.int .i64 Pa,.int .i64 Na,.slice Ob oa.length Fb] 45 (0,0)) naj hb);have Yb:=aa.mk (Ga laj hb);clear qa HB;have qe:=Pb;have qa:=Rb;have HB:=Yb;clear Pb Rb Yb hb VI;have N1:YU.cell? ⟨Ka,0,none⟩=some (.slice zb Ma.length yb):=(ya qa.out 0).trans rfl;have L1:YU.cell? ⟨Ka,1,none⟩=some (.int .i64 Oa):=(ya qa.out 1).trans rfl;have K1:YU.cell? ⟨Ka,2,none⟩=some (.int .i64 Pa):=(ya qa.out 2).trans rfl;have J1:YU.cell? ⟨Ka,3,none⟩=some (.int .i64 Na):=(ya qa.out 3).trans rfl;have I1:YU.cell? ⟨Ka,4,none⟩=some (.slice Ob oa.length Fb):=(ya qa.out 4).trans rfl;have PZ:=za qa.out 0;have OZ:=za qa.out 1;have NZ:=za qa.out 2;have MZ:=za qa.out 3;have LZ:=za qa.out 4)|((with_reducible refine Kb (f:=66) rfl ?_);refine ie (some 11) rfl rfl Try.func66 (by kernel_rfl) rfl #[.agg #[.slice zb Ma.length yb,.int .i64 Oa,.int .i64 Pa,.int .i64 Na,.slice Ob oa.length Fb]] rfl paj ?_;(with_reducible refine (Qd.calls k _ _ Ma Oa Pa Na _ _ oa false _ ?Oc ?Nc ?Si ?Ri A2.out).mono ?_);(case Oc=>repeat (first|exact (Kd.Za Ng.out HB.out)|(with_reducible refine Kd.Gd ?_ _)|(with_reducible refine Kd.Ed ?_ _)|(with_reducible refine Kd.He ?_)));(case Nc=>exact Pg.out);(case Si=>repeat (first|exact (Kd.Za Dh.out HB.out)|(with_reducible refine Kd.Gd ?_ _)|(with_reducible refine Kd.Ed ?_ _)|(with_reducible refine Kd.He ?_)));(case Ri=>exact bk.out);rintro e w51 ⟨rfl,hb⟩;refine ⟨_,rfl,?_⟩;have Pb:=aa.mk (Kd.ec yaj hb);have Rb:=aa.mk (Ta (g:=Ka) (o:=.cells #[.slice zb Ma.length yb,.int .i64 Oa,.int .i64 Pa,.int .i64 Na,.slice Ob oa.length Fb] 45 (0,0)) naj hb);have Yb:=aa.mk (Ga laj hb);clear qe qa HB;have qe:=Pb;have qa:=Rb;have HB:=Yb;clear Pb Rb Yb;(try clear hb);(try clear Cl);(try clear hk);(try clear hi)));go_ret;exact ⟨_,taj,Taj,oaj⟩
end Go.Proofs.Ytoomcmaifgkkfaa.P
end
