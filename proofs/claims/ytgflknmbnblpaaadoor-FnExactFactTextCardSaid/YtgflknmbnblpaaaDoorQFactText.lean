/- The Go function FnExactFactText returns true for every argument, and leaves its arguments as they were; no condition beyond the statement's own. -/
import Derived.Test.YtgflknmbnblpaaaDoorRows
import Derived.Test.YtgflknmbnblpaaaDoorCards
import Derived.Test.YtgflknmbnblpaaaDoorTie
import Derived.SevenTiedAt
import Derived.Deep.DeepHandedRow
import Derived.Deep.DeepLaidRun
import Derived.Lib.LaidTab
import Derived.Stop.LaidErr
import Derived.JoinedCond
import Derived.Stop.Joined
import Derived.Test.YtgflknmbnblpaaaDoorQFactText1
import Derived.Test.YtgflknmbnblpaaaDoorQFactText2
import Derived.WalkKit
import Derived.ProofKit
import Derived.OpenShut
import Derived.ShutString
import Derived.ChangeOld
import Derived.Below
import Derived.Carry
import Derived.SizedLaws
set_option maxRecDepth 100000
namespace Go.Proofs.YtgflknmbnblpaaaDoor.fnExactFactText
open Go.ChangeShapes Go.WideShapes Go.ChangeAt Go.RowKit Go.Proofs.YtgflknmbnblpaaaDoor.P
open Go.Proofs.aa.Aa
open Go.ChangeMaps (open_string shut_string)
set_option linter.unusedVariables false
theorem own:ownKnob Tryd.prog.godebug=none:=by kernel_rfl
theorem laidOut:laidOutB Tryd.prog=true:=by kernel_rfl
noncomputable def laidWorld (os:Os):World :=
 let w0:=World.holding Tryd.prog os ⟨#[],#[],[]⟩
 let put (h:Array Obj) (g:Nat) (zs:List Int) (k:IntKind):Array Obj:=h.modify g fun
  | .cells _ t frozen=>.cells (zs.map fun z=>Value.int k z).toArray t frozen
  | o=>o
 { w0 with heap:=put (put (put (w0.heap) 2 [0,1,28,2,29,14,24,3,30,22,20,15,25,17,4,8,31,27,13,23,21,19,16,7,26,12,18,6,11,5,10,9] .u8) 3 [0,1,56,2,57,49,28,3,61,58,42,50,38,29,17,4,62,47,59,36,45,43,51,22,53,39,33,30,24,18,12,5,63,55,48,27,60,41,37,16,46,35,44,21,52,32,23,11,54,26,40,15,34,20,31,10,25,14,19,9,13,8,7,6] .u8) 0 [1,10,100,1000,10000,100000,1000000,10000000,100000000,1000000000,10000000000,100000000000,1000000000000,10000000000000,100000000000000,1000000000000000,10000000000000000,100000000000000000,1000000000000000000,10000000000000000000] .u64 }
theorem laid_met (os:Os) (args:Array Value):laidMet Tryd.prog Rows.fnExactFactTextRow.laid ((laidWorld os).forCall (fun _ _=>0) ⟨#[],args,[]⟩).memory :=
 laidMet_of_run3 10 (by kernel_rfl) (by kernel_rfl) (by kernel_rfl)
theorem witness_row (os:Os) {H:Type} (enc:TypeId × Value→H) :
  (OpenSpec.ofChange Rows.fnExactFactTextSpec).preRow enc Tryd.prog Tryd.f3 Rows.fnExactFactTextRow.domain false Rows.fnExactFactTextRow.laid ((laidWorld os).forCall (fun _ _=>0) ⟨#[],#[.slice none 0 0],[]⟩).memory #[.slice none 0 0] :=
 OpenSpec.preRow_of_B rfl 8 (by kernel_rfl) (by kernel_rfl) (laid_met os _)
theorem lifted (os:Os) (started:os.Started) (H:Type) (enc:TypeId × Value→H) (F:Stop.Interp) :
  ReturnsInHanded {} Tryd.checked os 3 .any ((OpenSpec.ofChange Rows.fnExactFactTextSpec).preRow enc Tryd.prog Tryd.f3 Rows.fnExactFactTextRow.domain false Rows.fnExactFactTextRow.laid) (((OpenSpec.ofChange Rows.fnExactFactTextSpec).at F).post enc Tryd.prog Tryd.f3 false true false false):=by
 refine returnsInHanded_of_row (C:=Tryd.checked) (s:=OpenSpec.ofChange Rows.fnExactFactTextSpec) own started (by kernel_rfl) Tryd.func3
  (witness_row_at (enc:=enc) (C:=Tryd.checked) false (laidWorld os) #[.slice none 0 0] rfl (by kernel_rfl) (by kernel_rfl) (by kernel_rfl) (witness_row os enc)) ?_
 intro W base args ds gs before qk hW hcnd Zk Yn hL _ _;have Sp:laidMet Tryd.prog [("math/bits.deBruijn32tab", Rows.laid_math_bits_deBruijn32tab),("math/bits.deBruijn64tab", Rows.laid_math_bits_deBruijn64tab),("internal/strconv.uint64pow10", Rows.laid_internal_strconv_uint64pow10)] W:=hL;have Rp:laidMet Tryd.prog (("internal/strconv.uint64pow10", Lib.tabData .u64 Lib.pow10Tab) :: []) W:=Sp.tail.tail;have htab:We W:=Lib.tabIs_of_head (show Tryd.prog.globalNamed "internal/strconv.uint64pow10" = some 0 by kernel_rfl) (show (Tryd.prog.globals[0]?).map (·.type)=some 107 by kernel_rfl) Tryd.underlying107 Tryd.underlying87 (show Tryd.prog.cellsOf 87=1 by kernel_rfl) (show Tryd.prog.cellsOf 107=20 by kernel_rfl) Rp;have hval:∀ (j:Nat) t v,Tryd.f3.params[j]? = some t→args[j]? = some v→Value.okWide Tryd.prog W .any base t v:=qk;have hW':=hW;obtain ⟨p,q,Tp,hV,rfl,hfz,hnd⟩:=hW;have hA:DataW.TrodAll enc Tryd.prog W 0 (fun _=>true) true Tryd.f3.params.toList args.toList ds p:=Tp;rw [Tryd.params3] at hA hval;obtain ⟨v0,Gr,d0,Lr,p0,q0,hargs,rfl,rfl,h0,r0⟩:=trodAll_cons hA;obtain ⟨rfl,rfl,rfl⟩:=trodAll_nil r0;obtain rfl:args=#[v0]:=by cases args;simp_all
 obtain ⟨rfl,rfl⟩:=trodVars_none hV;have fo:=h0;have eo:∀ x ∈ p0,x.block < W.heap.size:=fun x hx=>by obtain ⟨Kr,uo⟩:=h0;exact DataW.trod_lt _ _ _ _ uo x hx
 clear Tp qk Yn Zk hL Sp Rp;obtain ⟨A0,n0,c0,rfl⟩:=Go.WideShapes.okWide_slice Tryd.underlying22 (hval 0 22 v0 rfl rfl);obtain ⟨x0,rfl,hl0,hc0,Sq⟩:=Lj Kj h0;obtain ⟨k,Ul⟩:=Od x0 Sq;refine (Wa.calls k A0 c0 x0 _ W hc0 hl0 Ul htab).mono fun e W' ⟨he,qq⟩=>?_
 subst he;exact ⟨_,rfl,_,_,_,[],_,[],hW',trodAll_mk1 (shut_bool Tryd.underlying4 _),(trodAll_cons_mk (Below.trod laidOut (by kernel_rfl) (of_decide_eq_true (by kernel_rfl)) fo qq eo) trodAll_mk0),rfl,qq.frame _,fun h=>by cases h⟩
theorem over:Rows.fnExactFactTextRow.holds Tryd.pinned (OpenSpec.ofChange Rows.fnExactFactTextSpec) :=
 OpenClaim.holds_of_cond 3 Tryd.f3 rfl rfl rfl rfl rfl rfl rfl ⟨rfl,rfl,rfl,rfl,rfl⟩ rfl rfl rfl rfl rfl (by kernel_rfl) Tryd.func3 (by kernel_rfl)
  (of_decide_eq_true (by kernel_rfl)) (by unfold Func.isWrapper;first|(rw [if_pos (by decide +kernel)];kernel_rfl)|(rw [if_neg (by decide +kernel)];exact ⟨rfl,rfl⟩))
  (fun os started H enc _ F0=>by rw [OpenClaim.pre_eq_preRow];exact lifted os started H enc F0)
theorem card:Claim7.holds Tryd.pinned (.plain (OpenSpec.ofChange Rows.fnExactFactTextSpec)) Rows.fnExactFactTextCard :=
 Claim7.holds_tied_plain_at .later [] [.data,.data,.data] true (true, "92e7c36894b62af1f8f33c8efbfb3440c8ec479779a262ffde1981cd098fb73d") false
  over (fun _ h=>by cases h) (by kernel_rfl) (fun _ h=>by cases h) fnExactFactText_row_tie rfl ⟨rfl,rfl⟩ (by kernel_rfl) rfl
  (fun f fn hf hfn=>by
   obtain rfl:f=3:=Option.some.inj ((show Tryd.prog.funcNamed "loop.example/g00385/laws.FnExactFactText" = some 3 by kernel_rfl).symm.trans hf) |>.symm
   obtain rfl:fn=Tryd.f3:=(Option.some.inj (Tryd.func3.symm.trans hfn)).symm
   exact ⟨by kernel_rfl,fun j t ht=>by
    rw [Tryd.params3] at ht
    obtain rfl:t=22:=by
     rcases j with _|j
     ·simpa using ht.symm
     ·simp at ht
    exact (show Tryd.prog.wantsStandIn 22=false by kernel_rfl)⟩)
  (by kernel_rfl)
#print axioms card
end Go.Proofs.YtgflknmbnblpaaaDoor.fnExactFactText
namespace Go.Proofs.YtgflknmbnblpaaaDoor
theorem fnExactFactText_holds:Rows.FnExactFactTextCardSaid:=fnExactFactText.card
end Go.Proofs.YtgflknmbnblpaaaDoor
