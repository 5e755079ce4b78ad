/- The statement FnExactSplitLinksSaid, proved: part 10 of 10 (texts of this session and of the kit's print, put together and cut to what is used by a program of it). -/
import Derived.Test.YtbahbnhfhddlbaaMFnExactSplitLinks9
import Derived.Test.YtbahbnhfhddlbaaRows
import Derived.WalkKit
import Derived.ProofKit
import Derived.OpenShut
import Derived.ShutString
import Derived.ChangeOld
import Derived.Below
import Derived.SizedLaws
import Derived.Carry
set_option maxHeartbeats 8000000
set_option maxRecDepth 100000

namespace Go.Proofs.Ytbahbnhfhddlbaa.fnExactSplitLinks
open Go.ChangeShapes Go.WideShapes Go.ChangeAt Go.RowKit Go.Proofs.Ytbahbnhfhddlbaa.Lib Go.Proofs.YtbahbnhfhddlbaaW.PrintWords Go.Proofs.Ytbahbnhfhddlbaa.P
open Go.ChangeMaps (open_string shut_string)
set_option linter.unusedVariables false
theorem own:ownKnob Try.prog.godebug=none:=by kernel_rfl
theorem laidOut:laidOutB Try.prog=true:=by kernel_rfl
theorem lifted (os:Os) (started:os.Started) (H:Type) (enc:TypeId × Value→H) :
    ReturnsInHanded {} Try.checked os 3 .any (Rows.fnExactSplitLinksSpec.pre6 enc Try.prog Try.f3 Rows.fnExactSplitLinksRow.domain false) (Rows.fnExactSplitLinksSpec.post enc Try.prog Try.f3 false true false false):=by
  refine returnsInHanded_of_change_sized (C:=Try.checked) own started (by kernel_rfl) Try.func3
    (ChangeSpec.witness6 (enc:=enc) (C:=Try.checked) false ⟨#[],#[.agg #[.slice none 0 0],.slice none 0 0],[]⟩ 8 (by kernel_rfl) (by kernel_rfl) (by kernel_rfl) (by kernel_rfl)) ?_
  intro W base args ds gs before ab hW ah ai _;have aa : ∀ (j:Nat) t v,Try.f3.params[j]?=some t→args[j]?=some v→Value.okWide Try.prog W .any base t v:=ab
  have aj:=hW;obtain⟨p,q,ak,hV,rfl,ar,au⟩:=hW;have hA:DataW.TrodAll enc Try.prog W 0 (fun _=>true) true Try.f3.params.toList args.toList ds p:=ak;rw[Try.params3]at hA aa;obtain⟨v0,av,d0,aw,p0,q0,ae,rfl,rfl,h0,r0⟩:=trodAll_cons hA;obtain⟨v1,ax,d1,ay,p1,q1,rfl,rfl,rfl,h1,r1⟩:=trodAll_cons r0;obtain⟨rfl,rfl,rfl⟩:=trodAll_nil r1;obtain rfl:args = #[v0,v1]:=by cases args;simp_all
  obtain⟨rfl,rfl⟩:=trodVars_none hV;have k0:=h0;have al : ∀ x∈p0,x.block<W.heap.size:=by obtain⟨m,hm⟩:=k0;exact DataW.trod_lt m _ _ _ hm
  obtain⟨A0,c0,l0,rfl,an,af⟩:=zH3 Try.underlying24 (by kernel_rfl) (by kernel_rfl) (zAt Try.underlying22 (by kernel_rfl) (zAt Try.underlying58 (by kernel_rfl) (zDs Try.underlying93 (by kernel_rfl) (by kernel_rfl) Try.underlying2 Try.underlying2 Qn (fun a b=>(⟨a,b⟩:qk)) (fun w a b=>zEg w ⟨a,b⟩)))) (aa 0 24 v0 rfl rfl) h0;have k1:=h1;have ao : ∀ x∈p1,x.block<W.heap.size:=by obtain⟨m,hm⟩:=k1;exact DataW.trod_lt m _ _ _ hm
  obtain⟨A1,c1,l1,rfl,aq,ag⟩:=zHf Try.underlying25 (zAt Try.underlying25 (by kernel_rfl) (zH2 Try.underlying2)) (aa 1 25 v1 rfl rfl) h1;obtain⟨k,hk⟩:=Pure.zBZ l0 l1 (zH4 af) ag.2.1;refine(Zu.calls k _ _ l0 _ _ l1 W af an ag aq hk).mono fun e W' ⟨he,ad⟩=>?_
  subst he;exact⟨_,rfl,_,_,_,[],_,[],aj,trodAll_mk1 (shut_bool Try.underlying4 _),(trodAll_cons_mk (Below.trod laidOut (by kernel_rfl) (of_decide_eq_true (by kernel_rfl)) k0 ad al) (trodAll_cons_mk (Below.trod laidOut (by kernel_rfl) (of_decide_eq_true (by kernel_rfl)) k1 ad ao) trodAll_mk0)),rfl,ad.frame _,fun h=>by cases h⟩
theorem jMay:Try.pinned.checked.prog.mayEnter=true:=by kernel_rfl
theorem jLifts:(Rows.fnExactSplitLinksRow.lifted==Try.pinned.checked.prog.liftsFinal)=true:=by kernel_rfl
theorem jMake:(Try.pinned.checked.prog.make==some Rows.fnExactSplitLinksRow.make)=true:=by kernel_rfl
theorem closed:joinedFacts Try.pinned.checked.prog 3 Try.f3 Rows.fnExactSplitLinksSpec Rows.fnExactSplitLinksRow=true:=by
  unfold joinedFacts;rw[jMay,jLifts,jMake];kernel_rfl
theorem over:Rows.fnExactSplitLinksRow.holds Try.pinned (OpenSpec.ofChange Rows.fnExactSplitLinksSpec):=
  OpenClaim.holds_of_wide 3 Try.f3 rfl rfl rfl rfl rfl rfl rfl ⟨rfl,rfl,rfl,rfl,rfl⟩ rfl rfl rfl rfl rfl (by kernel_rfl) Try.func3 closed
    (of_decide_eq_true (by kernel_rfl)) (by unfold Func.isWrapper;first|(rw[if_pos (by decide +kernel)];kernel_rfl)|(rw[if_neg (by decide +kernel)];exact⟨rfl,rfl⟩))
    (fun os started H enc _=>lifted os started H enc)
theorem proved:Rows.FnExactSplitLinksSaid:=over
#print axioms proved
end Go.Proofs.Ytbahbnhfhddlbaa.fnExactSplitLinks
namespace Go.Proofs.Ytbahbnhfhddlbaa
theorem fnExactSplitLinks_holds:Rows.FnExactSplitLinksSaid:=fnExactSplitLinks.proved
end Go.Proofs.Ytbahbnhfhddlbaa
