/- The statement FnExactLinkKindSaid, proved: part 9 of 9 (texts of this session and of the kit's print, put together and cut to what is used by a program of it). -/
import Derived.Test.YtembbpalgfikiaaMFnExactLinkKind8
import Derived.Test.YtembbpalgfikiaaRows
import Derived.WalkKit
import Derived.ProofKit
import Derived.OpenShut
import Derived.ShutString
import Derived.ChangeOld
import Derived.Below
import Derived.SizedLaws
import Derived.Carry

namespace Go.Proofs.Ytembbpalgfikiaa.fnExactLinkKind
open Go.ChangeShapes Go.WideShapes Go.ChangeAt Go.RowKit Go.Proofs.Ytembbpalgfikiaa.Lib Go.Proofs.YtembbpalgfikiaaW.PrintWords Go.Proofs.Ytembbpalgfikiaa.P
open Go.ChangeMaps (open_string shut_string)
set_option linter.unusedVariables false
theorem own:ownKnob Try.prog.godebug=none:=by kernel_rfl
theorem laidOut:laidOutB Try.prog=true:=by kernel_rfl
set_option maxRecDepth 100000 in
theorem lifted (os:Os) (started:os.Started) (H:Type) (enc:TypeId × Value→H) :
    ReturnsInHanded {} Try.checked os 8 .any (Rows.fnExactLinkKindSpec.pre6 enc Try.prog Try.f8 Rows.fnExactLinkKindRow.domain false) (Rows.fnExactLinkKindSpec.post enc Try.prog Try.f8 false true false false):=by
  refine returnsInHanded_of_change_sized (C:=Try.checked) own started (by kernel_rfl) Try.func8
    (ChangeSpec.witness6 (enc:=enc) (C:=Try.checked) false ⟨#[],#[.agg #[.slice none 0 0],.int .i64 0],[]⟩ 8 (by kernel_rfl) (by kernel_rfl) (by kernel_rfl) (by kernel_rfl)) ?_
  intro W base args ds gs before aa hW hcnd ad _
  have hval : ∀ (j:Nat) t v,Try.f8.params[j]?=some t→args[j]?=some v→Value.okWide Try.prog W .any base t v:=aa
  have hW':=hW;obtain⟨p,q,ae,hV,rfl,hfz,hnd⟩:=hW
  have hA:DataW.TrodAll enc Try.prog W 0 (fun _=>true) true Try.f8.params.toList args.toList ds p:=ae
  rw[Try.params8]at hA hval
  obtain⟨v0,ah,d0,ai,p0,q0,hargs,rfl,rfl,h0,r0⟩:=trodAll_cons hA
  obtain⟨v1,aj,d1,ak,p1,q1,rfl,rfl,rfl,h1,r1⟩:=trodAll_cons r0
  obtain⟨rfl,rfl,rfl⟩:=trodAll_nil r1
  obtain rfl:args = #[v0,v1]:=by cases args;simp_all
  obtain⟨rfl,rfl⟩:=trodVars_none hV
  have k0:=h0;have af : ∀ x∈p0,x.block<W.heap.size:=by obtain⟨m,hm⟩:=k0;exact DataW.trod_lt m _ _ _ hm
  obtain⟨A0,c0,l0,rfl,ag,ab⟩:=zHN Try.underlying28 (by kernel_rfl) (by kernel_rfl) (zCT Try.underlying26 (by kernel_rfl) (zCT Try.underlying85 (by kernel_rfl) (zDl Try.underlying118 (by kernel_rfl) (by kernel_rfl) Try.underlying2 Try.underlying2 Qd (fun a b=>(⟨a,b⟩:qZ)) (fun w a b=>zEf w ⟨a,b⟩)))) (hval 0 28 v0 rfl rfl) h0
  obtain⟨a1,rfl,rfl,rfl,w1⟩:=open_int Try.underlying2 (hval 1 2 v1 rfl rfl) h1
  obtain⟨k,hk⟩:=Pure.zCS l0 a1 (zHO ab) w1
  refine(QI.calls k _ _ l0 a1 true W ab ag hk).mono fun e W' ⟨he,bel⟩=>?_
  subst he;exact⟨_,rfl,_,_,_,[],_,[],hW',trodAll_mk1 (shut_bool Try.underlying4 _),(trodAll_cons_mk (Below.trod laidOut (by kernel_rfl) (of_decide_eq_true (by kernel_rfl)) k0 bel af) (trodAll_cons_mk (shut_int Try.underlying2 w1) trodAll_mk0)),rfl,bel.frame _,fun h=>by cases h⟩
theorem jMay:Try.pinned.checked.prog.mayEnter=true:=by kernel_rfl
theorem jLifts:(Rows.fnExactLinkKindRow.lifted==Try.pinned.checked.prog.liftsFinal)=true:=by kernel_rfl
theorem jMake:(Try.pinned.checked.prog.make==some Rows.fnExactLinkKindRow.make)=true:=by kernel_rfl
theorem closed:joinedFacts Try.pinned.checked.prog 8 Try.f8 Rows.fnExactLinkKindSpec Rows.fnExactLinkKindRow=true:=by
  unfold joinedFacts
  rw[jMay,jLifts,jMake]
  kernel_rfl
theorem over:Rows.fnExactLinkKindRow.holds Try.pinned (OpenSpec.ofChange Rows.fnExactLinkKindSpec):=
  OpenClaim.holds_of_wide 8 Try.f8 rfl rfl rfl rfl rfl rfl rfl ⟨rfl,rfl,rfl,rfl,rfl⟩ rfl rfl rfl rfl rfl (by kernel_rfl) Try.func8 closed
    (of_decide_eq_true (by kernel_rfl)) (by unfold Func.isWrapper;first|(rw[if_pos (by decide +kernel)];kernel_rfl)|(rw[if_neg (by decide +kernel)];exact⟨rfl,rfl⟩))
    (fun os started H enc _=>lifted os started H enc)
theorem proved:Rows.FnExactLinkKindSaid:=over
#print axioms proved
end Go.Proofs.Ytembbpalgfikiaa.fnExactLinkKind
namespace Go.Proofs.Ytembbpalgfikiaa
theorem fnExactLinkKind_holds:Rows.FnExactLinkKindSaid:=fnExactLinkKind.proved
end Go.Proofs.Ytembbpalgfikiaa
