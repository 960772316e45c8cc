/- FnSwitches: the row. -/
import Derived.Test.YtkghndikalnipaaGreatRows
import Derived.Test.YtkghndikalnipaaGreatZPSwitchL
import Derived.WalkKit
import Derived.SizedLaws
namespace Go.Proofs.YtkghndikalnipaaGreat.En
open Go Go.ChangeShapes Go.WideShapes Go.ChangeAt Go.RowKit
theorem own:ownKnob Tryz.prog.godebug=none:=by kernel_rfl
theorem abL:laidOutB Tryz.prog=true:=by kernel_rfl
theorem ac4:pW Tryz.prog Θ [22] [.ls (.i .u8)]=true:=by kernel_rfl
set_option maxRecDepth 100000 in
theorem abM(os:Os)(started:os.Started)(H:Type)(enc:TypeId×Value->H):
  ReturnsInHanded {} Tryz.checked os 4 .any (Rows.fnSwitchesSpec.pre6 enc Tryz.prog Tryz.f4 Rows.fnSwitchesRow.domain false) (Rows.fnSwitchesSpec.post enc Tryz.prog Tryz.f4 false true false false):=by
 refine returnsInHanded_of_change_sized (C:=Tryz.checked) own started (by kernel_rfl) Tryz.func4
  (ChangeSpec.witness6 (enc:=enc) (C:=Tryz.checked) false ⟨#[],#[.slice none 0 0],[]⟩ 8 (by kernel_rfl) (by kernel_rfl) (by kernel_rfl) (by kernel_rfl)) ?_
 intro W base args ds gs before hval0 hW hcnd hsz0 _;have hval:∀ (j:Nat) t v,Tryz.f4.params[j]?=some t->args[j]?=some v->Value.okWide Tryz.prog W .any base t v:=hval0;have hW':=hW;obtain⟨p,q,hA0,hV,rfl,hfz,hnd⟩:=hW;have hA:DataW.TrodAll enc Tryz.prog W 0 (λ_=>true) true Tryz.f4.params.toList args.toList ds p:=hA0;rw[Tryz.params4]at hA hval;have hA:DataW.TrodAll enc Tryz.prog W 0 (λ_=>true) true [22] args.toList ds p:=hA;have hA2:=hA;obtain⟨v0,vs0,d0,ds0,p0,q0,_,rfl,rfl,h0,r0⟩:=trodAll_cons hA2;obtain⟨rfl,rfl,rfl⟩:=trodAll_nil r0;obtain⟨rfl,rfl⟩:=trodVars_none hV
 letI:dE:=⟨W⟩
 have calls:=Bz rfl D0 WB.ok (λx l h hl hb=>WU x l h hl hb) ac4 (λj t v ht hv=>hval j t v (by simpa using ht) (by simpa using hv)) hA;rw[Array.toArray_toList]at calls;refine calls.mono λe W' ⟨he,bel⟩=>?_;subst he;exact⟨_,rfl,_,_,_,[],_,[],hW',trodAll_mk1 (shut_bool Tryz.underlying4 _),pF abL bel ac4 hA,rfl,bel.frame _,λh=>by cases h⟩
set_option maxHeartbeats 4000000 in
theorem abv:joinedFacts Tryz.checked.prog 4 Tryz.f4 Rows.fnSwitchesSpec Rows.fnSwitchesRow=true:=by simp only[joinedFacts,ak];exact⟨⟨⟨⟨⟨⟨⟨⟨⟨⟨⟨⟨⟨⟨⟨⟨⟨⟨⟨⟨⟨⟨⟨⟨⟨⟨⟨⟨⟨⟨⟨by as_aux_lemma=>kernel_rfl,by as_aux_lemma=>kernel_rfl⟩,by as_aux_lemma=>kernel_rfl⟩,by as_aux_lemma=>kernel_rfl⟩,by as_aux_lemma=>kernel_rfl⟩,by as_aux_lemma=>kernel_rfl⟩,by as_aux_lemma=>kernel_rfl⟩,by as_aux_lemma=>kernel_rfl⟩,by as_aux_lemma=>kernel_rfl⟩,by as_aux_lemma=>kernel_rfl⟩,by as_aux_lemma=>kernel_rfl⟩,by as_aux_lemma=>kernel_rfl⟩,by as_aux_lemma=>kernel_rfl⟩,by as_aux_lemma=>kernel_rfl⟩,by as_aux_lemma=>kernel_rfl⟩,by as_aux_lemma=>kernel_rfl⟩,by as_aux_lemma=>kernel_rfl⟩,by as_aux_lemma=>kernel_rfl⟩,by as_aux_lemma=>kernel_rfl⟩,by as_aux_lemma=>kernel_rfl⟩,by as_aux_lemma=>kernel_rfl⟩,by as_aux_lemma=>kernel_rfl⟩,by as_aux_lemma=>kernel_rfl⟩,by as_aux_lemma=>kernel_rfl⟩,by as_aux_lemma=>kernel_rfl⟩,by as_aux_lemma=>kernel_rfl⟩,by as_aux_lemma=>kernel_rfl⟩,by as_aux_lemma=>kernel_rfl⟩,by as_aux_lemma=>kernel_rfl⟩,by as_aux_lemma=>kernel_rfl⟩,by as_aux_lemma=>kernel_rfl⟩,by as_aux_lemma=>kernel_rfl⟩
theorem adu:Tryz.checked.prog.funcNamed Rows.fnSwitchesRow.func=some 4:=by kernel_rfl
theorem over4:Rows.fnSwitchesRow.holds Tryz.pinned (OpenSpec.ofChange Rows.fnSwitchesSpec):=
 OpenClaim.holds_of_wide 4 Tryz.f4 rfl rfl rfl rfl rfl rfl rfl ⟨rfl,rfl,rfl,rfl,rfl⟩ rfl rfl rfl rfl rfl adu Tryz.func4 abv
  (of_decide_eq_true (by kernel_rfl)) (by unfold Func.isWrapper;first | (rw[if_pos (by decide+kernel)];kernel_rfl)| (rw[if_neg (by decide+kernel)];exact⟨rfl,rfl⟩))
  (λos started H enc _=>abM os started H enc)
end Go.Proofs.YtkghndikalnipaaGreat.En
namespace Go.Proofs.YtkghndikalnipaaGreat
theorem switches_holds:Rows.FnSwitchesSaid:=En.over4
#print axioms switches_holds
end Go.Proofs.YtkghndikalnipaaGreat
