/- FnAppends: the row. -/
import Derived.Test.YtkghndikalnipaaGreatRows
import Derived.Test.YtkghndikalnipaaGreatZPAppL
import Derived.WalkKit
import Derived.SizedLaws
namespace Go.Proofs.YtkghndikalnipaaGreat.En
open Go Go.ChangeShapes Go.WideShapes Go.ChangeAt Go.RowKit
theorem own:ownKnob Tryz.prog.godebug=none:=by kernel_rfl
theorem US:laidOutB Tryz.prog=true:=by kernel_rfl
theorem V4:Ef Tryz.prog Θ [22] [.ls (.i .u8)] =true:=by kernel_rfl
set_option maxRecDepth 100000 in
theorem UT(os:Os)(started:os.Started)(H:Type)(enc:TypeId×Value->H):
  ReturnsInHanded {} Tryz.checked os 6 .any (Rows.fnAppendsSpec.pre6 enc Tryz.prog Tryz.f6 Rows.fnAppendsRow.domain false) (Rows.fnAppendsSpec.post enc Tryz.prog Tryz.f6 false true false false):=by
 refine returnsInHanded_of_change_sized (C:=Tryz.checked) own started (by kernel_rfl) Tryz.func6
  (ChangeSpec.witness6 (enc:=enc) (C:=Tryz.checked) false ⟨#[],#[.slice none 0 0],[]⟩ 8 (by kernel_rfl) (by kernel_rfl) (by kernel_rfl) (by kernel_rfl)) ?_
 intro W base args ds gs before hval0 hW hcnd hsz0 _;have hval: ∀ (j:Nat) t v,Tryz.f6.params[j]? =some t->args[j]? =some v->Value.okWide Tryz.prog W .any base t v:=hval0;have hW':=hW;obtain⟨p,q,hA0,hV,rfl,hfz,hnd⟩:=hW;have hA:DataW.TrodAll enc Tryz.prog W 0 (λ_=>true) true Tryz.f6.params.toList args.toList ds p:=hA0;rw[Tryz.params6] at hA hval;have hA:DataW.TrodAll enc Tryz.prog W 0 (λ_=>true) true [22] args.toList ds p:=hA;have hA2:=hA;obtain⟨v0,vs0,d0,ds0,p0,q0,_,rfl,rfl,h0,r0⟩:=trodAll_cons hA2;obtain⟨rfl,rfl,rfl⟩:=trodAll_nil r0;obtain⟨rfl,rfl⟩:=trodVars_none hV
 letI:eg:=⟨W⟩
 have calls:=Mc rfl Ko K1.ok (λx l h hl hb=>Lk x l h hl hb) V4 (λj t v ht hv=>hval j t v (by simpa using ht) (by simpa using hv)) hA;rw[dS] at calls;refine calls.mono λe W' ⟨he,bel⟩=> ?_;subst he;exact⟨_,rfl,_,_,_,[],_,[],hW',trodAll_mk1 (shut_bool Tryz.underlying4 _),yq US bel V4 hA,rfl,bel.frame _,λh=>by cases h⟩
set_option maxHeartbeats 4000000 in
theorem UU:joinedFacts Tryz.checked.prog 6 Tryz.f6 Rows.fnAppendsSpec Rows.fnAppendsRow=true:=by simp only[joinedFacts,al];exact⟨⟨⟨⟨⟨⟨⟨⟨⟨⟨⟨⟨⟨⟨⟨⟨⟨⟨⟨⟨⟨⟨⟨⟨⟨⟨⟨⟨⟨⟨⟨by as_aux_lemma=>kernel_rfl,by as_aux_lemma=>kernel_rfl⟩,by as_aux_lemma=>kernel_rfl⟩,by as_aux_lemma=>kernel_rfl⟩,by as_aux_lemma=>kernel_rfl⟩,by as_aux_lemma=>kernel_rfl⟩,by as_aux_lemma=>kernel_rfl⟩,by as_aux_lemma=>kernel_rfl⟩,by as_aux_lemma=>kernel_rfl⟩,by as_aux_lemma=>kernel_rfl⟩,by as_aux_lemma=>kernel_rfl⟩,by as_aux_lemma=>kernel_rfl⟩,by as_aux_lemma=>kernel_rfl⟩,by as_aux_lemma=>kernel_rfl⟩,by as_aux_lemma=>kernel_rfl⟩,by as_aux_lemma=>kernel_rfl⟩,by as_aux_lemma=>kernel_rfl⟩,by as_aux_lemma=>kernel_rfl⟩,by as_aux_lemma=>kernel_rfl⟩,by as_aux_lemma=>kernel_rfl⟩,by as_aux_lemma=>kernel_rfl⟩,by as_aux_lemma=>kernel_rfl⟩,by as_aux_lemma=>kernel_rfl⟩,by as_aux_lemma=>kernel_rfl⟩,by as_aux_lemma=>kernel_rfl⟩,by as_aux_lemma=>kernel_rfl⟩,by as_aux_lemma=>kernel_rfl⟩,by as_aux_lemma=>kernel_rfl⟩,by as_aux_lemma=>kernel_rfl⟩,by as_aux_lemma=>kernel_rfl⟩,by as_aux_lemma=>kernel_rfl⟩,by as_aux_lemma=>kernel_rfl⟩
theorem Xe:Tryz.checked.prog.funcNamed Rows.fnAppendsRow.func=some 6:=by kernel_rfl
theorem over6:Rows.fnAppendsRow.holds Tryz.pinned (OpenSpec.ofChange Rows.fnAppendsSpec):=
 OpenClaim.holds_of_wide 6 Tryz.f6 rfl rfl rfl rfl rfl rfl rfl ⟨rfl,rfl,rfl,rfl,rfl⟩ rfl rfl rfl rfl rfl Xe Tryz.func6 UU
  (of_decide_eq_true (by kernel_rfl)) (by unfold Func.isWrapper;first | (rw[if_pos (by decide+kernel)];kernel_rfl)| (rw[if_neg (by decide+kernel)];exact⟨rfl,rfl⟩))
  (λos started H enc _=>UT os started H enc)
end Go.Proofs.YtkghndikalnipaaGreat.En
namespace Go.Proofs.YtkghndikalnipaaGreat
theorem appends_holds:Rows.FnAppendsSaid:=En.over6
#print axioms appends_holds
end Go.Proofs.YtkghndikalnipaaGreat
