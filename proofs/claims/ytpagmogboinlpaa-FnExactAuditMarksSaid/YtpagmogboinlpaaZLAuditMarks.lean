/- FnExactAuditMarks: the row. -/
import Derived.Test.YtpagmogboinlpaaRows
import Derived.Test.YtpagmogboinlpaaZPAudit
import Derived.WalkKit
import Derived.SizedLaws
namespace Go.Proofs.Ytpagmogboinlpaa.En
open Go Go.ChangeShapes Go.WideShapes Go.ChangeAt Go.RowKit
theorem own:ownKnob Try.prog.godebug=none:=by kernel_rfl
theorem Bv:laidOutB Try.prog=true:=by kernel_rfl
theorem BR:pX Try.prog Θ [22,23] [.ls (.st .mark), .ls (.st .entry)] =true:=by kernel_rfl
set_option maxRecDepth 100000 in
theorem Bw (os:Os) (started:os.Started) (H:Type) (enc:TypeId×Value->H):
  ReturnsInHanded {} Try.checked os 3 .any (Rows.fnExactAuditMarksSpec.pre6 enc Try.prog Try.f3 Rows.fnExactAuditMarksRow.domain false) (Rows.fnExactAuditMarksSpec.post enc Try.prog Try.f3 false true false false):=by
 refine returnsInHanded_of_change_sized (C:=Try.checked) own started (by kernel_rfl) Try.func3
  (ChangeSpec.witness6 (enc:=enc) (C:=Try.checked) false ⟨#[],#[.slice none 0 0, .slice none 0 0],[]⟩ 8 (by kernel_rfl) (by kernel_rfl) (by kernel_rfl) (by kernel_rfl)) ?_
 intro W base args ds gs before hval0 hW hcnd hsz0 _;have hval: ∀ (j:Nat) t v,Try.f3.params[j]? =some t->args[j]? =some v->Value.okWide Try.prog W .any base t v:=hval0;have hW':=hW;obtain⟨p,q,hA0,hV,rfl,hfz,hnd⟩:=hW;have hA:DataW.TrodAll enc Try.prog W 0 (fun _=>true) true Try.f3.params.toList args.toList ds p:=hA0;rw[Try.params3] at hA hval;have hA:DataW.TrodAll enc Try.prog W 0 (fun _=>true) true [22,23] args.toList ds p:=hA;have hA2:=hA;obtain⟨v0,vs0,d0,ds0,p0,q0,_,rfl,rfl,h0,r0⟩:=trodAll_cons hA2;obtain⟨v1,vs1,d1,ds1,p1,q1,_,rfl,rfl,h1,r1⟩:=trodAll_cons r0;obtain⟨rfl,rfl,rfl⟩:=trodAll_nil r1;obtain⟨rfl,rfl⟩:=trodVars_none hV;have calls:=xC (τs:= [.ls (.st .mark), .ls (.st .entry)]) Bk lT.ok (fun x hx=>xO x.1 x.2.1 (zG hx.1) (zG hx.2.1)) BR (fun j t v ht hv=>hval j t v (by simpa using ht) (by simpa using hv)) hA;rw[Array.toArray_toList] at calls;refine calls.mono fun e W' ⟨he,bel⟩=> ?_;subst he;exact⟨_,rfl,_,_,_,[],_,[],hW',trodAll_mk1 (shut_bool Try.underlying4 _),lZ Bv bel BR hA,rfl,bel.frame _,fun h=>by cases h⟩
set_option maxHeartbeats 4000000 in
theorem Bx:joinedFacts Try.checked.prog 3 Try.f3 Rows.fnExactAuditMarksSpec Rows.fnExactAuditMarksRow=true:=by simp only[joinedFacts,an];exact⟨⟨⟨⟨⟨⟨⟨⟨⟨⟨⟨⟨⟨⟨⟨⟨⟨⟨⟨⟨⟨⟨⟨⟨⟨⟨⟨⟨⟨⟨⟨by as_aux_lemma=>kernel_rfl,by as_aux_lemma=>kernel_rfl⟩,by as_aux_lemma=>kernel_rfl⟩,by as_aux_lemma=>kernel_rfl⟩,by as_aux_lemma=>kernel_rfl⟩,by as_aux_lemma=>kernel_rfl⟩,by as_aux_lemma=>kernel_rfl⟩,by as_aux_lemma=>kernel_rfl⟩,by as_aux_lemma=>kernel_rfl⟩,by as_aux_lemma=>kernel_rfl⟩,by as_aux_lemma=>kernel_rfl⟩,by as_aux_lemma=>kernel_rfl⟩,by as_aux_lemma=>kernel_rfl⟩,by as_aux_lemma=>kernel_rfl⟩,by as_aux_lemma=>kernel_rfl⟩,by as_aux_lemma=>kernel_rfl⟩,by as_aux_lemma=>kernel_rfl⟩,by as_aux_lemma=>kernel_rfl⟩,by as_aux_lemma=>kernel_rfl⟩,by as_aux_lemma=>kernel_rfl⟩,by as_aux_lemma=>kernel_rfl⟩,by as_aux_lemma=>kernel_rfl⟩,by as_aux_lemma=>kernel_rfl⟩,by as_aux_lemma=>kernel_rfl⟩,by as_aux_lemma=>kernel_rfl⟩,by as_aux_lemma=>kernel_rfl⟩,by as_aux_lemma=>kernel_rfl⟩,by as_aux_lemma=>kernel_rfl⟩,by as_aux_lemma=>kernel_rfl⟩,by as_aux_lemma=>kernel_rfl⟩,by as_aux_lemma=>kernel_rfl⟩,by as_aux_lemma=>kernel_rfl⟩
theorem Cz:Try.checked.prog.funcNamed Rows.fnExactAuditMarksRow.func=some 3:=by kernel_rfl
theorem over3:Rows.fnExactAuditMarksRow.holds Try.pinned (OpenSpec.ofChange Rows.fnExactAuditMarksSpec):=
 OpenClaim.holds_of_wide 3 Try.f3 rfl rfl rfl rfl rfl rfl rfl ⟨rfl,rfl,rfl,rfl,rfl⟩ rfl rfl rfl rfl rfl Cz Try.func3 Bx
  (of_decide_eq_true (by kernel_rfl)) (by unfold Func.isWrapper; first | (rw[if_pos (by decide+kernel)]; kernel_rfl)| (rw[if_neg (by decide+kernel)]; exact⟨rfl,rfl⟩))
  (fun os started H enc _=>Bw os started H enc)
end Go.Proofs.Ytpagmogboinlpaa.En
namespace Go.Proofs.Ytpagmogboinlpaa
theorem exactAuditMarks_holds:Rows.FnExactAuditMarksSaid:=En.over3
#print axioms exactAuditMarks_holds
end Go.Proofs.Ytpagmogboinlpaa
