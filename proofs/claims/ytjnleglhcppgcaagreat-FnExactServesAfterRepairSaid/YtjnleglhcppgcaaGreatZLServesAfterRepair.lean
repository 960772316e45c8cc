/- FnExactServesAfterRepair: the row. -/
import Derived.Test.YtjnleglhcppgcaaGreatRows
import Derived.Test.YtjnleglhcppgcaaGreatZPServes
import Derived.WalkKit
import Derived.SizedLaws
namespace Go.Proofs.YtjnleglhcppgcaaGreat.En
open Go Go.ChangeShapes Go.WideShapes Go.ChangeAt Go.RowKit
theorem own:ownKnob Tryz.prog.godebug=none:=by kernel_rfl
theorem TD:laidOutB Tryz.prog=true:=by kernel_rfl
theorem T3:Fg Tryz.prog Θ [31,3,48] [.st .cluster, .i .i64, .st .op] =true:=by kernel_rfl
set_option maxRecDepth 100000 in
theorem TE (os:Os) (started:os.Started) (H:Type) (enc:TypeId×Value->H):
  ReturnsInHanded {} Tryz.checked os 4 .any (Rows.fnExactServesAfterRepairSpec.pre6 enc Tryz.prog Tryz.f4 Rows.fnExactServesAfterRepairRow.domain false) (Rows.fnExactServesAfterRepairSpec.post enc Tryz.prog Tryz.f4 false true false false):=by
 refine returnsInHanded_of_change_sized (C:=Tryz.checked) own started (by kernel_rfl) Tryz.func4
  (ChangeSpec.witness6 (enc:=enc) (C:=Tryz.checked) false ⟨#[],#[.agg #[.int .i64 0, .slice none 0 0, .slice none 0 0, .slice none 0 0, .int .i64 0, .int .i64 0, .int .i64 0, .int .i64 0, .int .i64 0, .slice none 0 0], .int .i64 0, .agg #[.int .i64 0, .int .i64 0, .int .i64 0, .int .i64 0, .int .i64 0, .int .i64 0]],[]⟩ 8 (by kernel_rfl) (by kernel_rfl) (by kernel_rfl) (by kernel_rfl)) ?_
 intro W base args ds gs before hval0 hW hcnd hsz0 _;have hval: ∀ (j:Nat) t v,Tryz.f4.params[j]? =some t->args[j]? =some v->Value.okWide Tryz.prog W .any base t v:=hval0;have hW':=hW;obtain⟨p,q,hA0,hV,rfl,hfz,hnd⟩:=hW;have hA:DataW.TrodAll enc Tryz.prog W 0 (fun _=>true) true Tryz.f4.params.toList args.toList ds p:=hA0;rw[Tryz.params4] at hA hval;have hA:DataW.TrodAll enc Tryz.prog W 0 (fun _=>true) true [31,3,48] args.toList ds p:=hA;have hA2:=hA;obtain⟨v0,vs0,d0,ds0,p0,q0,_,rfl,rfl,h0,r0⟩:=trodAll_cons hA2;obtain⟨v1,vs1,d1,ds1,p1,q1,_,rfl,rfl,h1,r1⟩:=trodAll_cons r0;obtain⟨v2,vs2,d2,ds2,p2,q2,_,rfl,rfl,h2,r2⟩:=trodAll_cons r1;obtain⟨rfl,rfl,rfl⟩:=trodAll_nil r2;obtain⟨rfl,rfl⟩:=trodVars_none hV;have calls:=OW (τs:= [.st .cluster, .i .i64, .st .op]) OZ uD.ok (fun x hx=>Nr x.1 x.2.1 x.2.2.1 (VV hx.1)) T3 (fun j t v ht hv=>hval j t v (by simpa using ht) (by simpa using hv)) hA;rw[Array.toArray_toList] at calls;refine calls.mono fun e W' ⟨he,bel⟩=> ?_;subst he;exact⟨_,rfl,_,_,_,[],_,[],hW',trodAll_mk1 (shut_bool Tryz.underlying4 _),zF TD bel T3 hA,rfl,bel.frame _,fun h=>by cases h⟩
set_option maxHeartbeats 4000000 in
theorem TF:joinedFacts Tryz.checked.prog 4 Tryz.f4 Rows.fnExactServesAfterRepairSpec Rows.fnExactServesAfterRepairRow=true:=by simp only[joinedFacts,aq];exact⟨⟨⟨⟨⟨⟨⟨⟨⟨⟨⟨⟨⟨⟨⟨⟨⟨⟨⟨⟨⟨⟨⟨⟨⟨⟨⟨⟨⟨⟨⟨by as_aux_lemma=>kernel_rfl,by as_aux_lemma=>kernel_rfl⟩,by as_aux_lemma=>kernel_rfl⟩,by as_aux_lemma=>kernel_rfl⟩,by as_aux_lemma=>kernel_rfl⟩,by as_aux_lemma=>kernel_rfl⟩,by as_aux_lemma=>kernel_rfl⟩,by as_aux_lemma=>kernel_rfl⟩,by as_aux_lemma=>kernel_rfl⟩,by as_aux_lemma=>kernel_rfl⟩,by as_aux_lemma=>kernel_rfl⟩,by as_aux_lemma=>kernel_rfl⟩,by as_aux_lemma=>kernel_rfl⟩,by as_aux_lemma=>kernel_rfl⟩,by as_aux_lemma=>kernel_rfl⟩,by as_aux_lemma=>kernel_rfl⟩,by as_aux_lemma=>kernel_rfl⟩,by as_aux_lemma=>kernel_rfl⟩,by as_aux_lemma=>kernel_rfl⟩,by as_aux_lemma=>kernel_rfl⟩,by as_aux_lemma=>kernel_rfl⟩,by as_aux_lemma=>kernel_rfl⟩,by as_aux_lemma=>kernel_rfl⟩,by as_aux_lemma=>kernel_rfl⟩,by as_aux_lemma=>kernel_rfl⟩,by as_aux_lemma=>kernel_rfl⟩,by as_aux_lemma=>kernel_rfl⟩,by as_aux_lemma=>kernel_rfl⟩,by as_aux_lemma=>kernel_rfl⟩,by as_aux_lemma=>kernel_rfl⟩,by as_aux_lemma=>kernel_rfl⟩,by as_aux_lemma=>kernel_rfl⟩
theorem U3:Tryz.checked.prog.funcNamed Rows.fnExactServesAfterRepairRow.func=some 4:=by kernel_rfl
theorem over4:Rows.fnExactServesAfterRepairRow.holds Tryz.pinned (OpenSpec.ofChange Rows.fnExactServesAfterRepairSpec):=
 OpenClaim.holds_of_wide 4 Tryz.f4 rfl rfl rfl rfl rfl rfl rfl ⟨rfl,rfl,rfl,rfl,rfl⟩ rfl rfl rfl rfl rfl U3 Tryz.func4 TF
  (of_decide_eq_true (by kernel_rfl)) (by unfold Func.isWrapper; first | (rw[if_pos (by decide+kernel)]; kernel_rfl)| (rw[if_neg (by decide+kernel)]; exact⟨rfl,rfl⟩))
  (fun os started H enc _=>TE os started H enc)
end Go.Proofs.YtjnleglhcppgcaaGreat.En
namespace Go.Proofs.YtjnleglhcppgcaaGreat
theorem exactServesAfterRepair_holds:Rows.FnExactServesAfterRepairSaid:=En.over4
#print axioms exactServesAfterRepair_holds
end Go.Proofs.YtjnleglhcppgcaaGreat
