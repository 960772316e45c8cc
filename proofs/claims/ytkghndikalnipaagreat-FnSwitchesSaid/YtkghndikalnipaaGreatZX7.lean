import Derived.Test.YtkghndikalnipaaGreatZX6
set_option linter.unusedSimpArgs false
set_option linter.unusedVariables false
namespace Go.Proofs.YtkghndikalnipaaGreat.En
section
open Go
theorem dH{α β:Type}{P:Program}(s:Sem α)(f:α->Sem β):dI P (s >>=f)=(dI P s).bind λa=>dI P (f a):=by
 show dI P (s.bind f)=_
 induction s with
 |pure a=>rfl
 |program k ih=>exact ih P
 | _=>rfl
theorem dK{α:Type}{P:Program}(a:α):dI P (pure a)=some a:=rfl
theorem kf: ∀ {zs:List Value} {a:List Cl},fE zs a=true-> ∃xs:List Value,a=xs.map (λx=>Cl.c (.sc x))
 | [],[],_=>⟨[],rfl⟩
 | .int k n::zs,a,h=>by
   unfold fE at h;split at h
   ·rename_i heq;cases heq
   ·rename_i k1 n1 zs1 k2 n2 cs h1;have hd:=h;cases hk:decide (k1=k2) with
    |false=>rw[hk] at h;cases h
    |true=>rw[hk] at h;obtain⟨xs,hx⟩:=kf (zs:=zs1) (a:=cs) h;exact⟨.int k2 n2::xs,by rw[hx];rfl⟩
   all_goals grind
 | .bool b::zs,a,h=>by
   unfold fE at h;split at h
   ·rename_i heq;cases heq
   ·rename_i h1;cases h1
   ·rename_i b1 zs1 b2 cs h1;obtain⟨xs,hx⟩:=kf (zs:=zs1) (a:=cs) h;exact⟨.bool b2::xs,by rw[hx];rfl⟩
   ·cases h
 | .float _ _::_,_,h=>by simp[fE] at h
 | .complex _ _ _::_,_,h=>by simp[fE] at h
 | .string _::_,_,h=>by simp[fE] at h
 | .pointer _::_,_,h=>by simp[fE] at h
 | .slice _ _ _::_,_,h=>by simp[fE] at h
 | .map _::_,_,h=>by simp[fE] at h
 | .chan _::_,_,h=>by simp[fE] at h
 | .func _ _ _::_,_,h=>by simp[fE] at h
 | .nilFunc::_,_,h=>by simp[fE] at h
 | .iface _ _::_,_,h=>by simp[fE] at h
 | .nilIface::_,_,h=>by simp[fE] at h
 | .agg _::_,_,h=>by simp[fE] at h
 | .tuple _::_,_,h=>by simp[fE] at h
 | [],_::_,h=>by simp[fE] at h
theorem vx(f:AV->Option Value)(hf: ∀v,f (.sc v)=some v): ∀xs:List Value,((xs.map λx=>Cl.c (.sc x)).map Cl.av).mapM f=some xs
 | [] =>rfl
 |x::xs=>by simp only[aO,cF,vx f hf xs];show (f (.sc x)).bind _=_;rw[hf];rfl
theorem vK(xs:List Value):iL (V.v (.agg (xs.map λx=>Cl.c (.sc x)))).av=some (.agg xs.toArray):=by simp only[V.av,V1.av,iL];rw[vx _ (λ_=>rfl)];rfl
theorem dU{P:Program}{t:TypeId}{d:TypeDesc}(h:P.underlying t=some d):dI P (underlying t)=some d:=by simp only[underlying,dH,program,dI,ao,h];rfl
section
variable {ρ:Type} {P:Program} {Θ:fV} {S:TS}
theorem xp(hΘ:ek P Θ){t:TypeId}{x y:V}{κ:Bool->Option ρ}{r:ρ}(h:B6 Θ t x y κ=some r):
  ∃b,κ b=some r/\((∃k a c,x.av= .sc (.int k a)/\y.av= .sc (.int k c)/\b=(a==c))\/
   ((∀k a k' c,¬ (x.av= .sc (.int k a)/\y.av= .sc (.int k' c)))/\ ∃xv yv,iL x.av=some xv/\iL y.av=some yv/\(∀op xo yo,dI P (eqGuard op t xo yo xv yv)=some ())/\dI P (binOp .eql t xv yv)=some (.bool b)/\dI P (binOp .neq t xv yv)=some (.bool (!b)))):=by
 unfold B6 at h;split at h
 ·rename_i k a k' c;split at h
  ·rename_i hk;subst hk;exact⟨_,h,.inl ⟨k,a,c,rfl,rfl,rfl⟩⟩
  ·cases h
 ·rename_i a c;split at h
  ·rename_i ti hti;split at h
   ·rename_i hb;have hu:=(hΘ _ _ hti).bool hb
    have hE:dI P (Op.equal t (.bool a) (.bool c))=some (a==c):=by show dI P (Op.equalIn (9999+1) t (.bool a) (.bool c))=_;rw[Op.equalIn];simp only[dH,dU hu,ao,dK]
    refine⟨_,h,.inr ⟨λk a k' c hc=>by simp[V.av,V1.av,Cl.av,C.av] at hc,.bool a,.bool c,rfl,rfl,λop xo yo=> ?_,?_,?_⟩⟩
    ·cases op<;>simp[eqGuard,dK]<;>rfl
    all_goals grind [binOp,dH,dK]
   ·cases h
  ·cases h
 ·rename_i a c;refine⟨_,h,.inr ⟨λk a k' c hc=>by simp[V.av,V1.av,Cl.av,C.av] at hc,.string a,.string c,rfl,rfl,λop xo yo=> ?_,?_,?_⟩⟩
  ·cases op<;>simp[eqGuard,dK]<;>rfl
  ·simp only[binOp,Op.stringOp,dK];rfl
  ·simp only[binOp,Op.stringOp,dK];rfl
 ·rename_i a c;split at h
  ·rename_i ti hti;obtain⟨h1,h'⟩:=dC h;simp only[ak] at h1;obtain⟨⟨⟨h1,hfl⟩,h2⟩,h3⟩:=h1;split at h'
   ·rename_i b hb;obtain⟨xs,hx⟩:=kf h2;obtain⟨ys,hy⟩:=kf h3;have hok:=hΘ _ _ hti;have hE:=hok.eq h1 a c b xs ys h2 h3 hb hx hy;have hg:=hok.gu h1 hfl;refine⟨_,h',.inr ⟨λk a k' c hc=>by simp[V.av,V1.av] at hc,.agg xs.toArray,.agg ys.toArray,by rw[hx];exact vK xs,by rw[hy];exact vK ys,λop xo yo=> ?_,?_,?_⟩⟩
    ·cases op<;>simp[eqGuard,dH,dK,program,dI,hg]
    all_goals grind [binOp,dH,dK]
   ·cases h'
  ·cases h
 ·cases h
theorem gt{f:IntKind->Int->Int->Option ρ}{x y:V}{r:ρ}(h:V.ints f x y=some r): ∃k a b,x.av= .sc (.int k a)/\y.av= .sc (.int k b)/\f k a b=some r:=by
 unfold V.ints at h;split at h
 ·split at h
  ·rename_i k a k' b hk;subst hk;exact⟨k,a,b,rfl,rfl,h⟩
  ·cases h
 ·cases h
theorem zk(hΘ:ek P Θ){D:iC}{op:BinOp}{t t':TypeId}{x y:Operand}{κ:V->Option ρ}{r:ρ}(h:Bh Θ op t (S.opd x) (S.opd y) κ=some r){dst:Option Tmp}{ty:TypeId}{pos:String}{aft:Array Edge}{gd:Option (Nat×Bool)}:
  ∃v:V,dD D P S.st ⟨dst,.binOp op t x y t',ty,pos,aft,gd⟩=some v.av/\(∀G,v.ok G)/\κ v=some r:=by
 have eqs: ∀ (b:Bool) (xv yv:Value),iL (opd S.st x)=some xv->iL (opd S.st y)=some yv->dI P (eqGuard op t x y xv yv)=some ()->dI P (binOp op t xv yv)=some (.bool b)->
   dL P S.st ⟨dst,.binOp op t x y t',ty,pos,aft,gd⟩=some (.sc (.bool b)):=by
  intro b xv yv h1 h2 h3 h4;unfold dL;rw[if_pos (by simp[Op.operands,h1,h2])];simp only[execOp,h1,h2,aV,dH,h3,h4,ao,dK,CE,gG,if_true]
 cases op with
 |lss=>obtain⟨k,a,b,h1,h2,h3⟩:=gt h;exact⟨_,by simp only[dD,dG,h1,h2,if_true];rfl,λG=>V.ok_sc G _,h3⟩
 |leq=>obtain⟨k,a,b,h1,h2,h3⟩:=gt h;exact⟨_,by simp only[dD,dG,h1,h2,if_true];rfl,λG=>V.ok_sc G _,h3⟩
 |gtr=>obtain⟨k,a,b,h1,h2,h3⟩:=gt h;exact⟨_,by simp only[dD,dG,h1,h2,if_true];rfl,λG=>V.ok_sc G _,h3⟩
 |geq=>obtain⟨k,a,b,h1,h2,h3⟩:=gt h;exact⟨_,by simp only[dD,dG,h1,h2,if_true];rfl,λG=>V.ok_sc G _,h3⟩
 |add=>
  have h:Bd (S.opd x) (S.opd y) κ=some r:=h;unfold Bd at h;split at h
  ·rename_i a b g1 g2;obtain⟨h0,h⟩:=dS h;have hx:iL (opd S.st x)=some (.string a):=by rw[dG,g1];rfl
   have hy:iL (opd S.st y)=some (.string b):=by rw[dG,g2];rfl
   refine⟨_,?_,λG=>V.ok_sc G _,h⟩;simp only[dD,dG,g1,g2];show dL P S.st ⟨dst,.binOp .add t x y t',ty,pos,aft,gd⟩=_
   have hz: ¬ ((a.size+b.size:Nat):Int)>IntKind.i64.max:=by have :IntKind.i64.max=9223372036854775807:=rfl;omega
   have e:dI P (binOp .add t (.string a) (.string b))=some (.string (a++b)):=by simp only[binOp,Op.stringOp,if_neg hz,dK]
   have g:dI P (eqGuard .add t x y (.string a) (.string b))=some ():=rfl;unfold dL;rw[if_pos (by simp[Op.operands,hx,hy])];simp only[execOp,hx,hy,aV,dH,g,e,ao,dK,CE,gG,if_true];rfl
  ·obtain⟨k,a,b,h1,h2,h3⟩:=gt h;exact⟨_,by simp only[dD,dG,h1,h2,if_true];rfl,λG=>V.ok_sc G _,h3⟩
 |sub=>obtain⟨k,a,b,h1,h2,h3⟩:=gt h;exact⟨_,by simp only[dD,dG,h1,h2,if_true];rfl,λG=>V.ok_sc G _,h3⟩
 |mul=>obtain⟨k,a,b,h1,h2,h3⟩:=gt h;exact⟨_,by simp only[dD,dG,h1,h2,if_true];rfl,λG=>V.ok_sc G _,h3⟩
 |eql=>
  have h':B6 Θ t (S.opd x) (S.opd y) (λr=>κ (V.sc (.bool r)))=some r:=h;obtain⟨b,h1,h2⟩:=xp hΘ h';refine⟨_,?_,λG=>V.ok_sc G _,h1⟩;rcases h2 with ⟨k,a,c,e1,e2,rfl⟩| ⟨hn,xv,yv,e1,e2,e3,e4,e5⟩
  ·simp only[dD,dG,e1,e2,if_true];rfl
  ·simp only[dD];split
   ·grind [dG]
   ·exact eqs b xv yv (by rw[dG];exact e1) (by rw[dG];exact e2) (e3 _ _ _) e4
 |neq=>
  have h':B6 Θ t (S.opd x) (S.opd y) (λr=>κ (V.sc (.bool (!r))))=some r:=h;obtain⟨b,h1,h2⟩:=xp hΘ h';refine⟨_,?_,λG=>V.ok_sc G _,h1⟩;rcases h2 with ⟨k,a,c,e1,e2,rfl⟩| ⟨hn,xv,yv,e1,e2,e3,e4,e5⟩
  ·simp only[dD,dG,e1,e2,if_true];rfl
  ·simp only[dD];split
   ·grind [dG]
   ·exact eqs (!b) xv yv (by rw[dG];exact e1) (by rw[dG];exact e2) (e3 _ _ _) e5
 |quo=>
  have h':V.ints (λk a b=>if b=0 then none else κ (V.sc (.int k (k.wrap (a.tdiv b))))) (S.opd x) (S.opd y)=some r:=h;obtain⟨k,a,b,h1,h2,h3⟩:=gt h';split at h3
  ·cases h3
  ·rename_i hb;refine⟨_,?_,λG=>V.ok_sc G _,h3⟩;have hx:iL (opd S.st x)=some (.int k a):=by rw[dG,h1];rfl
   have hy:iL (opd S.st y)=some (.int k b):=by rw[dG,h2];rfl
   simp only[dD];unfold dL;rw[if_pos (by simp[Op.operands,hx,hy])]
   have e:dI P (binOp .quo t (.int k a) (.int k b))=some (.int k (k.wrap (a.tdiv b))):=by simp only[binOp,ne_eq,not_true,if_false,Op.intDiv,if_neg hb,dK]
   have e2:dI P (execOp (λx=>(iL (opd S.st x)).getD undef) ⟨dst,.binOp .quo t x y t',ty,pos,aft,gd⟩)=some (.value (.int k (k.wrap (a.tdiv b)))):=by show dI P (do pure (Next.value (<-(do eqGuard .quo t x y ((iL (opd S.st x)).getD undef) ((iL (opd S.st y)).getD undef);binOp .quo t ((iL (opd S.st x)).getD undef) ((iL (opd S.st y)).getD undef)))))=_;rw[hx,hy];have g:dI P (eqGuard .quo t x y (.int k a) (.int k b))=some ():=rfl;simp only[dH,aV,g,e,ao,dK]
   rw[e2];rfl
 |rem=>
  have h':V.ints (λk a b=>if b=0 then none else κ (V.sc (.int k (a.tmod b)))) (S.opd x) (S.opd y)=some r:=h;obtain⟨k,a,b,h1,h2,h3⟩:=gt h';split at h3
  ·cases h3
  ·rename_i hb;refine⟨_,?_,λG=>V.ok_sc G _,h3⟩;have hx:iL (opd S.st x)=some (.int k a):=by rw[dG,h1];rfl
   have hy:iL (opd S.st y)=some (.int k b):=by rw[dG,h2];rfl
   simp only[dD];unfold dL;rw[if_pos (by simp[Op.operands,hx,hy])]
   have e:dI P (binOp .rem t (.int k a) (.int k b))=some (.int k (a.tmod b)):=by simp only[binOp,ne_eq,not_true,if_false,Op.intDiv,if_neg hb,dK]
   have e2:dI P (execOp (λx=>(iL (opd S.st x)).getD undef) ⟨dst,.binOp .rem t x y t',ty,pos,aft,gd⟩)=some (.value (.int k (a.tmod b))):=by show dI P (do pure (Next.value (<-(do eqGuard .rem t x y ((iL (opd S.st x)).getD undef) ((iL (opd S.st y)).getD undef);binOp .rem t ((iL (opd S.st x)).getD undef) ((iL (opd S.st y)).getD undef)))))=_;rw[hx,hy];have g:dI P (eqGuard .rem t x y (.int k a) (.int k b))=some ():=rfl;simp only[dH,aV,g,e,ao,dK]
   rw[e2];rfl
 | _=>simp[Bh] at h
end
end
section
open Go
theorem rG{G:List (Option dJ)}: ∀ (l:List V) (cs:List Cl),(∀v∈l,v.ok G)->rF l=some cs->l.map V.av=cs.map Cl.av/\ ∀c∈cs,c.ok G
 | [],cs,_,h=>by simp_all [rF]
 |v::l,cs,hl,h=>by
  unfold rF at h;split at h
  ·rename_i heq;cases heq
  ·rename_i c l' heq;cases heq;split at h
   ·rename_i r hr;simp only[af] at h;subst h;obtain⟨h1,h2⟩:=rG l r (λv hv=>hl v (aI _ hv)) hr;refine⟨by simp only[aO,h1];rfl,λx hx=> ?_⟩;rcases aZ.1 hx with rfl|hx
    ·exact hl _ aK
    ·exact h2 x hx
   ·cases h
  ·cases h
section
variable {ρ:Type} {P:Program} {Θ:fV} {S:TS} {D:iC}
theorem mD(hΘ:ek P Θ)(hS:S.ok){o:Oper}{κ:V->TS->Option ρ}{r:ρ}(h:lq Θ S o κ=some r):
  ∃v S',dD D P S.st o=some v.av/\S'.st=S.st/\S'.ok/\S'.gh=S.gh/\v.ok S.gh/\κ v S'=some r:=by
 have ok: ∀x,(S.opd x).ok S.gh:=λx=>fZ hS x;have done: ∀ {v:V},dD D P S.st o=some v.av->v.ok S.gh->κ v S=some r-> ∃v S',dD D P S.st o=some v.av/\S'.st=S.st/\S'.ok/\S'.gh=S.gh/\v.ok S.gh/\κ v S'=some r:=λh1 h2 h3=>⟨_,S,h1,rfl,hS,rfl,h2,h3⟩
 obtain⟨dst,op,ty,pos,aft,gd⟩:=o;unfold lq at h;cases op with
 |move x=>grind [dD,dG]
 |assign x=>grind [dD,dG]
 |pick c a b=>
  simp only at h;obtain⟨t,S1,h1,h2,h3,h4,h⟩:=nQ hS h;cases t with
  |true=>exact⟨_,S1,by simp only[dD,h1,if_true];rw[<-h2,dG],h2,h3,h4,by rw[<-h4];exact fZ h3 _,h⟩
  |false=>exact⟨_,S1,by simp only[dD,h1,aQ,if_false];rw[<-h2,dG],h2,h3,h4,by rw[<-h4];exact fZ h3 _,h⟩
 |load t a=>grind [sB,dD,dG]
 |nilCheck x=>
  simp only at h;split at h<;>rename_i hx
  ·exact done (by simp only[dD,dG,hx];rfl) (by rw[<-hx];exact ok x) h
  ·exact done (by simp only[dD,dG,hx];rfl) (by rw[<-hx];exact ok x) h
  ·exact done (by simp only[dD,dG,hx];rfl) (by rw[<-hx];exact ok x) h
  ·exact done (by simp only[dD,dG,hx];rfl) (by rw[<-hx];exact ok x) h
  ·exact done (by simp only[dD,dG,hx];rfl) (by rw[<-hx];exact ok x) h
  ·cases h
 |fieldAddr t x k=>
  simp only at h;split at h
  ·rename_i ti hti;split at h
   ·rename_i off n ag hk;have hfd:=(hΘ _ _ hti).fd k;rw[hk] at hfd;cases hn:Nat.beq n 0 with
    |true=>rw[hn] at h;cases h
    |false=>
     rw[hn] at h;have hn': ¬n=0:=by intro h0;subst h0;cases hn
     simp only[cond_false] at h;split at h<;>rename_i hx
     ·refine done ?_ ?_ h
      ·simp only[dD,hfd,ao,dG,hx];rw[if_neg hn'];rfl
      ·trivial
     ·refine done ?_ ?_ h
      ·simp only[dD,hfd,ao,dG,hx];rw[if_neg hn'];rfl
      ·have:=ok x;rw[hx] at this;exact this
     ·refine done ?_ ?_ h
      ·simp_all [dD,dG,V.av,V1.av,Cl.av]
      ·trivial
     ·cases h
   ·cases h
  ·cases h
 |field t x k=>
  simp only at h;split at h
  ·rename_i ti hti;split at h
   ·rename_i off n ag hk;have hfd:=(hΘ _ _ hti).fd k;rw[hk] at hfd;split at h
    ·rename_i cs hx;obtain⟨h1,h⟩:=dC h;simp only[ak] at h1;have h2:off+n<=cs.length:=ax h1.1;have h3:0<n:=ax h1.2;have hcs:=ok x;rw[hx] at hcs;obtain⟨v,h4,h5,h⟩:=xU (G:=S.gh) (λc hc=>hcs c (bF (bS hc))) h
     simp_all [dD,dG,V.av,V1.av]
    ·cases h
   ·cases h
  ·cases h
 |indexAddr t x ix=>
  simp only at h;split at h
  ·rename_i ti hti;split at h
   ·rename_i e he;obtain⟨el,g1,g2,_⟩:=(hΘ _ _ hti).el e he;obtain⟨i,h1,h⟩:=ji h;split at h
    ·rename_i a hx;have ha:=ok x;rw[hx] at ha;obtain⟨c,h2,h3,h⟩:=zY ha h;refine done ?_ ?_ h
     ·simp only[dD,g1,ao,dG,h1,hx,g2];exact h2
     ·exact h3
    ·cases h
   ·cases h
  ·cases h
 |build t parts=>
  simp only at h;split at h
  ·rename_i ti hti;obtain⟨h1,h⟩:=dC h;split at h
   ·rename_i cs hcs;have hok:=hΘ _ _ hti
    obtain⟨g1,g2⟩:=zo (G:=S.gh) _ _ _ _ (λc hc=>by
     obtain⟨v,_,rfl⟩:=aG.1 hc;exact uX _ _) (λy hy=>by
     grind) hcs
    refine done ?_ ?_ h
    ·simp only[dD,hok.pl h1,hok.ze,ao]
     have e1:ti.ty.zvs.map nD=(ti.ty.zvs.map cC).map Cl.av:=by rw[ba];exact aE λv _=>(gT v).symm
     have e2:parts.toList.map (λx=>(x.1,opd S.st x.2))=(parts.toList.map λx=>(x.1,S.opd x.2)).map λx=>(x.1,x.2.av):=by rw[ba];exact aE λx _=>by simp[dG]
     rw[e1,e2,g1];rfl
    ·exact g2
   ·cases h
  ·cases h
 |slice t x lo hi mx=>
  cases mx with
  |some m=>simp at h
  |none=>
   simp only at h;split at h
   ·rename_i ti hti;split at h
    ·rename_i e he;obtain⟨el,g1,g2,_⟩:=(hΘ _ _ hti).el e he;split at h
     ·rename_i a hx;have ha:=ok x;rw[hx] at ha;obtain⟨n,h1,h⟩:=vq ha h;obtain⟨l,h2,h⟩:=pJ h;obtain⟨m,h3,h⟩:=pJ h;obtain⟨c,h4,h5,h⟩:=zA ha h;refine done ?_ ?_ h
      ·simp only[dD,dG,hx];split
       ·rename_i s hs;have hs':a.av= .sc (.string s):=hs;rw[hs'] at h1;cases h1
       ·show (i8 P t).bind _=_;rw[g1];simp only[ao];show (jv a.av).bind _=_;rw[h1];simp only[ao,h2,h3,g2];exact h4
      ·exact h5
     ·cases h
    ·cases h
   ·cases h
 |extract x k=>
  simp only at h;split at h
  ·rename_i vs hx;split at h
   ·rename_i v hv;have hvs:=ok x;rw[hx] at hvs;rw[eg] at hv;refine done ?_ ?_ h
    ·simp only[dD,dG,hx,V.av,aw,hv,aF]
    ·exact hvs v (aA hv)
   ·cases h
  ·cases h
 |makeFunc fn first caps=>
  cases fn with
  |func f=>
   simp only at h;obtain⟨h1,h⟩:=dC h;split at h
   ·rename_i cs hcs
    obtain⟨g1,g2⟩:=rG (G:=S.gh) _ _ (λv hv=>by grind) hcs
    refine done ?_ ?_ h
    ·simp only[dD,h1,if_true]
     have e:caps.toList.map (opd S.st)=(caps.toList.map S.opd).map V.av:=by rw[ba];exact aE λx _=>dG x
     rw[e,g1];rfl
    ·exact g2
   ·cases h
  | _=>simp at h
 |unOp op t x=>
  cases op with
  |not=>
   simp only at h;split at h
   ·rename_i b hx;refine done ?_ ?_ h
    ·simp only[dD,dG,hx];rfl
    ·trivial
   ·cases h
  |neg=>
   simp only at h;split at h
   ·rename_i k n hx;refine done ?_ (V.ok_sc _ _) h;have hxv:iL (opd S.st x)=some (.int k n):=by rw[dG,hx];rfl
    simp only[dD];unfold dL;rw[if_pos (by simp[Op.operands,hxv])]
    have e2:dI P (execOp (λx=>(iL (opd S.st x)).getD undef) ⟨dst,.unOp .neg t x,ty,pos,aft,gd⟩)=some (.value (.int k (k.wrap (0-n)))):=by show dI P (do pure (Next.value (<-Go.Op.unary .neg ((iL (opd S.st x)).getD undef))))=_;rw[hxv];rfl
    rw[e2];rfl
   ·cases h
  | _=>simp at h
 |binOp op t x y t'=>simp only at h;obtain⟨v,h1,h2,h⟩:=zk (D:=D) (t':=t') (dst:=dst) (ty:=ty) (pos:=pos) (aft:=aft) (gd:=gd) hΘ h;exact done h1 (h2 _) h
 |call c=>
  obtain⟨cl,as,ts⟩:=c;cases cl with
  |value f=>simp at h
  |invoke a b=>simp at h
  |builtin b=>
   cases b with
   |cap=>
    simp only at h;split at h
    ·rename_i x t e1 e2;split at h
     ·rename_i ti hti;split at h
      ·rename_i e he;obtain⟨el,g1,g2,_⟩:=(hΘ _ _ hti).el e he;split at h
       ·rename_i hx;refine done ?_ ?_ h
        ·simp only[dD,e1,e2,g1,Option.isSome_some,if_true,dG,hx];rfl
        ·trivial
       ·cases h
      ·cases h
     ·cases h
    ·cases h
   |len=>
    simp only at h;split at h
    ·rename_i x t e1 e2;split at h
     ·rename_i ti hti;split at h
      ·rename_i e he;obtain⟨el,g1,g2,_⟩:=(hΘ _ _ hti).el e he;split at h
       ·rename_i a hx;have ha:=ok x;rw[hx] at ha;obtain⟨n,h1,h⟩:=vq ha h;refine done ?_ ?_ h
        ·simp only[dD,e1,e2,g1,Option.isSome_some,if_true,dG,hx];show (jv a.av).map _=_;rw[h1];rfl
        ·trivial
       ·cases h
      ·rename_i hs;split at h
       ·rename_i s hx;refine done ?_ (V.ok_sc _ _) h
        have hus:P.underlying t=some .string:=by
         have:=(hΘ _ _ hti).str;rw[hs] at this;unfold mG at this;split at this
         ·assumption
         ·cases this
        have hxv:iL (opd S.st x)=some (.string s):=by rw[dG,hx];rfl
        have he:i8 P t=none:=by simp[i8,hus]
        have ea:as= #[x] :=by rw[<-Array.toArray_toList (xs:=as),e1]
        have et:ts= #[t] :=by rw[<-Array.toArray_toList (xs:=ts),e2]
        subst ea et;simp only[dD,he,Option.isSome_none];rw[if_neg (by simp)];unfold dL;rw[if_pos (by simp[Op.operands,Call.operands,hxv])]
        have e2:dI P (execOp (λx=>(iL (opd S.st x)).getD undef) ⟨dst,.call ⟨.builtin .len,#[x],#[t]⟩,ty,pos,aft,gd⟩)=some (.value (.int .i64 s.size)):=by show dI P (do let d <-resolve _ _ ty;invoke d.target d.args)=_;simp only[dH,resolve,dK,ao,invoke,builtin,List.map_toArray,aO,ct,Builtin.len_,cf,aJ,dU hus,hxv,aV];rfl
        rw[e2];rfl
       ·cases h
      ·cases h
     ·cases h
    ·cases h
   |max=>
    simp only at h;split at h
    ·rename_i x y e1;obtain⟨k,a,b,h1,h2,h⟩:=gt h;refine done ?_ (V.ok_sc _ _) h;simp only[dD,e1,aO,ct,dG,h1,h2];rfl
    ·cases h
   |min=>
    simp only at h;split at h
    ·rename_i x y e1;obtain⟨k,a,b,h1,h2,h⟩:=gt h;refine done ?_ (V.ok_sc _ _) h;simp only[dD,e1,aO,ct,dG,h1,h2];rfl
    ·cases h
   | _=>simp at h
 |convert s d x=>
  simp only at h;split at h
  ·rename_i si di hs hd;split at h
   ·rename_i k' hk;split at h
    ·rename_i k n hx;refine done ?_ (V.ok_sc _ _) h;have hud:=(hΘ _ _ hd).int _ hk
     obtain⟨ds,hus⟩: ∃ds,P.underlying s=some ds:=by
      have:=(hΘ _ _ hs).ag;unfold pa at this
      grind
     have hxv:iL (opd S.st x)=some (.int k n):=by rw[dG,hx];rfl
     simp only[dD];unfold dL;rw[if_pos (by simp[Op.operands,hxv])]
     have e:dI P (Go.convert s d (.int k n))=some (.int k' (k'.wrap n)):=by unfold Go.convert;simp only[dH,dU hus,dU hud,ao];cases ds<;>rfl
     have e2:dI P (execOp (λx=>(iL (opd S.st x)).getD undef) ⟨dst,.convert s d x,ty,pos,aft,gd⟩)=some (.value (.int k' (k'.wrap n))):=by show dI P (do pure (Next.value (<-Go.convert s d ((iL (opd S.st x)).getD undef))))=_;rw[hxv];simp only[dH,aV,e,ao,dK]
     rw[e2];rfl
    ·cases h
   ·cases h
  ·cases h
 |index t x ix=>
  simp only at h;split at h
  ·rename_i ti hti;split at h
   ·rename_i hs;split at h
    ·rename_i s k i hx hi;unfold iteP at h;split at h
     ·rename_i h0;obtain⟨b,hb,h⟩:=ah.1 h;refine done ?_ (V.ok_sc _ _) h
      have hus:P.underlying t=some .string:=by
       have:=(hΘ _ _ hti).str;rw[hs] at this;unfold mG at this;split at this
       ·assumption
       ·cases this
      have hxv:iL (opd S.st x)=some (.string s):=by rw[dG,hx];rfl
      have hiv:iL (opd S.st ix)=some (.int k i):=by rw[dG,hi];rfl
      have hxa:opd S.st x= .sc (.string s):=by rw[dG,hx];rfl
      simp only[dD,hxa];unfold dL;rw[if_pos (by simp[Op.operands,hxv,hiv])]
      have e:dI P (Instr.index t (.string s) (.int k i))=some (.int .u8 b.toNat):=by unfold Instr.index;simp only[dH,asIntOf,dK,ao,dU hus];rw[if_pos h0,hb];rfl
      have e2:dI P (execOp (λx=>(iL (opd S.st x)).getD undef) ⟨dst,.index t x ix,ty,pos,aft,gd⟩)=some (.value (.int .u8 b.toNat)):=by show dI P (do pure (Next.value (<-Instr.index t ((iL (opd S.st x)).getD undef) ((iL (opd S.st ix)).getD undef))))=_;rw[hxv,hiv];simp only[dH,aV,e,ao,dK]
      rw[e2];rfl
     ·cases h
    ·cases h
   ·cases h
  ·cases h
 | _=>simp at h
end
end
section
open Go
theorem ft{G:List (Option dJ)}{x:Option dJ}(r:Nat):dX (G++ [x]) r=if r=G.length then x else dX G r:=by
 unfold dX;rw[eg,eg]
 grind
theorem md{G:List (Option dJ)}(l:List dJ)(r:Nat):dX (G++l.map some) r=if G.length<=r then l[r-G.length]? else dX G r:=by
 unfold dX;rw[eg,eg]
 grind
theorem me{G:List (Option dJ)}{r:Nat}(h:G.length<=r):dX G r=none:=by unfold dX;rw[eg,cx h];rfl
theorem jh{G:List (Option dJ)}{r:Nat}{tr:dJ}(h:dX G r=some tr):r<G.length:=by grind [me]
theorem gM{G:List (Option dJ)}{x:Option dJ}(q r:Nat)(hq:q<G.length\/x=none):dX (dW G q x) r=if r=q then x else dX G r:=by
 unfold dX;rw[eg,eg,eG,bH]
 grind
theorem eL.app(G:List (Option dJ))(x:Option dJ):eL G (G++ [x]):=⟨by simp,λr tr hr h=>by rw[ft,if_neg (by omega)] at h;exact⟨tr,h,rfl⟩⟩
theorem eL.apps(G:List (Option dJ))(l:List dJ):eL G (G++l.map some):=⟨by simp,λr tr hr h=>by simp_all [md,if_neg]⟩
theorem eL.gone(G:List (Option dJ))(q:Nat):eL G (dW G q none):=⟨by rw[eG];simp,λr tr hr h=>by simp_all [gM]⟩
theorem eL.put{G:List (Option dJ)}{q:Nat}{tr tr':dJ}(h:dX G q=some tr)(hl:tr'.l.length=tr.l.length):eL G (dW G q (some tr')):=⟨by rw[eG];simp,λr t hr h'=>by
 rw[gM q r (.inl (jh h))] at h'
 grind⟩
theorem TS.ok_gh{S:TS}(hS:S.ok){G:List (Option dJ)}(hG:eL S.gh G): ({ S with gh:=G }:TS).ok:=
 ⟨λx hx=>V.ok_mono hG (hS.env x hx),λcs hcs c hc=>Cl.ok_mono hG (hS.bx cs hcs c hc)⟩
theorem oT(S:TS)(x:dJ): ({ S with gh:=S.gh++ [some x] }:TS).st= { S.st with gh:=dQ S.st.gh S.gh.length (some x.tree),ng:=S.gh.length+1 } :=by
 unfold TS.st;simp only[bL,cy]
 congr 1
 funext r
 rw[ft];unfold dQ;split<;>rfl
theorem lU(S:TS)(q:Nat): ({ S with gh:=dW S.gh q none }:TS).st= { S.st with gh:=dQ S.st.gh q none } :=by
 unfold TS.st;simp only;have : (dW S.gh q none).length=S.gh.length:=by rw[eG];simp
 rw[this]
 congr 1
 funext r
 rw[gM q r (.inr rfl)];unfold dQ;split<;>rfl
theorem lp(S:TS){q:Nat}(x:dJ)(hq:q<S.gh.length): ({ S with gh:=dW S.gh q (some x) }:TS).st= { S.st with gh:=dQ S.st.gh q (some x.tree) } :=by
 unfold TS.st;simp only;have : (dW S.gh q (some x)).length=S.gh.length:=by rw[eG];simp
 rw[this]
 congr 1
 funext r
 rw[gM q r (.inl hq)];unfold dQ;split<;>rfl
theorem uH(S:TS)(cs:List Cl): ({ S with bx:=S.bx++ [cs] }:TS).st= { S.st with bx:=dQ S.st.bx S.bx.length (some (cs.map Cl.av)),nb:=S.bx.length+1 } :=by
 unfold TS.st;simp only[bL,cy]
 congr 1
 funext n
 unfold dQ;simp only[eg]
 grind
theorem wN(S:TS){b:Nat}(cs:List Cl)(hb:b<S.bx.length): ({ S with bx:=dW S.bx b cs }:TS).st= { S.st with bx:=dQ S.st.bx b (some (cs.map Cl.av)) } :=by
 unfold TS.st;have : (dW S.bx b cs).length=S.bx.length:=by rw[eG];simp
 simp only;rw[this]
 congr 1
 funext n
 unfold dQ;simp only[eg];rw[eG,bH]
 grind
theorem yR(t:Ty): (t.zvs.map cC).map Cl.av=t.zvs.map pb:=by
 cases t with
 |st n=>cases n<;>rfl
 | _=>rfl
theorem yS(G:List (Option dJ))(t:Ty): ∀c∈t.zvs.map cC,c.ok G:=λc hc=>by obtain⟨v,_,rfl⟩:=aG.1 hc;exact uX _ _
def jD[dE](P:Program)(g:FuncId)(args:List V1)(b:Bool)(res:V)(out:List dJ):Prop:=
 ∃ (t:Ty) (x:t.D) (as:List V1),args=uT t x::as/\eV P g ((wF t x 0).av::as.map V1.av) ((hU (t.flat x)).map dJ.tree) (bif b then (hU (t.flat x)).length else 0) res.av (out.map dJ.tree)
def uR[dE](P:Program)(g:FuncId)(args:List V1)(res:V)(out:List dJ):Prop:=
 ∃ (el:Ty) (l:List el.D) (as:List V1),args= .cl (.c (.ls el l))::as/\eV P g (.ptrT ⟨0,[]⟩ el.width 0 0::as.map V1.av) [.sl el.width (l.map el.row)] 1 res.av (out.map dJ.tree)
structure kD [dE] (P:Program) (f:Nat) (args:List V1) (res:V) (out:List dJ):Prop where
 fn:f<eT->ig P f (args.map V1.av) [] res.av (out.map dJ.tree)
 io: ∀g,f=nk g->g<eT->jD P g args true res out
 mv: ∀g,f=pA g->g<eT->jD P g args false res out
 pt: ∀g,f=oE g->g<eT->uR P g args res out
theorem xI(g:Nat): ¬nk g<eT:=Nat.not_lt.2 (Nat.le_add_left eT g)
theorem pz{g g':Nat}(hg:g<eT)(hg':g'<eT):nk g≠pA g'/\nk g≠oE g'/\pA g≠oE g'/\ ¬pA g<eT/\ ¬oE g<eT:=by grind [nk,pA,oE,vC,sK]
theorem kD.of_fn[dE]{P:Program}{f:Nat}{args:List V1}{res:V}{out:List dJ}(h:ig P f (args.map V1.av) [] res.av (out.map dJ.tree))(hf:f<eT):kD P f args res out:=
 ⟨λ_=>h,λg e _=>absurd (e ▸ hf) (xI g),λg e hg=>absurd (e ▸ hf) (pz hg hg).2.2.2.1,λg e hg=>absurd (e ▸ hf) (pz hg hg).2.2.2.2⟩
theorem kD.of_io[dE]{P:Program}{g:Nat}{args:List V1}{res:V}{out:List dJ}(h:jD P g args true res out)(hg:g<eT):kD P (nk g) args res out:=
 ⟨λh'=>absurd h' (xI g),λg' e _=>by rw[<-dp (e:g+eT=g'+eT)];exact h,λg' e hg'=>absurd e (pz hg hg').1,λg' e hg'=>absurd e (pz hg hg').2.1⟩
theorem kD.of_mv[dE]{P:Program}{g:Nat}{args:List V1}{res:V}{out:List dJ}(h:jD P g args false res out)(hg:g<eT):kD P (pA g) args res out:=
 ⟨λh'=>absurd h' (pz hg hg).2.2.2.1,λg' e hg'=>absurd e.symm (pz hg' hg).1,λg' e _=>by rw[<-dp (e:g+sK=g'+sK)];exact h,λg' e hg'=>absurd e (pz hg hg').2.2.1⟩
theorem kD.of_pt[dE]{P:Program}{g:Nat}{args:List V1}{res:V}{out:List dJ}(h:uR P g args res out)(hg:g<eT):kD P (oE g) args res out:=
 ⟨λh'=>absurd h' (pz hg hg).2.2.2.2,λg' e hg'=>absurd e.symm (pz hg' hg).2.1,λg' e hg'=>absurd e.symm (pz hg' hg).2.2.1,λg' e _=>by rw[<-dp (e:g+vC=g'+vC)];exact h⟩
theorem uR.get[dE]{P:Program}{g:FuncId}{el:Ty}{l:List el.D}{as:List V1}{res:V}{out:List dJ}(h:uR P g (.cl (.c (.ls el l))::as) res out):eV P g (.ptrT ⟨0,[]⟩ el.width 0 0::as.map V1.av) [.sl el.width (l.map el.row)] 1 res.av (out.map dJ.tree):=by obtain⟨t,x,as',he,h⟩:=h;cases he;exact h
theorem jD.get[dE]{P:Program}{g:FuncId}{el:Ty}{l:List el.D}{as:List V1}{b:Bool}{res:V}{out:List dJ}(h:jD P g (.cl (.c (.ls el l))::as) b res out):eV P g (.own ⟨0,[]⟩ el.width 0 l.length::as.map V1.av) [.sl el.width (l.map el.row)] (bif b then 1 else 0) res.av (out.map dJ.tree):=by
 obtain⟨t,x,as',he,h⟩:=h;simp only[bu] at he;obtain⟨he,rfl⟩:=he;cases t with
 |ls el'=>have he':V1.cl (.c (.ls el l))= .cl (.c (.ls el' x)):=he;cases he';exact h
 |st n=>cases n<;>cases he
 | _=>cases he
theorem jD.getA[dE]{P:Program}{g:FuncId}{ys:List C}{as:List V1}{res:V}{out:List dJ}(h:jD P g (.agg (ys.map .c)::as) true res out):eV P g (.agg ((lf ys 0).map Cl.av)::as.map V1.av) ((hU ys).map dJ.tree) (hU ys).length res.av (out.map dJ.tree):=by
 obtain⟨t,x,as',he,h⟩:=h;simp only[bu] at he;obtain⟨he,rfl⟩:=he;cases t with
 |st n=>
  have he':V1.agg (ys.map Cl.c)= .agg ((n.flat x).map Cl.c):=he;simp only[V1.agg.injEq] at he'
  have :ys=n.flat x:=by
   have hi: ∀ (l m:List C),l.map Cl.c=m.map Cl.c->l=m:=by
    intro l
    induction l with
    |nil=>simp_all
    |cons a l ih=>intro m hm;cases m<;>grind
   exact hi _ _ he'
  subst this;exact h
 | _=>cases he
def fC[dE](P:Program)(Y:lz):Prop:=∀f args ρ κ r,Y f args ρ κ=some r-> ∃res out,kD P f args res out/\res.ok (out.map some)/\κ res out=some r
section
variable {ρ:Type} {P:Program} {Θ:fV} {S:TS}
theorem qK{α β:Type}{f:α->(β->Option ρ)->Option ρ}{R:α->β->Prop}(hf: ∀a κ r,f a κ=some r-> ∃b,R a b/\κ b=some r):
  ∀ (l:List α) (κ:List β->Option ρ) (r:ρ),sI f l κ=some r-> ∃bs,l.length=bs.length/\(∀ (k:Nat) (a:α) (b:β),l[k]? =some a->bs[k]? =some b->R a b)/\κ bs=some r:=by
 intro l
 induction l with
 |nil=>intro κ r h;exact⟨[],rfl,λk a b ha=>by simp at ha,h⟩
 |cons a l ih=>
  intro κ r h;obtain⟨b,h1,h⟩:=hf a _ r h
  grind
theorem xT{α β γ:Type}{f:α->γ}{g:β->γ}{l:List α}{bs:List β}(h1:l.length=bs.length)(h2: ∀ (k:Nat) (a:α) (b:β),l[k]? =some a->bs[k]? =some b->f a=g b):l.map f=bs.map g:=by
 apply bA
 grind
theorem jY{p:dM}{sz lo len:Nat}{t:Ty}{l:List t.D}(hc: (Cl.own p sz lo len true).ok S.gh)(h:p.l= [] ->dX S.gh p.r=some ⟨t,l,none⟩):p.l= [] /\lo=0/\len=l.length:=by
 obtain⟨_,h2⟩:=hc
 grind
theorem oF(hS:S.ok){et:Option Ty}{c:Cl}(hc:c.ok S.gh){κ:Cl->Option ρ}{r:ρ}(h:yU S et c κ=some r): ∃c',(∀sz,(∀t,et=some t->sz=t.width)->eC S.st sz c.av=c'.av)/\κ c'=some r:=by
 unfold yU at h;split at h
 ·rename_i x;exact⟨_,λsz _=>by cases x<;>rfl,h⟩
 ·split at h
  ·rename_i t;exact⟨_,λsz hsz=>by rw[hsz t rfl];rfl,h⟩
  ·cases h
 ·rename_i p sz lo len;obtain⟨t,l,h1,h2,h⟩:=eE h;obtain⟨h3,h⟩:=dC h;have h3:t.width=sz:=an h3;obtain⟨h4,h5,h6⟩:=jY hc h2;refine⟨_,λsz' _=> ?_,h⟩
  simp_all [Cl.av,eC,fo,C.av,bW]
 ·rename_i p sz lo len;obtain⟨t,l,h1,h2,h⟩:=eE h;obtain⟨h3,h⟩:=dC h;have h3:t.width=sz:=an h3;obtain⟨h4,h⟩:=dS h;refine⟨_,λsz' _=> ?_,h⟩
  simp_all [Cl.av,eC,fo,C.av]
 ·exact⟨_,λ_ _=>rfl,h⟩
 ·rename_i p sz i j;obtain⟨t,l,h1,h2,h⟩:=eE h;obtain⟨h3,h⟩:=dC h;have h3:t.width=sz:=an h3;obtain⟨x,hx,h⟩:=ah.1 h;refine⟨_,λsz' _=> ?_,h⟩;simp only[Cl.av,eC,<-h3,fo h1];have e1: (l.map t.row).getD i [] =t.row x:=by simp[aB,hx]
  rw[e1,t.row_flat,cA]
 ·rename_i b j;split at h
  ·rename_i cs hcs
   obtain⟨bs,h1,h2,h⟩:=qK (R:=λ(c:Cl) (x:C)=>c.ok S.gh->T.ofAV S.st 0 c.av=x.tree) (λc κ r h=>by
    split at h
    ·rename_i x;exact⟨x,λ_=>by cases x<;>rfl,h⟩
    ·rename_i p sz lo len;obtain⟨t,l,h1,h2,h⟩:=eE h;obtain⟨h3,h⟩:=dC h;have h3:t.width=sz:=an h3;refine⟨_,λhc=> ?_,h⟩;obtain⟨h4,h5,h6⟩:=jY hc h2
     simp_all [Cl.av,T.ofAV,fo,C.tree,bW]
    ·cases h) _ _ _ h
   refine⟨_,λsz _=> ?_,h⟩;simp only[Cl.av,eC,TS.st,hcs,aF];rw[<-cA,ba]
   congr 1
   refine xT h1 (λk a b ha hb=>h2 k a b ha hb ?_);rw[eg] at hcs;exact hS.bx cs (aA hcs) a (bF (aA ha))
  ·cases h
 ·exact⟨_,λ_ _=>rfl,h⟩
theorem Ao(hS:S.ok): ∀ (ets:List (Option Ty)) (cs:List Cl) (κ:List Cl->Option ρ) (r:ρ),(∀c∈cs,c.ok S.gh)->An S ets cs κ=some r->
  ∃cs',ets.length=cs.length/\List.zipWith (eC S.st) (ets.map λ|some e=>e.width|none=>0) (cs.map Cl.av)=cs'.map Cl.av/\κ cs'=some r:=by
 intro ets
 induction ets with
 |nil=>
  intro cs κ r hcs h;cases cs with
  |nil=>exact⟨[],rfl,rfl,h⟩
  |cons c cs=>cases h
 |cons et ets ih=>
  intro cs κ r hcs h;cases cs with
  |nil=>cases h
  |cons c cs=>
   unfold An at h;obtain⟨c',h1,h⟩:=oF hS (hcs c aK) h;obtain⟨cs',h2,h3,h⟩:=ih cs _ r (λx hx=>hcs x (aI _ hx)) h;refine⟨c'::cs',by simp[h2],?_,h⟩
   simp_all
theorem yi(hΘ:ek P Θ)(hS:S.ok){t:TypeId}{v:V}(hv:v.ok S.gh){κ:V1->Option ρ}{r:ρ}(h:Dw Θ S t v κ=some r): ∃v1:V1,fk S.st (gk P 9 t) v.av=v1.av/\κ v1=some r:=by
 unfold Dw at h;split at h
 ·cases h
 ·rename_i f cs
  obtain⟨bs,h1,h2,h⟩:=qK (R:=λ(c c':Cl)=>c.ok S.gh->eC S.st 0 c.av=c'.av) (λc κ r h=>by
   by_cases hc:c.ok S.gh
   ·grind [oF]
   ·have : ∃c',κ c'=some r:=by
     unfold yU at h;split at h
     ·exact⟨_,h⟩
     ·cases h
     ·obtain⟨t,l,_,_,h⟩:=eE h;exact⟨_,(dC h).2⟩
     ·obtain⟨t,l,_,_,h⟩:=eE h;exact⟨_,(dS (dC h).2).2⟩
     ·exact⟨_,h⟩
     ·obtain⟨t,l,_,_,h⟩:=eE h;grind
     ·split at h
      ·obtain⟨bs,_,_,h⟩:=qK (R:=λ_ _=>True) (λc κ r h=>by
        split at h
        ·exact⟨_,trivial,h⟩
        ·obtain⟨t,l,_,_,h⟩:=eE h;exact⟨_,trivial,(dC h).2⟩
        ·cases h) _ _ _ h
       exact⟨_,h⟩
      ·cases h
     ·exact⟨_,h⟩
    grind) _ _ _ h
  refine⟨_,?_,h⟩;simp only[V.av,V1.av,fk,ba]
  congr 1
  exact xT h1 (λk a b ha hb=>h2 k a b ha hb (hv a (aA ha)))
 ·rename_i cs;split at h
  ·rename_i ti hti;obtain⟨cs',h1,h2,h⟩:=Ao hS _ _ _ _ hv h;refine⟨_,?_,h⟩;have e: (ti.ty.csh.map λ|some e=>e.width|none=>0)=ti.ty.shs:=rfl;simp only[V.av,V1.av,fk,(hΘ _ _ hti).sh]
   grind
  ·cases h
 ·exact⟨_,rfl,h⟩
 ·rename_i c hne
  have fB: ∀ (szs:List Nat),fk S.st szs (V.v (.cl c)).av=eC S.st (szs.headD 0) c.av:=by
   intro szs;cases c with
   |c x=>cases x<;>rfl
   |em=>exact absurd rfl hne
   | _=>rfl
  split at h
  ·rename_i ti hti;obtain⟨c',h1,h⟩:=oF hS hv h;refine⟨_,?_,h⟩;rw[fB];refine h1 _ (λt ht=> ?_);rw[(hΘ _ _ hti).sh];unfold Ty.shs;cases hc:ti.ty.csh with
   |nil=>rw[hc] at ht;cases ht
   |cons a l=>grind
  ·obtain⟨c',h1,h⟩:=oF hS hv h;exact⟨_,by rw[fB];exact h1 _ (λt ht=>by cases ht),h⟩
theorem jF(hΘ:ek P Θ)(hS:S.ok): ∀ (ts:List TypeId) (as:List Operand) (κ:List V1->Option ρ) (r:ρ),kE Θ S ts as κ=some r->
  ∃vs:List V1,List.zipWith (λt a=>fk S.st (gk P 9 t) (opd S.st a)) ts as=vs.map V1.av/\κ vs=some r:=by
 intro ts
 induction ts with
 |nil=>
  intro as κ r h;cases as with
  |nil=>exact⟨[],rfl,h⟩
  |cons a as=>cases h
 |cons t ts ih=>
  intro as κ r h;cases as with
  |nil=>cases h
  |cons a as=>
   unfold kE at h;obtain⟨v,h1,h⟩:=yi hΘ hS (fZ hS a) h
   grind [List.zipWith_cons_cons,dG]
end
end
section
open Go
open Classical in
noncomputable def wy(d:Option Tmp)(g:FuncId)(args:List AV)(res:AV×List T):iC:=λd' g' a' gs'=>if d'=d/\g'=g/\a'=args/\gs'= [] then some res else none
theorem oB[dE]{P:Program}{d:Option Tmp}{g:FuncId}{args:List AV}{res:AV}{out:List T}(h:ig P g args [] res out):fr P (wy d g args (res,out)):=by
 intro d' g' a' gs' r' o' h'
 simp_all [wy]
theorem vA(d:Option Tmp)(g:FuncId)(args:List AV)(res:AV×List T):wy d g args res d g args [] =some res:=by simp_all [wy]
def qN:iC:=λ_ _ _ _=>none
theorem eJ[dE]{P:Program}:fr P qN:=λ_ _ _ _ _ _ h=>by cases h
theorem wM(n:Nat)(c:Cl): (q9 n c).av=fp n c.av:=by
 cases c with
 |c x=>cases x<;>rfl
 | _=>rfl
theorem oP(n:Nat)(v:V1): (kt n v).av=ff n v.av:=by
 cases v with
 |cl c=>cases c with
  |c x=>cases x<;>rfl
  | _=>rfl
 |agg cs=>simp_all [kt,V1.av,ff,wM]
 |fn f cs=>rfl
theorem ku(n:Nat)(v:V): (iB n v).av=shift n v.av:=by
 cases v with
 |v x=>
  have :shift n x.av=ff n x.av:=by
   cases x with
   |cl c=>cases c with
    |c x=>cases x<;>rfl
    | _=>rfl
   | _=>rfl
  show (kt n x).av=shift n x.av;rw[this,oP]
 |tup l=>simp_all [iB,V.av,shift,oP]
theorem qd{G:List (Option dJ)}{out:List dJ}{c:Cl}(h:c.ok (out.map some)): (q9 G.length c).ok (G++out.map some):=by
 cases c with
 |own p sz lo len w=>
  obtain⟨h1,h2⟩:=h;refine⟨by simp at h1 ⊢;omega,λhw=> ?_⟩;obtain⟨a,b,c⟩:=h2 hw;refine⟨a,b,λtr htr=>c tr ?_⟩;rw[md,if_pos (by simp)] at htr
  simp_all [dX,eg]
 |c x=>cases x<;>trivial
 |ptrT p sz i j=>show p.r+G.length< (G++out.map some).length;have h:p.r< (out.map some).length:=h;simp at h ⊢;omega
 | _=>trivial
theorem oQ{G:List (Option dJ)}{out:List dJ}{v:V1}(h:v.ok (out.map some)): (kt G.length v).ok (G++out.map some):=by
 cases v with
 |cl c=>exact qd h
 |agg cs=>intro c hc;obtain⟨x,hx,rfl⟩:=aG.1 hc;exact qd (h x hx)
 |fn f cs=>trivial
theorem kv{G:List (Option dJ)}{out:List dJ}{v:V}(h:v.ok (out.map some)): (iB G.length v).ok (G++out.map some):=by
 cases v with
 |v x=>exact oQ h
 |tup l=>intro c hc;obtain⟨x,hx,rfl⟩:=aG.1 hc;exact oQ (h x hx)
theorem jr(S:TS)(v:AV)(out:List dJ): ({ S with gh:=S.gh++out.map some }:TS).st=(install S.st (v,out.map dJ.tree)).2:=by
 unfold TS.st install;simp only[bL,aH]
 congr 1
 funext r
 rw[md];by_cases h:S.gh.length<=r
 ·rw[if_pos h];by_cases h2:r<S.gh.length+out.length
  ·rw[if_pos ⟨h,h2⟩,aw]
  ·rw[if_neg (λhh=>h2 hh.2),cx (by omega),me h]
 ·rw[if_neg h,if_neg (λhh=>h hh.1)]
section
variable {ρ:Type} {P:Program} {Θ:fV} {S:TS} {Y:lz}
theorem nW(hS:S.ok): ∀ (caps:List Cl) (κ':List Cl->Option ρ) (r:ρ),(∀c∈caps,c.ok S.gh)->sI (yU S none) caps κ'=some r-> ∃cs,(caps.map Cl.av).map (eC S.st 0)=cs.map Cl.av/\κ' cs=some r:=by
 intro caps
 induction caps with
 |nil=>intro κ' r _ h;exact⟨[],rfl,h⟩
 |cons c caps ih=>intro κ' r hc h;unfold sI at h;obtain⟨c',g1,h⟩:=oF hS (hc c aK) h;obtain⟨cs,g2,h⟩:=ih _ r (λx hx=>hc x (aI _ hx)) h;exact⟨c'::cs,by simp_all,h⟩
theorem xi[dE](hΘ:ek P Θ)(hY:fC P Y)(hS:S.ok){f:Operand}{ts:Array TypeId}{as:Array Operand}{κ:V->TS->Option ρ}{r:ρ}(h:uY Θ Y S f ts.toList as.toList κ=some r){dst:Option Tmp}{ty:TypeId}{pos:String}{aft:Array Edge}{gd:Option (Nat×Bool)}:
  ∃D v S',fr P D/\step D P S.st ⟨dst,.call { callee:=.value f,args:=as,argTypes:=ts },ty,pos,aft,gd⟩=some (V.av v,TS.st S')/\S'.ok/\v.ok S'.gh/\κ v S'=some r:=by
 have fin: ∀ (g:FuncId) (caps:List AV) (vs:List V1),g<eT->callee S.st f=some (g,caps)->args P S.st ts as caps=vs.map V1.av->Y g vs ρ (λres out=>κ (iB S.gh.length res) { S with gh:=S.gh++out.map some })=some r->
   ∃D v S',fr P D/\step D P S.st ⟨dst,.call { callee:=.value f,args:=as,argTypes:=ts },ty,pos,aft,gd⟩=some (V.av v,TS.st S')/\S'.ok/\v.ok S'.gh/\κ v S'=some r:=by
  intro g caps vs hg h1 h2 h3;obtain⟨res,out,h4,h5,h6⟩:=hY _ _ _ _ _ h3;have h4:=h4.fn hg;refine⟨wy dst g (vs.map V1.av) (res.av,out.map dJ.tree),_,_,oB h4,?_,TS.ok_gh hS (eL.apps _ _),kv h5,h6⟩;simp only[step,h1,ao,h2];rw[vA];simp only[aF];rw[jr S res.av out,ku];rfl
 unfold uY at h;split at h
 ·rename_i g x y hf;obtain⟨hg,h⟩:=dC h;have hg:g<eT:=ax hg;obtain⟨vs,h1,h⟩:=jF hΘ hS _ _ _ _ h;refine fin g [] vs hg ?_ ?_ h
  ·unfold callee;rw[dG,hf];rfl
  grind [args]
 ·rename_i g caps hf;obtain⟨hg,h⟩:=dC h;have hg:g<eT:=ax hg;obtain⟨vs,h1,h⟩:=jF hΘ hS _ _ _ _ h
  have hcaps: ∀c∈caps,c.ok S.gh:=by have:=fZ hS f;rw[hf] at this;exact this
  obtain⟨cs,h2,h⟩:=nW hS _ _ _ hcaps h;refine fin g (caps.map Cl.av) (vs++cs.map .cl) hg ?_ ?_ h
  ·unfold callee;rw[dG,hf];rfl
  ·unfold args;rw[h1,h2,bK,ba];rfl
 ·cases h
theorem eD{t t':Ty}{l:List t.D}{l':List t'.D}(h:jH t t' l=some l'): ∃e:t=t',e ▸ l=l':=by grind [jH]
theorem we{t:Ty}(h:t.flatB=true)(x:t.D): (t.row x).all T.flat=true:=by
 cases t with
 |st n=>cases n<;>first |rfl|cases h
 |ls t=>cases h
 | _=>rfl
theorem kg(t:Ty): (t.shs.all (· ==0))=t.flatB:=by
 cases t with
 |st n=>cases n<;>rfl
 |ls t=>
  show ((t.width==0)&&true)=false;have:=t.width_pos
  grind
 | _=>rfl
theorem iX{t:Ty}(h:t.flatB=true)(l:List t.D): (l.map t.row).all (λr=>r.all T.flat)=true:=by simp_all [we]
theorem Ax(hS:S.ok){el:Ty}{v:Cl}(hv:v.ok S.gh){κ:List el.D->TS->Option ρ}{r:ρ}(h:yE S el v κ=some r):
  ∃more S',source S.st el.width el.flatB v.av=some (more.map el.row,S'.st)/\S'.ok/\eL S.gh S'.gh/\S'.gh.length=S.gh.length/\S'.fz=S.fz/\κ more S'=some r:=by
 unfold yE at h;split at h
 ·exact⟨[],S,rfl,hS,eL.refl _,rfl,rfl,h⟩
 ·rename_i t l;obtain⟨h1,h⟩:=dC h;split at h
  ·rename_i l' hl;obtain⟨e,hl⟩:=eD hl;subst e;simp only at hl;subst hl;refine⟨l,S,?_,hS,eL.refl _,rfl,rfl,h⟩;simp only[Cl.av,C.av,source];rw[if_pos ⟨trivial,iX h1 l⟩]
  ·cases h
 ·rename_i p sz lo len w;obtain⟨h0,h⟩:=dC h;have h0:el.width=sz:=an h0;cases hfl:el.flatB with
  |true=>
   rw[hfl] at h;simp only[cond_true] at h;obtain⟨t,l,h1,h2,h⟩:=eE h;split at h
   ·rename_i l' hl;obtain⟨e,hl⟩:=eD hl;subst e;simp only at hl;subst hl
    have src: ∀ (lo len:Nat),lo+len<=l.length->source S.st t.width true (.own p sz lo len)=some (((l.drop lo).take len).map t.row,S.st):=by intro lo len hle;simp only[source];rw[if_pos h0.symm,fo h1];simp only[ao,Bool.true_eq_false,false_and,if_false,aH];rw[if_pos ⟨hle,by grind [iX]⟩];simp[b9,cA]
    cases w with
    |true=>
     obtain⟨e1,e2,e3⟩:=jY hv h2;refine⟨l,S,?_,hS,eL.refl _,rfl,rfl,h⟩
     grind [Cl.av]
    |false=>simp only[cond_false] at h;obtain⟨h3,h⟩:=dS h;exact⟨_,S,src lo len h3,hS,eL.refl _,rfl,rfl,h⟩
   ·cases h
  |false=>
   rw[hfl] at h;simp only[cond_false] at h;split at h
   ·rename_i hp;obtain⟨h3,h6⟩:=dC h;clear h;simp only[ak] at h3;obtain⟨hw,h4⟩:=h3;have h4:S.fz<=p.r:=ax h4;subst hw;obtain⟨t,l,h1,h2,h⟩:=eE h6;split at h
    ·rename_i l' hl;obtain⟨e,hl⟩:=eD hl;subst e;simp only at hl;subst hl;obtain⟨e1,e2,e3⟩:=jY hv h2;refine⟨l,_,?_,TS.ok_gh hS (eL.gone _ _),eL.gone _ _,by simp[eG],rfl,h⟩;simp only[Cl.av,source];rw[if_pos h0.symm,fo h1];simp only[ao,aH];rw[if_pos ⟨trivial,hp,e2,e3,h4⟩,lU]
    ·cases h
   ·cases h
 ·cases h
end
end
section
open Go
theorem uM(t:Ty):t.zvs.length=t.width:=by
 cases t with
 |st n=>cases n<;>rfl
 | _=>rfl
theorem ll(t:Ty):t.shs.length=t.width:=by
 cases t with
 |st n=>cases n<;>rfl
 | _=>rfl
theorem lX{P:Program}{el:TypeId}{e:Ty}(h1:P.cellsOf el=e.width)(h2:gk P 9 el=e.shs)(h3:lV P el=some e.zvs):mL P el=some (List.zipWith zc e.shs e.zvs):=by simp_all [mL,uM,ll]
section
variable {ρ:Type} {P:Program} {Θ:fV} {S:TS}
theorem xb(hS:S.ok){el:Ty}{v:Cl}(hv:v.ok S.gh){more:List el.D}{κ:List el.D->TS->Option ρ}{r:ρ}(h:rx S el v more κ=some r):
  ∃l S',eK S.st v.av el.width (more.map el.row)=some (.own ⟨S.gh.length,[]⟩ el.width 0 l.length,{ S'.st with gh:=dQ S'.st.gh S.gh.length (some (.sl el.width (l.map el.row))),ng:=S.gh.length+1 })/\
   S'.ok/\eL S.gh S'.gh/\S'.gh.length=S.gh.length/\κ l S'=some r:=by
 unfold rx at h;split at h
 ·refine⟨more,S,?_,hS,eL.refl _,rfl,h⟩;simp only[Cl.av,eK,aH];rfl
 ·rename_i p sz lo len w;obtain⟨h0,h'⟩:=dC h;clear h;simp only[ak] at h0;have hfz:S.fz<=p.r:=ax h0.1;have hsz:el.width=sz:=an h0.2;split at h'
  ·rename_i hp;obtain⟨t,l,h1,h2,h⟩:=eE h';split at h
   ·rename_i l' hl;obtain⟨e,hl⟩:=eD hl;subst e;simp only at hl;subst hl
    have fin: ∀ (len:Nat),¬l.length<len->eK S.st (.own p sz 0 len) t.width (more.map t.row)=some (.own ⟨S.gh.length,[]⟩ t.width 0 (l.take len++more).length,{ ({ S with gh:=dW S.gh p.r none }:TS).st with gh:=dQ ({ S with gh:=dW S.gh p.r none }:TS).st.gh S.gh.length (some (.sl t.width ((l.take len++more).map t.row))),ng:=S.gh.length+1 }):=by
     intro len hlen;simp only[eK];rw[if_pos ⟨hsz.symm,trivial,hfz⟩,fo h1];simp only[ao,aH];rw[if_neg hlen,if_pos hp,lU];have e1: (l.take len++more).length=len+more.length:=by simp;omega
     rw[e1,bK,b9];rfl
    cases w with
    |true=>grind [jY,TS.ok_gh,eL.gone,eG,Cl.av]
    |false=>
     simp only[cond_false] at h
     grind [dS,mq,TS.ok_gh,eL.gone,eG,Cl.av]
   ·cases h
  ·rename_i i j hp;split at h'
   ·rename_i tr htr;split at h'
    ·rename_i hh;obtain⟨t,l,h1,h2,h⟩:=eE h';split at h
     ·rename_i l' hl;obtain⟨e,hl⟩:=eD hl;subst e;simp only at hl;subst hl;obtain⟨h3,h⟩:=dS h;obtain⟨h4,h⟩:=mq h;have hg:=dJ.look htr;have hput:eL S.gh (dW S.gh p.r (some (dJ.mk tr.t tr.l (some (i,j))))):=eL.put hg rfl;refine⟨_,{ S with gh:=dW S.gh p.r (some (dJ.mk tr.t tr.l (some (i,j)))) },?_,TS.ok_gh hS hput,hput,by simp[eG],h⟩;simp only[Cl.av,eK];rw[if_pos ⟨hsz.symm,h3,hfz⟩,fo h1];simp only[ao,aH];rw[if_neg h4,if_neg (by rw[hp];simp),lp _ _ (jh hg)];have e1: (l.take len++more).length=len+more.length:=by simp;omega
      rw[e1,bK,b9]
      have e2:S.st.setAt p .dd= { S.st with gh:=dQ S.st.gh p.r (some (dJ.tree ⟨tr.t,tr.l,some (i,j)⟩)) } :=by
       unfold St.setAt
       congr 2
       show ((dX S.gh p.r).map dJ.tree).map _=_;rw[hg,hp];obtain⟨t0,l0,hole⟩:=tr;simp only at hh;subst hh;rfl
      rw[e2];rfl
     ·cases h
    ·cases h'
   ·cases h'
  ·cases h'
 ·cases h
theorem zf(hΘ:ek P Θ)(hS:S.ok){t:TypeId}{s x:Operand}{κ:V->TS->Option ρ}{r:ρ}(h:zd Θ S t (S.opd s) (S.opd x) κ=some r){dst:Option Tmp}{ty:TypeId}{pos:String}{aft:Array Edge}{gd:Option (Nat×Bool)}{D:iC}:
  ∃v S',step D P S.st ⟨dst,.call { callee:=.builtin .append,args:=#[s,x],argTypes:=#[t,t] },ty,pos,aft,gd⟩=some (V.av v,TS.st S')/\S'.ok/\v.ok S'.gh/\κ v S'=some r:=by
 unfold zd at h;split at h
 ·rename_i ti hti;split at h
  ·rename_i el sv xv he hs hx;obtain⟨elT',g1,g2,g3,g4,g5,g6⟩:=(hΘ _ _ hti).el el he;have hsv:=fZ hS s;rw[hs] at hsv;have hxv:=fZ hS x;rw[hx] at hxv;obtain⟨more,S1,h1,k1,k2,k3,k4,h⟩:=Ax hS (show xv.ok S.gh from hxv) h;obtain⟨l,S2,h2,m1,m2,m3,h⟩:=xb k1 (Cl.ok_mono k2 (show sv.ok S.gh from hsv)) h;obtain⟨hb,h⟩:=dS h;have hgl:eL S1.gh (S2.gh++ [some ⟨el,l,none⟩]):=m2.trans (eL.app _ _);refine⟨_,_,?_,TS.ok_gh m1 (eL.app _ _),?_,h⟩
   ·simp only[step];rw[if_pos trivial,g1];simp only[ao,g2,g5,kg,dG,hs,hx];show (source S.st el.width el.flatB xv.av).bind _=_;rw[h1];simp only[ao];show (eK S1.st sv.av el.width _).bind _=_;rw[h2];simp only[ao];have hlen:l.length<=2 ^ 40:=aX (Nat.le_mul_of_pos_right _ g4) hb;rw[if_pos ⟨by rw[g3];exact hb,hlen,el.width_pos,by rw[lX g2 g5 g6];rfl⟩];rw[oT,m3];rfl
   ·refine⟨by simp,λ_=>⟨rfl,rfl,λtr htr=> ?_⟩⟩;rw[ft,if_pos rfl] at htr;cases htr;rfl
  ·cases h
 ·cases h
end
end
section
open Go
theorem zj(a b:Nat): (a==b)=Nat.beq a b:=by
 rw[bJ,beq_iff_eq]
 simp_all
theorem xe(a b:Nat): (a==b)=Nat.beq b a:=by
 rw[bJ,beq_iff_eq]
 grind [Nat.beq_refl,Nat.eq_of_beq_eq_true]
theorem oX(r i j pr i' j':Nat)(l:List (Nat×Nat)):under ⟨r,[(i,j)]⟩ ⟨pr,(i',j')::l⟩=(Nat.beq pr r&&Nat.beq j j'):=by simp only[under,mu,df];rw[xe,zj]
theorem oY(r i j pr:Nat):under ⟨r,[(i,j)]⟩ ⟨pr,[]⟩=false:=by simp[under,mu]
theorem lM(r i j:Nat)(c:Cl): (gW r j c).av=gV ⟨r,[(i,j)]⟩ c.av:=by
 cases c with
 |own p sz lo len w=>
  obtain⟨pr,pl⟩:=p;cases pl with
  |nil=>simp only[gW,Cl.av,gV,oY];rfl
  |cons a l=>obtain⟨i',j'⟩:=a;simp only[gW,Cl.av,gV,oX];cases (Nat.beq pr r&&Nat.beq j j')<;>rfl
 |ptrT p sz a b=>
  obtain⟨pr,pl⟩:=p;cases pl with
  |nil=>simp only[gW,Cl.av,gV,oY];rfl
  |cons a' l=>obtain⟨i',j'⟩:=a';simp only[gW,Cl.av,gV,oX];cases (Nat.beq pr r&&Nat.beq j j')<;>rfl
 |c x=>cases x<;>rfl
 | _=>rfl
theorem pR(r i j:Nat)(v:V1): (iO r j v).av=iY ⟨r,[(i,j)]⟩ v.av:=by
 cases v with
 |cl c=>
  have :iY ⟨r,[(i,j)]⟩ (V1.cl c).av=gV ⟨r,[(i,j)]⟩ c.av:=by
   cases c with
   |c x=>cases x<;>rfl
   | _=>rfl
  rw[this];exact lM r i j c
 |agg cs=>
  simp only[iO,V1.av,iY,ba]
  congr 1
  grind [List.map_congr_left,lM]
 |fn f cs=>
  simp only[iO,V1.av,iY,ba]
  congr 1
  grind [List.map_congr_left,lM]
theorem xJ(r i j:Nat)(v:V): (pQ r j v).av=kill ⟨r,[(i,j)]⟩ v.av:=by
 cases v with
 |v x=>
  have :kill ⟨r,[(i,j)]⟩ (V.v x).av=iY ⟨r,[(i,j)]⟩ x.av:=by
   cases x with
   |cl c=>cases c with
    |c x=>cases x<;>rfl
    | _=>rfl
   | _=>rfl
  rw[this];exact pR r i j x
 |tup l=>
  simp only[pQ,V.av,kill,ba]
  congr 1
  grind [List.map_congr_left,pR]
theorem rY(f:V->V)(hf:f V.dead=V.dead): ∀ (l:List (Nat×V)) (t:Nat),eS (l.map λx=>(x.1,f x.2)) t=f (eS l t)
 | [],t=>hf.symm
 | (u,v)::l,t=>by
   simp only[aO,eS];cases Nat.beq u t with
   |true=>rfl
   |false=>exact rY f hf l t
theorem Az(S:TS)(r i j:Nat): (S.kill r j).st=S.st.killU ⟨r,[(i,j)]⟩:=by
 unfold TS.kill TS.st St.killU;simp only[aH]
 congr 1
 ·funext t
  rw[rY _ rfl];exact xJ r i j _
 ·funext n
  rw[eg,eg,aw];cases S.bx[n]? with
  |none=>rfl
  |some cs=>
   simp only[aF,ba]
   congr 1
   grind [List.map_congr_left,lM]
theorem lN{G:List (Option dJ)}{r j:Nat}{c:Cl}(h:c.ok G): (gW r j c).ok G:=by
 cases c with
 |own p sz lo len w=>
  simp only[gW];split
  ·cases (Nat.beq p.r r&&Nat.beq j _)<;>first |exact h|trivial
  ·exact h
 |ptrT p sz a b=>
  simp only[gW];split
  ·cases (Nat.beq p.r r&&Nat.beq j _)<;>first |exact h|trivial
  ·exact h
 | _=>exact h
theorem pS{G:List (Option dJ)}{r j:Nat}{v:V1}(h:v.ok G): (iO r j v).ok G:=by
 cases v with
 |cl c=>exact lN h
 |agg cs=>intro c hc;obtain⟨x,hx,rfl⟩:=aG.1 hc;exact lN (h x hx)
 |fn f cs=>intro c hc;obtain⟨x,hx,rfl⟩:=aG.1 hc;exact lN (h x hx)
theorem vo{S:TS}(hS:S.ok)(r j:Nat): (S.kill r j).ok:=by
 refine⟨λx hx=> ?_,λcs hcs c hc=> ?_⟩
 ·obtain⟨y,hy,rfl⟩:=aG.1 hx;have:=hS.env y hy;obtain⟨t,v⟩:=y;cases v with
  |v x=>exact pS this
  |tup l=>intro c hc;obtain⟨z,hz,rfl⟩:=aG.1 hc;exact pS (this z hz)
 ·obtain⟨y,hy,rfl⟩:=aG.1 hcs;obtain⟨z,hz,rfl⟩:=aG.1 hc;exact lN (hS.bx y hy z hz)
def TS.with(S:TS)(no N w:Nat)(R:List (List T)):St:={ S.st with gh:=dQ S.st.gh no (some (.sl w R)),ng:=N }
theorem qg(S:TS)(r i j no N w:Nat)(R:List (List T)): (S.with no N w R).killU ⟨r,[(i,j)]⟩=(S.kill r j).with no N w R:=by
 unfold TS.with
 rw[Az S r i j];rfl
theorem vM{α:Type}(f:Nat->α)(t:Nat)(x y:α):dQ (dQ f t x) t y=dQ f t y:=by
 funext u
 unfold dQ;split<;>rfl
theorem tG{α:Type}(f:Nat->α)(t:Nat)(x:α):dQ f t x t=x:=by unfold dQ;rw[if_pos rfl]
theorem yP{α:Type}(f:Nat->α){t u:Nat}(h:t≠u)(x y:α):dQ (dQ f t x) u y=dQ (dQ f u y) t x:=by
 funext v
 unfold dQ
 grind
structure yZ (S S1:TS) (no:Nat):Prop where
 ok:S1.ok
 gle:eL S.gh S1.gh
 len:S1.gh.length=S.gh.length
 fz:S1.fz=S.fz
 nt:S1.nt=S.nt
 no:dX S1.gh no=dX S.gh no
def tJ:Option Ty->Nat|some e=>e.width|none=>0
def C8(X:St)(no i j:Nat)(c:AV):Option Ty->Option St
 |none=>some X
 |some t=>gU X ⟨no,[]⟩ i j t.width c
def yf(R:List (List T))(i j:Nat)(x:C):Option Ty->List (List T)
 |none=>R
 |some _=>R.set i ((R.getD i []).set j x.tree)
theorem yL{S S1:TS}(hS:S.ok){no j:Nat}(i N w:Nat){et:Option Ty}{c:Cl}{x:C}(hc:c.ok S.gh)(h:eU S no j et c=some (x,S1))(R:List (List T)):
  yZ S S1 no/\c≠ .dead/\(et=none->T.ofSc c.av=x.tree)/\C8 (S.with no N w R) no i j c.av et=some (S1.with no N w (yf R i j x et)):=by
 cases c with
 |c y=>
  cases y with
  |sc v=>
   cases et with
   |none=>simp only[eU,af,au] at h;obtain⟨rfl,rfl⟩:=h;exact⟨⟨hS,eL.refl _,rfl,rfl,rfl,rfl⟩,(λh=>by cases h),λ_=>rfl,rfl⟩
   |some t=>simp[eU] at h
  |ls t l=>cases et<;>simp[eU] at h
 |em=>
  cases et with
  |none=>simp[eU] at h
  |some t=>
   simp only[eU,af,au] at h;obtain⟨rfl,rfl⟩:=h;refine⟨⟨vo hS _ _,eL.refl _,rfl,rfl,rfl,rfl⟩,(λh=>by cases h),(λh=>by cases h),?_⟩;simp only[C8,Cl.av,gU,dM.sub,bG,qg,yf]
   congr 1
   unfold St.setAt TS.with
   simp only;rw[tG,vM];rfl
 |own p sz lo len wh=>
  obtain⟨pr,pl⟩:=p;cases wh with
  |false=>cases et<;>simp[eU] at h
  |true=>
   cases et with
   |none=>simp[eU] at h
   |some t=>
    cases pl with
    |cons a l=>simp[eU] at h
    |nil=>
     simp only[eU] at h;obtain⟨h1,h⟩:=dC h;simp only[ak,bE] at h1;obtain⟨⟨h1,h2⟩,h3⟩:=h1;have h1:t.width=sz:=an h1;have h2:S.fz<=pr:=ax h2;have h3:pr≠no:=by intro e;rw[e,cJ] at h3;cases h3
     split at h
     ·rename_i tr htr;split at h
      ·rename_i hh;obtain⟨h4,h⟩:=dC h;have h4':tr.t.width=sz:=an h4;simp only[af,au] at h;obtain⟨rfl,rfl⟩:=h;have hg:=dJ.look htr;obtain⟨tt,l,hole⟩:=tr;simp only at hh h4';subst hh;obtain⟨e1,e2,e3⟩:=jY hc (λ_=>hg);refine⟨⟨vo (TS.ok_gh hS (eL.gone _ _)) _ _,eL.gone _ _,by simp[TS.kill,eG],rfl,rfl,?_⟩,(λh=>by cases h),(λh=>by cases h),?_⟩
       ·show dX (dW S.gh pr none) no=_;rw[gM _ _ (.inr rfl),if_neg (λe=>h3 e.symm)]
       ·simp only[C8,yf,Cl.av,gU]
        have hrows: (S.with no N w R).rows ⟨pr,[]⟩ sz=some (l.map tt.row):=by
         have : (S.with no N w R).look ⟨pr,[]⟩= .sl tt.width (l.map tt.row):=by
          unfold St.look TS.with
          simp only[dQ];rw[if_neg h3];show (match (dX S.gh pr).map dJ.tree with |some t=>t.go [] |none=> .dd)=_;rw[hg];rfl
         unfold St.rows;rw[this];simp[h4']
        rw[if_pos ⟨trivial,h1.symm,e2,h2,h3⟩,hrows];simp only[ao,aH];rw[if_pos (by omega),e3]
        congr 1
        have e4: (l.map tt.row).take l.length=l.map tt.row:=bW (by simp);rw[e4];simp only[dM.sub,bG,qg];unfold TS.with
        simp only;rw[tG,yP _ (λe=>h3 e.symm),vM];have e5: ({ S with gh:=dW S.gh pr none }:TS).kill no j= { S.kill no j with gh:=dW (S.kill no j).gh pr none } :=rfl;rw[e5,lU];simp only[C.tree,h4'];rfl
      ·cases h
     ·cases h
 |pro cs=>cases et<;>simp[eU] at h
 |ptrB n j=>cases et<;>simp[eU] at h
 |ptrT p sz a b=>cases et<;>simp[eU] at h
 |dead=>cases et<;>simp[eU] at h
theorem Bu(X:St)(no i j:Nat)(c:AV)(et:Option Ty): (if tJ et=0 then some X else gU X ⟨no,[]⟩ i j (tJ et) c)=C8 X no i j c et:=by
 cases et with
 |none=>rfl
 |some t=>exact if_neg (by show ¬t.width=0;have:=t.width_pos;omega)
theorem yg{R:List (List T)}{i j:Nat}{x:C}{et:Option Ty}{row:List T}(hr:R[i]? =some row)(hj:j<row.length)(h:et=none->row[j]? =some x.tree):yf R i j x et=R.set i (row.set j x.tree):=by
 cases et with
 |none=>
  have h:=h rfl
  have e1:row.set j x.tree=row:=by
   apply bA;intro k;rw[bH];split
   ·grind
   ·rfl
  rw[e1];apply bA;intro k;show R[k]? =_
  grind
 |some t=>simp_all [yf]
theorem oV(no i N w:Nat): ∀ (ets:List (Option Ty)) (cs:List Cl) (j:Nat) (S S1:TS) (xs:List C) (R:List (List T)) (row:List T),S.ok->(∀c∈cs,c.ok S.gh)->gX no j S ets cs=some (xs,S1)->R[i]? =some row->
  j+cs.length<=row.length->(∀ (k:Nat) (c:Cl),cs[k]? =some c->row[j+k]? =some (T.ofSc c.av))->
  yZ S S1 no/\ets.length=cs.length/\xs.length=cs.length/\(∀c∈cs,c≠ .dead)/\
   dV (S.with no N w R) ⟨no,[]⟩ i j (ets.map tJ) (cs.map Cl.av)=some (S1.with no N w (R.set i (row.take j++xs.map C.tree++row.drop (j+cs.length)))):=by
 intro ets
 induction ets with
 |nil=>
  intro cs j S S1 xs R row hS hcs h hr hl ho;cases cs with
  |cons c cs=>simp[gX] at h
  |nil=>
   simp only[gX,af,au] at h;obtain⟨rfl,rfl⟩:=h;refine⟨⟨hS,eL.refl _,rfl,rfl,rfl,rfl⟩,rfl,rfl,(λc hc=>by cases hc),?_⟩;simp only[ct,dV,bP,bU,bI,List.take_append_drop]
   congr 2
   apply bA
   grind
 |cons et ets ih=>
  intro cs j S S1 xs R row hS hcs h hr hl ho;cases cs with
  |nil=>simp[gX] at h
  |cons c cs=>
   simp only[gX] at h;split at h
   ·rename_i x S2 hx;split at h
    ·rename_i xs' S3 hxs;simp only[af,au] at h;obtain⟨rfl,rfl⟩:=h;obtain⟨k1,k2,k3,k4⟩:=yL hS i N w (hcs c aK) hx R;have hj:j<row.length:=by simp at hl;omega
     have hput:=yg (et:=et) hr hj (x:=x) (λhe=>by rw[<-k3 he];exact ho 0 c rfl);rw[hput] at k4;have hi:i<R.length:=(ai.1 hr).1
     obtain⟨m1,m2,m3,m4,m5⟩:=ih cs (j+1) S2 S3 xs' (R.set i (row.set j x.tree)) (row.set j x.tree) k1.ok (λy hy=>Cl.ok_mono k1.gle (hcs y (aI _ hy))) hxs (by simp[hi]) (by simp at hl ⊢;omega) (λk y hy=>by rw[List.getElem?_set_ne (by omega),show j+1+k=j+(k+1) by omega];exact ho (k+1) y (by simpa using hy))
     refine⟨⟨m1.ok,k1.gle.trans m1.gle,m1.len.trans k1.len,m1.fz.trans k1.fz,m1.nt.trans k1.nt,m1.no.trans k1.no⟩,by simp[m2],by simp[m3],λy hy=> ?_,?_⟩
     ·grind
     ·simp only[aO,dV];rw[Bu,k4];simp only[ao];rw[m5,List.set_set]
      congr 3
      have e2: (row.set j x.tree).take (j+1)=row.take j++ [x.tree] :=by
       rw[List.take_set,List.take_add_one,aq hj];rw[Option.toList_some];have hlen: (row.take j).length=j:=by simp;omega
       rw[List.set_append_right _ _ (by omega),hlen,c9];rfl
      grind [List.drop_set_of_lt]
    ·cases h
   ·cases h
end
section
open Go
theorem te: ∀ {cs:List Cl} {vs:List C},BK cs=some vs->cs.map (λc=>T.ofSc c.av)=vs.map C.tree/\vs.length=cs.length
 | [],vs,h=>by simp_all [BK]
 |c::cs,vs,h=>by
  cases c with
  |c y=>cases y with
   |sc v=>
    simp only[BK] at h;split at h
    ·rename_i r hr;simp only[af] at h;subst h;obtain⟨h1,h2⟩:=te hr;exact⟨by simp only[aO,h1];rfl,by simp[h2]⟩
    ·cases h
   |ls t l=>simp[BK] at h
  | _=>simp[BK] at h
theorem oZ{x:V1}(h1:x≠ .cl .dead)(h2: ∀f cs,x≠ .fn f cs): (V.v x).av.cells=x.cells.map Cl.av/\(V.v x).av.isDead=false:=by
 cases x with
 |cl c=>cases c with
  |c y=>cases y<;>exact⟨rfl,rfl⟩
  |dead=>exact absurd rfl h1
  | _=>exact⟨rfl,rfl⟩
 |agg cs=>exact⟨rfl,rfl⟩
 |fn f cs=>exact absurd rfl (h2 f cs)
section
variable {ρ:Type} {P:Program} {Θ:fV} {S:TS}
theorem vL(tr:dJ){i j n:Nat}{y:tr.t.D}(hy:tr.l[i]? =some y)(hh:tr.hole=none\/(tr.hole=some (i,j)/\n=1))(hn:j+n<=tr.t.width):
  ∃Rh rowh,tr.tree= .sl tr.t.width Rh/\Rh[i]? =some rowh/\Rh.length=tr.l.length/\rowh.length=tr.t.width/\rowh.take j=(tr.t.row y).take j/\rowh.drop (j+n)=(tr.t.row y).drop (j+n)/\ ∀X,Rh.set i X=(tr.l.map tr.t.row).set i X:=by
 obtain⟨t,l,hole⟩:=tr;simp only at hy hh hn y;have hi:=(ai.1 hy).1;rcases hh with hh| ⟨hh,rfl⟩
 ·subst hh;exact⟨l.map t.row,t.row y,rfl,by rw[aw,hy];rfl,by simp,t.row_length y,rfl,rfl,λ_=>rfl⟩
 ·subst hh;have e1: (l.map t.row).getD i [] =t.row y:=by simp[aB,hy]
  refine⟨(l.map t.row).set i ((t.row y).set j .dd),(t.row y).set j .dd,by simp only[dJ.tree,e1],by simp[hi],by simp,by simp[t.row_length],?_,?_,λX=>by rw[List.set_set]⟩
  all_goals grind [List.take_set,List.set_eq_of_length_le,List.drop_set_of_lt]
theorem yI(hΘ:ek P Θ)(hS:S.ok){t:TypeId}{a v:V}(ha:a.ok S.gh)(hv:v.ok S.gh){κ:TS->Option ρ}{r:ρ}(h:uJ Θ S t a v κ=some r): ∃S',store P S.st t a.av v.av=some (TS.st S')/\S'.ok/\eL S.gh S'.gh/\κ S'=some r:=by
 unfold uJ at h;split at h
 ·cases h
 ·rename_i ti hti;have hok:=hΘ _ _ hti;split at h
  ·cases h
  ·cases h
  ·cases h
  ·rename_i x hx1 hx2;obtain⟨hc1,hc2⟩:=oZ (x:=x) (λe=>hx1 (by rw[e])) (λf cs e=>hx2 f cs (by rw[e]));obtain⟨h1,h'⟩:=dC h;clear h;have h:=h';clear h';have hlen:x.cells.length=ti.ty.width:=an h1
   have hcok: ∀c∈x.cells,c.ok S.gh:=by
    cases x with
    |cl c=>intro c' hc';simp only[V1.cells,aL] at hc';subst hc';exact hv
    |agg cs=>exact hv
    |fn f cs=>exact absurd rfl (hx2 f cs)
   have hfst: ¬ ((V.v x).av.cells.length≠P.cellsOf t\/(V.v x).av.isDead=true):=by rw[hc1,hc2,hok.cells];simp[hlen]
   split at h
   ·rename_i b j;split at h
    ·rename_i cs hcs;obtain⟨h2,h⟩:=dC h;have h2:j+x.cells.length<=cs.length:=ax h2;have hcs':S.bx[b]? =some cs:=by rw[<-eg];exact hcs
     have hb:b<S.bx.length:=(ai.1 hcs').1;refine⟨{ S with bx:=dW S.bx b (cs.take j++x.cells++cs.drop (j+x.cells.length)) },?_,⟨hS.env,λcs' hcs'' c hc=> ?_⟩,eL.refl _,h⟩
     ·have e0:store P S.st t (V.v (.cl (.ptrB b j))).av (V.v x).av=(S.st.bx b).bind λcs=>if j+(V.v x).av.cells.length<=cs.length then some { S.st with bx:=dQ S.st.bx b (some (cs.take j++(V.v x).av.cells++cs.drop (j+(V.v x).av.cells.length))) } else none:=by
       unfold store;simp only;rw[if_neg hfst];rfl
      have e1:S.st.bx b=some (cs.map Cl.av):=by show (gA S.bx b).map _=_;rw[hcs];rfl
      simp_all [wN]
     ·rw[eG] at hcs'';rcases cY hcs'' with h3|h3
      ·exact hS.bx _ h3 c hc
      ·subst h3;simp only[bC] at hc;have hm:=aA hcs';rcases hc with (hc|hc)|hc
       ·exact hS.bx _ hm c (bS hc)
       ·exact hcok c hc
       ·exact hS.bx _ hm c (bF hc)
    ·cases h
   ·rename_i p sz i j;obtain⟨pr,pl⟩:=p;cases pl with
    |cons a l=>cases h
    |nil=>
     simp only at h;split at h
     ·rename_i tr htr;have hg:=dJ.look htr;obtain⟨h2,h⟩:=dC h;simp only[ak] at h2;have h3:tr.t.width=sz:=an h2.1.1;have h4:j+ti.ty.width<=sz:=ax h2.1.2;have hgst:S.st.gh pr=some tr.tree:=by show (dX S.gh pr).map _=_;rw[hg];rfl
      have e2: (V1.av x).cells=x.cells.map Cl.av:=hc1
      have put: ∀ (y:tr.t.D) (hy:tr.l[i]? =some y) (Rh:List (List T)) (rowh:List T),tr.tree= .sl tr.t.width Rh->Rh[i]? =some rowh->rowh.length=tr.t.width->
        store P S.st t (V.v (.cl (.ptrT ⟨pr,[]⟩ sz i j))).av (V.v x).av=(if ti.ty.flatB then some (S.with pr S.gh.length sz (Rh.set i (rowh.take j++x.cells.map (λc=>T.ofSc c.av)++rowh.drop (j+ti.ty.width)))) else
         if S.fz<=pr then dV (S.with pr S.gh.length sz (Rh.set i (rowh.take j++x.cells.map (λc=>T.ofSc c.av)++rowh.drop (j+ti.ty.width)))) ⟨pr,[]⟩ i j (ti.ty.csh.map tJ) (x.cells.map Cl.av) else none):=by
       intro y hy Rh rowh g1 g2 g3;have hi:i<Rh.length:=(ai.1 g2).1
       have e0:store P S.st t (V.v (.cl (.ptrT ⟨pr,[]⟩ sz i j))).av (V.v x).av=(fU S.st ⟨pr,[]⟩ sz i j ((V.v x).av.cells.map T.ofSc)).bind λS'=>if (gk P 9 t).all (· ==0) then some S' else if S.st.fz<=pr then dV S' ⟨pr,[]⟩ i j (gk P 9 t) (V.v x).av.cells else none:=by unfold store;simp only;rw[if_neg hfst];rfl
       rw[e0,hc1]
       have hrows:S.st.rows ⟨pr,[]⟩ sz=some Rh:=by unfold St.rows St.look;simp only[hgst,g1,T.go,h3,if_true]
       unfold fU;rw[hrows];simp only[aH];have hgd:Rh.getD i [] =rowh:=by simp[aB,g2]
       rw[hgd,if_pos ⟨hi,by rw[g3,hlen,h3];exact h4⟩];simp only[ao,hok.sh,kg]
       have hset:S.st.setAt ⟨pr,[]⟩ (.sl sz (Rh.set i (rowh.take j++(x.cells.map Cl.av).map T.ofSc++rowh.drop (j+x.cells.length))))=S.with pr S.gh.length sz (Rh.set i (rowh.take j++x.cells.map (λc=>T.ofSc c.av)++rowh.drop (j+ti.ty.width))):=by
        unfold St.setAt TS.with
        simp only[hgst,aF,T.put,ba,hlen];rfl
       rw[hset];rfl
      have fin: ∀ (S1:TS) (y z:tr.t.D) (vs:List C) (Rh:List (List T)) (rowh:List T),yZ S S1 pr->tr.l[i]? =some y->tr.t.flat z=(tr.t.flat y).take j++vs++(tr.t.flat y).drop (j+ti.ty.width)->
        rowh.take j=(tr.t.row y).take j->rowh.drop (j+ti.ty.width)=(tr.t.row y).drop (j+ti.ty.width)->(∀X,Rh.set i X=(tr.l.map tr.t.row).set i X)->
        S1.with pr S.gh.length sz (Rh.set i (rowh.take j++vs.map C.tree++rowh.drop (j+ti.ty.width)))=({ S1 with gh:=dW S1.gh pr (some ⟨tr.t,tr.l.set i z,none⟩) }:TS).st/\
        ({ S1 with gh:=dW S1.gh pr (some ⟨tr.t,tr.l.set i z,none⟩) }:TS).ok/\eL S.gh (dW S1.gh pr (some ⟨tr.t,tr.l.set i z,none⟩)):=by
       intro S1 y z vs Rh rowh hT hy hz q1 q2 q3;have hg1:dX S1.gh pr=some tr:=hT.no.trans hg;have hgle:eL S1.gh (dW S1.gh pr (some ⟨tr.t,tr.l.set i z,none⟩)):=eL.put hg1 (by simp);refine⟨?_,TS.ok_gh hT.ok hgle,hT.gle.trans hgle⟩;rw[lp _ _ (jh hg1)];unfold TS.with
       rw[q1,q2,q3]
       have hrow:tr.t.row z=(tr.t.row y).take j++vs.map C.tree++(tr.t.row y).drop (j+ti.ty.width):=by rw[tr.t.row_flat,hz,tr.t.row_flat];simp[b9,cA]
       have hng:S.gh.length=S1.st.ng:=hT.len.symm;rw[hng]
       congr 3
       simp only[dJ.tree,h3];rw[<-hrow,List.map_set]
      cases hfl:ti.ty.flatB with
      |true=>
       rw[hfl] at h;simp only[cond_true] at h;split at h
       ·rename_i vs hh hvs;obtain⟨y,hy,h⟩:=ah.1 h;split at h
        ·rename_i z hz;obtain⟨k1,k2⟩:=te hvs;obtain⟨Rh,rowh,g1,g2,g3,g4,g5,g6,g7⟩:=vL tr hy (.inl hh) (by rw[h3];exact h4);obtain⟨f1,f2,f3⟩:=fin S y z vs Rh rowh ⟨hS,eL.refl _,rfl,rfl,rfl,rfl⟩ hy (Ty.unflat_some _ _ _ hz) g5 g6 g7
         grind
        ·cases h
       ·cases h
      |false=>
       rw[hfl] at h;simp only[cond_false] at h;obtain⟨h5,h⟩:=dC h;have h5:S.fz<=pr:=ax h5;split at h
       ·rename_i vs S1 hvs;obtain⟨y,hy,h⟩:=ah.1 h;split at h
        ·rename_i z hz
         have main: (tr.hole=none\/(tr.hole=some (i,j)/\ti.ty.width=1))->κ { S1 with gh:=dW S1.gh pr (some ⟨tr.t,tr.l.set i z,none⟩) } =some r-> ∃S',store P S.st t (V.v (.cl (.ptrT ⟨pr,[]⟩ sz i j))).av (V.v x).av=some (TS.st S')/\S'.ok/\eL S.gh S'.gh/\κ S'=some r:=by
          intro hh hk;obtain⟨Rh,rowh,g1,g2,g3,g4,g5,g6,g7⟩:=vL tr hy hh (by rw[h3];exact h4);have hi:i<Rh.length:=(ai.1 g2).1;have htk: (rowh.take j).length=j:=by simp;omega
          have hcl: (x.cells.map λc=>T.ofSc c.av).length=x.cells.length:=by simp
          obtain⟨m1,m2,m3,m4,m5⟩:=oV pr i S.gh.length sz ti.ty.csh x.cells j S S1 vs (Rh.set i (rowh.take j++x.cells.map (λc=>T.ofSc c.av)++rowh.drop (j+ti.ty.width))) (rowh.take j++x.cells.map (λc=>T.ofSc c.av)++rowh.drop (j+ti.ty.width)) hS hcok hvs (by simp[hi]) (by simp;omega) (λk c hc=>by grind)
          obtain⟨f1,f2,f3⟩:=fin S1 y z vs Rh rowh m1 hy (Ty.unflat_some _ _ _ hz) g5 g6 g7;refine⟨_,?_,f2,f3,hk⟩;rw[put y hy Rh rowh g1 g2 g4,hfl,if_neg (by simp),if_pos h5,m5,<-f1]
          congr 2
          rw[List.set_set]
          congr 1
          rw[bk,bk,List.take_append_of_le_length (by omega),List.take_take,Nat.min_self,<-bk]
          congr 1
          rw[<-bk,List.drop_append,bL,htk,hcl,hlen,c9,cE,bV (by simp;omega),bG]
         split at h
         ·grind
         ·rename_i i0 j0 hh;obtain⟨h6,h⟩:=dC h;simp only[ak] at h6
          grind [dS,Nat.eq_of_beq_eq_true]
        ·cases h
       ·cases h
     ·cases h
   ·cases h
end
end
section
open Go
theorem pu(X:St)(p:dM)(i:Nat): ∀ (ss:List Nat) (vs:List AV) (j:Nat),ss.all (· ==0)=true->dV X p i j ss vs=some X:=by
 intro ss
 induction ss with
 |nil=>intro vs j _;cases vs<;>rfl
 |cons s ss ih=>
  intro vs j h;simp only[b8,ak,beq_iff_eq] at h;cases vs with
  |nil=>rfl
  |cons v vs=>simp_all [dV]
def jN(no:Nat)(ss:List Nat):Nat->List V->St->Option St
 | _,[],X=>some X
 |k,v::vs,X=>(dV X ⟨no,[]⟩ k 0 ss v.av.cells).bind (jN no ss (k+1) vs)
theorem wA(el:Ty)(no N:Nat): ∀ (vs:List V) (k:Nat) (S S1:TS) (l:List el.D) (R:List (List T)),S.ok->S.gh.length=no->(∀v∈vs,v.ok S.gh)->iR el S vs=some (l,S1)->R.length=k+vs.length->
  (∀ (m:Nat) (v:V),vs[m]? =some v->R[k+m]? =some (v.av.cells.map T.ofSc))->
  yZ S S1 no/\l.length=vs.length/\(∀v∈vs,v.av.cells.length=el.width/\v.av.isDead=false)/\jN no el.shs k vs (S.with no N el.width R)=some (S1.with no N el.width (R.take k++l.map el.row)):=by
 intro vs
 induction vs with
 |nil=>
  intro k S S1 l R hS hno hvs h hl ho;simp only[iR,af,au] at h;obtain⟨rfl,rfl⟩:=h;refine⟨⟨hS,eL.refl _,rfl,rfl,rfl,rfl⟩,rfl,(λv hv=>by cases hv),?_⟩
  grind [jN,List.take_of_length_le]
 |cons v vs ih=>
  intro k S S1 l R hS hno hvs h hl ho;cases v with
  |tup x=>simp[iR] at h
  |v x=>
   simp only[iR] at h;split at h
   ·rename_i ws S2 hw;split at h
    ·rename_i y ys S3 hy hys;simp only[af,au] at h;obtain⟨rfl,rfl⟩:=h;have hv:=hvs _ aK;have hrow:=ho 0 _ rfl;rw[bI] at hrow;have hk:k<R.length:=(ai.1 hrow).1
     have hcok: ∀c∈x.cells,c.ok S.gh:=by
      cases x with
      |cl c=>intro c' hc';simp only[V1.cells,aL] at hc';subst hc';exact hv
      |agg cs=>exact hv
      |fn f cs=>intro c' hc';simp only[V1.cells,aL] at hc';subst hc';trivial
     rw[hno] at hw
     have hx:x≠ .cl .dead/\(∀f cs,x≠ .fn f cs):=by
      have nd: ∀ (cs:List Cl),cs= [.dead] ->gX no 0 S el.csh cs=some (ws,S2)->False:=by
       intro cs hcs h;subst hcs;cases hc:el.csh with
       |nil=>rw[hc] at h;simp[gX] at h
       |cons e es=>grind [gX,eU]
      constructor
      ·intro e;subst e;exact nd _ rfl hw
      ·intro f cs e;subst e;exact nd _ rfl hw
     obtain⟨hc1,hc2⟩:=oZ hx.1 hx.2
     obtain⟨m1,m2,m3,m4,m5⟩:=oV no k N el.width el.csh x.cells 0 S S2 ws R ((V.v x).av.cells.map T.ofSc) hS hcok hw hrow (by rw[hc1];simp) (λm c hm=>by grind)
     have hwid:x.cells.length=el.width:=by
      rw[<-m2];cases el with
      |st n=>cases n<;>rfl
      | _=>rfl
     obtain⟨g1,g2,g3,g4⟩:=ih (k+1) S2 S3 ys (R.set k (el.row y)) m1.ok (m1.len.trans hno) (λv hv=>V.ok_mono m1.gle (hvs v (aI _ hv))) hys (by simp at hl ⊢;omega) (λm v hm=>by rw[List.getElem?_set_ne (by omega),show k+1+m=k+(m+1) by omega];exact ho (m+1) v (by simpa using hm))
     refine⟨⟨g1.ok,m1.gle.trans g1.gle,g1.len.trans m1.len,g1.fz.trans m1.fz,g1.nt.trans m1.nt,g1.no.trans m1.no⟩,by simp[g2],λv hv=> ?_,?_⟩
     ·grind
     ·simp only[jN];have e1:el.shs=el.csh.map tJ:=rfl;rw[hc1,e1,m5];simp only[ao]
      have e2: ((V.v x).av.cells.map T.ofSc).take 0++ws.map C.tree++((V.v x).av.cells.map T.ofSc).drop (0+x.cells.length)=el.row y:=by rw[hc1,dw,bG,bV (by simp),bP,el.row_flat,Ty.unflat_some _ _ _ hy]
      rw[e2,<-e1,g4]
      congr 2
      have e3: (R.set k (el.row y)).take (k+1)=R.take k++ [el.row y] :=by
       rw[List.take_set,List.take_add_one,aq hk,Option.toList_some];have hlen: (R.take k).length=k:=by simp;omega
       rw[List.set_append_right _ _ (by omega),hlen,c9];rfl
      rw[e3];simp
    ·cases h
   ·cases h
theorem o9(t:Ty):t.zcs.map C.tree=List.zipWith zc t.shs t.zvs:=by
 cases t with
 |st n=>cases n<;>rfl
 | _=>rfl
theorem nZ: ∀ {a b:List Nat},B7 a b=true->a=b
 | [],[],_=>rfl
 |a::l,b::m,h=>by
  simp only[B7] at h;cases hb:Nat.beq a b with
  |true=>rw[hb] at h;rw[an hb,nZ h]
  |false=>rw[hb] at h;cases h
 | [],_::_,h=>by cases h
 | _::_,[],h=>by cases h
theorem sg(no:Nat)(ss:List Nat)(e:Operand->AV): ∀ (ps:List (Nat×Operand)) (vs:List V) (k:Nat) (X:St),ps.map (·.1)=List.range' k ps.length->ps.map (λx=>e x.2)=vs.map V.av->
  ps.foldlM (λS' x=>dV S' ⟨no,[]⟩ x.1 0 ss (e x.2).cells) X=jN no ss k vs X:=by
 intro ps
 induction ps with
 |nil=>
  intro vs k X _ h;cases vs with
  |nil=>rfl
  |cons v vs=>cases h
 |cons p ps ih=>
  intro vs k X h1 h2;cases vs with
  |nil=>cases h2
  |cons v vs=>
   simp only[aO,bu] at h2;simp only[aO,bD,cq,bu] at h1;simp only[List.foldlM_cons,jN,h1.1,h2.1];cases dV X ⟨no,[]⟩ k 0 ss v.av.cells with
   |none=>rfl
   |some X'=>exact ih vs (k+1) X' h1.2 h2.2
section
variable {ρ:Type} {P:Program} {Θ:fV} {S:TS} {Y:lz}
theorem zZ{a:AV}{n:Int}(h:mp a=some n): ∃k,a= .sc (.int k n):=by
 unfold mp at h
 grind
theorem z7(c:Cl):qG c.av=uh c:=by
 cases c with
 |c x=>cases x<;>rfl
 | _=>rfl
theorem qm(cs:List Cl): (cs.map Cl.av).any qG=cs.any uh:=by
 rw[List.any_map]
 congr 1
 funext c
 exact z7 c
theorem mU(c:Cl): (V.v (.cl c)).av.cells= [c.av] :=by
 cases c with
 |c x=>cases x<;>rfl
 | _=>rfl
theorem xF{v:V}(h:oh v=true):v.av.cells.any qG=true:=by
 cases v with
 |tup l=>cases h
 |v x=>
  cases x with
  |cl c=>rw[mU];have h: [c].any uh=true:=h;rw[<-qm] at h;exact h
  |agg cs=>have h:cs.any uh=true:=h;rw[<-qm] at h;exact h
  |fn f cs=>cases h
theorem w8{v:V}(h:v.av.cells.any qG=true):oh v=true:=by
 cases v with
 |tup l=>cases h
 |v x=>
  cases x with
  |cl c=>rw[mU] at h;show [c].any uh=true;rw[<-qm];exact h
  |agg cs=>show cs.any uh=true;rw[<-qm];exact h
  |fn f cs=>cases h
theorem oH: ∀ (ets:List (Option Ty)) (cs:List Cl) (xs:List C),gx ets cs=some xs->cs.length=ets.length/\pC (ets.map λ|some e=>e.width|none=>0) (cs.map Cl.av)=some (xs.map C.tree)
 | [],[],xs,h=>by simp only[gx,af] at h;subst h;exact⟨rfl,rfl⟩
 |et::ets,.c x::cs,xs,h=>by
  have h: (match gx ets cs with |some r=>some (x::r)|none=>none)=some xs:=by cases et<;>exact h
  split at h
  ·rename_i r hr;simp only[af] at h;subst h;obtain⟨h1,h2⟩:=oH ets cs r hr;refine⟨by simp[h1],?_⟩;simp only[aO,pC];have : ∀s,CH s (Cl.av (.c x))=some x.tree:=λs=>by cases x<;>rfl
   rw[this,h2];rfl
  ·cases h
 |some t::ets,.em::cs,xs,h=>by
  simp only[gx] at h;split at h
  ·rename_i r hr;simp only[af] at h;subst h;obtain⟨h1,h2⟩:=oH ets cs r hr;refine⟨by simp[h1],?_⟩;simp only[aO,pC,h2];rfl
  ·cases h
 | [],_::_,xs,h=>by simp[gx] at h
 | _::_,[],xs,h=>by simp[gx] at h
 |none::ets,.em::cs,xs,h=>by simp[gx] at h
 | _::ets,.own _ _ _ _ _::cs,xs,h=>by simp[gx] at h
 | _::ets,.pro _::cs,xs,h=>by simp[gx] at h
 | _::ets,.ptrB _ _::cs,xs,h=>by simp[gx] at h
 | _::ets,.ptrT _ _ _ _::cs,xs,h=>by simp[gx] at h
 | _::ets,.dead::cs,xs,h=>by simp[gx] at h
theorem jU(el:Ty): ∀ (vs:List V) (l:List el.D),iz el vs=some l->l.length=vs.length/\jq el.shs (vs.map λv=>v.av.cells)=some (l.map el.row)/\ ∀v∈vs,v.av.cells.length=el.width/\v.av.isDead=false
 | [],l,h=>by simp only[iz,af] at h;subst h;exact⟨rfl,rfl,λv hv=>by cases hv⟩
 | .v x::vs,l,h=>by
   simp only[iz] at h;split at h
   ·rename_i xs hx;split at h
    ·rename_i y ys hy hys;simp only[af] at h;subst h;obtain⟨h1,h2,h3⟩:=jU el vs ys hys;obtain⟨g1,g2⟩:=oH _ _ _ hx
     have n1:x≠ .cl .dead:=λe=>by
      subst e;have hx:gx el.csh [Cl.dead] =some xs:=hx
      grind [gx]
     have n2: ∀f cs,x≠ .fn f cs:=λf cs e=>by
      subst e;have hx:gx el.csh [Cl.dead] =some xs:=hx
      grind [gx]
     obtain⟨hc,hd⟩:=oZ n1 n2
     have hw:el.csh.length=el.width:=by have:=ll el;unfold Ty.shs at this;simpa using this
     refine⟨by simp[h1],?_,λv hv=> ?_⟩
     ·simp only[aO,jq,hc];rw[show el.shs=el.csh.map λ|some e=>e.width|none=>0 from rfl,g2];simp only[ao];rw[show (el.csh.map λ|some e=>e.width|none=>0)=el.shs from rfl,h2,el.row_flat,Ty.unflat_some _ _ _ hy];rfl
     grind
    ·cases h
   ·cases h
 | .tup _::vs,l,h=>by simp[iz] at h
theorem jW[dE](hΘ:ek P Θ)(hY:fC P Y)(hS:S.ok){o:Oper}{κ:V->TS->Option ρ}{r:ρ}(h:jz Θ Y S o κ=some r):
  ∃D v S',fr P D/\step D P S.st o=some (V.av v,TS.st S')/\S'.ok/\v.ok S'.gh/\κ v S'=some r:=by
 have ok: ∀x,(S.opd x).ok S.gh:=λx=>fZ hS x
 have vals:lq Θ S o κ=some r->(∀D:iC,step D P S.st o=(dD D P S.st o).map λv=>(v,S.st))-> ∃D v S',fr P D/\step D P S.st o=some (V.av v,TS.st S')/\S'.ok/\v.ok S'.gh/\κ v S'=some r:=by intro h he;obtain⟨v,S1,h1,h2,h3,h4,h5,h6⟩:=mD (D:=qN) hΘ hS h;exact⟨qN,v,S1,eJ,by rw[he,h1,aF,h2],h3,by rw[h4];exact h5,h6⟩
 obtain⟨dst,op,ty,pos,aft,gd⟩:=o;unfold jz at h;cases op with
 |alloc t=>
  simp only at h;split at h
  ·rename_i ti hti;refine⟨qN,_,{ S with bx:=S.bx++ [ti.ty.zvs.map cC] },eJ,?_,⟨hS.env,λcs hcs c hc=> ?_⟩,?_,h⟩
   ·simp only[step,(hΘ _ _ hti).ze,aF];rw[uH,yR];rfl
   ·rcases bC.1 hcs with h1|h1
    ·exact hS.bx cs h1 c hc
    grind [yS]
   ·trivial
  ·cases h
 |box t x=>
  have fin: ∀ (cs:List Cl),(∀c∈cs,c.ok S.gh)->step qN P S.st ⟨dst,.box t x,ty,pos,aft,gd⟩=some (.ptrB S.bx.length 0,{ S.st with bx:=dQ S.st.bx S.bx.length (some (cs.map Cl.av)),nb:=S.bx.length+1 })->κ (.v (.cl (.ptrB S.bx.length 0))) { S with bx:=S.bx++ [cs] } =some r->
    ∃D v S',fr P D/\step D P S.st ⟨dst,.box t x,ty,pos,aft,gd⟩=some (V.av v,TS.st S')/\S'.ok/\v.ok S'.gh/\κ v S'=some r:=by
   intro cs hcs h1 h2;refine⟨qN,.v (.cl (.ptrB S.bx.length 0)),{ S with bx:=S.bx++ [cs] },eJ,?_,⟨hS.env,λcs' hcs' c hc=> ?_⟩,trivial,h2⟩
   ·rw[h1,uH];rfl
   ·rcases bC.1 hcs' with h3|h3
    ·exact hS.bx cs' h3 c hc
    grind
  simp only at h;split at h
  ·cases h
  ·rename_i c hnd hx;have hc:=ok x;rw[hx] at hc;refine fin [c] (λc' hc'=>by simp only[aL] at hc';subst hc';exact hc) ?_ h;simp only[step,dG,hx];cases c with
   |dead=>exact absurd rfl hnd
   |c y=>cases y<;>rfl
   | _=>rfl
  ·rename_i cs hx;have hc:=ok x;rw[hx] at hc;refine fin cs hc ?_ h;simp only[step,dG,hx];rfl
  ·cases h
 |store t a x=>simp only at h;obtain⟨S1,h1,h2,h3,h⟩:=yI hΘ hS (ok a) (ok x) h;refine⟨qN,_,S1,eJ,?_,h2,V.ok_dead _,h⟩;simp only[step,dG,h1,aF];rfl
 |makeSlice t l c=>
  simp only at h;split at h
  ·rename_i ti hti;split at h
   ·rename_i el he;obtain⟨elT',g1,g2,g3,g4,g5,g6⟩:=(hΘ _ _ hti).el el he;obtain⟨n,h1,h⟩:=ji h;obtain⟨m,h2,h⟩:=ji h;split at h
    ·rename_i z hz;obtain⟨hb,h⟩:=dS h;have hz':=Ty.unflat_some _ _ _ hz
     have hzr:el.row z=List.zipWith zc el.shs el.zvs:=by rw[el.row_flat,hz',o9]
     refine⟨qN,_,{ S with gh:=S.gh++ [some ⟨el,List.replicate n.toNat z,none⟩] },eJ,?_,TS.ok_gh hS (eL.app _ _),?_,h⟩
     ·simp only[step,g1,ao,dG,h1,h2];rw[lX g2 g5 g6];simp only[ao]
      have hn:n<=n*(ti.el:Int):=by
       have h1e: (1:Int)<=ti.el:=by omega
       have:=cM h1e hb.1
       rwa [Int.mul_one] at this
      rw[if_pos ⟨hb.1,hb.2.1,by rw[g3,Int.mul_comm];exact hb.2.2,Int.le_trans hn hb.2.2⟩];rw[oT,g2];simp only[dJ.tree,List.map_replicate,hzr];rfl
     ·refine⟨by simp,λ_=>⟨rfl,rfl,λtr htr=> ?_⟩⟩;rw[ft,if_pos rfl] at htr;cases htr;simp
    ·cases h
   ·cases h
  ·cases h
 |buildSlice t len parts=>
  simp only at h;split at h
  ·rename_i ti hti;split at h
   ·rename_i el he;obtain⟨elT',g1,g2,g3,g4,g5,g6⟩:=(hΘ _ _ hti).el el he;obtain⟨hb,h⟩:=dC h;simp only[ak] at hb;have hb1:len*el.width<=1048576:=ax hb.1;have hb2:=nZ hb.2
    have hpl:parts.toList.length=len:=by have:=congrArg List.length hb2;simpa using this
    cases hro: (parts.toList.map λx=>S.opd x.2).any oh with
    |true=>
     rw[hro] at h;simp only[cond_true] at h;split at h
     ·rename_i l hl;obtain⟨m1,m2,m3⟩:=jU el _ l hl;refine⟨qN,.v (.cl (.c (.ls el l))),S,eJ,?_,hS,trivial,h⟩;simp only[step,g1,ao]
      rw[if_pos ⟨by rw[g2];exact hb1,hb2,by rw[g2];exact el.width_pos,by rw[g6];rfl,by
       rw[ay];intro y hy;obtain⟨q1,q2⟩:=m3 (S.opd y.2) (aG.2 ⟨y,hy,rfl⟩)
       simp_all [dG]⟩]
      have e1: (parts.toList.any λx=>(opd S.st x.2).cells.any qG)=true:=by rw[bN] at hro ⊢;obtain⟨v,hv,hr⟩:=hro;obtain⟨x,hx,rfl⟩:=aG.1 hv;exact⟨x,hx,by rw[dG];exact xF hr⟩
      have e2: (parts.toList.map λx=>(opd S.st x.2).cells)=(parts.toList.map λx=>S.opd x.2).map λv=>v.av.cells:=by rw[ba];exact aE λx _=>by simp only[Function.comp,dG]
      rw[if_pos e1,e2,g5,m2,g2];rfl
     ·cases h
    |false=>
    rw[hro] at h;simp only[cond_false] at h;split at h
    ·rename_i l S1 hp
     have hvok: ∀v∈parts.toList.map (λx=>S.opd x.2),v.ok S.gh:=λv hv=>by grind
     have hR: ∀ (m:Nat) (v:V),(parts.toList.map λx=>S.opd x.2)[m]? =some v->(parts.toList.map λx=>(opd S.st x.2).cells.map T.ofSc)[0+m]? =some (v.av.cells.map T.ofSc):=by intro m v hm;rw[aP,aw];rw[aw] at hm;simp only[aj] at hm;obtain⟨y,hy,rfl⟩:=hm;rw[hy];simp only[aF,dG]
     obtain⟨m1,m2,m3,m4⟩:=wA el S.gh.length (S.gh.length+1) _ 0 S S1 l _ hS rfl hvok hp (by simp) hR;have hlen:l.length=len:=by rw[m2];simp[hpl]
     refine⟨qN,_,{ S1 with gh:=S1.gh++ [some ⟨el,l,none⟩] },eJ,?_,TS.ok_gh m1.ok (eL.app _ _),?_,h⟩
     ·simp only[step,g1,ao]
      rw[if_pos ⟨by rw[g2];exact hb1,hb2,by rw[g2];exact el.width_pos,by rw[g6];rfl,by
       rw[ay];intro y hy;obtain⟨q1,q2⟩:=m3 (S.opd y.2) (aG.2 ⟨y,hy,rfl⟩)
       simp_all [dG]⟩]
      have hfold:=sg S.gh.length el.shs (opd S.st) parts.toList (parts.toList.map λx=>S.opd x.2) 0 (S.with S.gh.length (S.gh.length+1) el.width (parts.toList.map λx=>(opd S.st x.2).cells.map T.ofSc)) (by rw[hb2,hpl,bT]) (by grind [List.map_congr_left,dG])
      have e0: (parts.toList.any λx=>(opd S.st x.2).cells.any qG)=false:=by
       rw[List.any_eq_false] at hro ⊢;intro x hx;have:=hro (S.opd x.2) (aG.2 ⟨x,hx,rfl⟩);rw[dG]
       exactλhc=>this (w8 hc)
      rw[if_neg (by rw[e0];decide)]
      have hX: ({ S.st with gh:=dQ S.st.gh S.st.ng (some (.sl (P.cellsOf elT') (parts.toList.map λx=>(opd S.st x.2).cells.map T.ofSc))),ng:=S.st.ng+1 }:St)=S.with S.gh.length (S.gh.length+1) el.width (parts.toList.map λx=>(opd S.st x.2).cells.map T.ofSc):=by rw[g2];rfl
      rw[hX,g5];have hng:S.st.ng=S.gh.length:=rfl;rw[hng]
      have hres: (if (el.shs.all (· ==0))=true then some (S.with S.gh.length (S.gh.length+1) el.width (parts.toList.map λx=>(opd S.st x.2).cells.map T.ofSc)) else
        parts.toList.foldlM (λS' x=>dV S' ⟨S.gh.length,[]⟩ x.1 0 el.shs (opd S.st x.2).cells) (S.with S.gh.length (S.gh.length+1) el.width (parts.toList.map λx=>(opd S.st x.2).cells.map T.ofSc)))=some (S1.with S.gh.length (S.gh.length+1) el.width (l.map el.row)):=by
       rw[hfold];simp only[dw,bG] at m4;rw[m4];split
       ·rename_i hfl
        have : ∀ (vs:List V) (k:Nat) (X:St),jN S.gh.length el.shs k vs X=some X:=by
         intro vs
         induction vs with
         |nil=>intro k X;rfl
         |cons v vs ih=>grind [jN,pu]
        rw[this] at m4;exact m4
       ·rfl
      rw[hres];simp only[aF];rw[oT,m1.len,g2];simp only[V.av,V1.av,Cl.av,hlen];rfl
     ·refine⟨by simp,λ_=>⟨rfl,rfl,λtr htr=> ?_⟩⟩;rw[ft,if_pos rfl] at htr;cases htr;rfl
    ·cases h
   ·cases h
  ·cases h
 |call c=>
  obtain⟨cl,as,ts⟩:=c;cases cl with
  |value f=>simp only at h;exact xi hΘ hY hS h
  |invoke a b=>exact vals h (λD=>rfl)
  |builtin b=>
   cases b with
   |append=>
    simp only at h;split at h
    ·rename_i s x t t' e1 e2;cases htb:Nat.beq t t' with
     |false=>
      rw[htb] at h;simp only[cond_false] at h;have hne: ¬t=t':=λe=>by rw[e,cJ] at htb;cases htb
      unfold A7 at h;split at h
      ·rename_i ti hti;split at h
       ·rename_i el he hs;obtain⟨elT',g1,g2,g3,g4,g5,g6⟩:=(hΘ _ _ hti).el el he;obtain⟨n,h1,h⟩:=ji h;split at h
        ·rename_i z hz;obtain⟨hb,h⟩:=dS h;have hz':=Ty.unflat_some _ _ _ hz
         have hzr:el.row z=List.zipWith zc el.shs el.zvs:=by rw[el.row_flat,hz',o9]
         obtain⟨kk,hkk⟩:=zZ h1;refine⟨qN,_,{ S with gh:=S.gh++ [some ⟨el,List.replicate n.toNat z,none⟩] },eJ,?_,TS.ok_gh hS (eL.app _ _),?_,h⟩
         ·simp only[step,e1,e2,if_neg hne,g1,ao];rw[lX g2 g5 g6];simp only[ao,dG,hs,hkk]
          have hn:n<=n*(ti.el:Int):=by
           have h1e: (1:Int)<=ti.el:=by omega
           have:=cM h1e (Int.le_of_lt hb.1)
           rwa [Int.mul_one] at this
          show (if 0<n/\_ then _ else _)=_;rw[if_pos ⟨hb.1,by rw[g3,Int.mul_comm];exact hb.2,Int.le_trans hn hb.2,by rw[g2];exact el.width_pos⟩];rw[oT,g2];simp only[dJ.tree,List.map_replicate,hzr];rfl
         ·refine⟨by simp,λ_=>⟨rfl,rfl,λtr htr=> ?_⟩⟩;rw[ft,if_pos rfl] at htr;cases htr;simp
        ·cases h
       ·cases h
      ·cases h
     |true=>
     rw[htb] at h;simp only[cond_true] at h;have h':=h;have ht:t=t':=an htb;clear h;subst ht;have e1:as= #[s,x] :=by apply Array.ext';simpa using e1
     have e2:ts= #[t,t] :=by apply Array.ext';simpa using e2
     subst e1 e2;obtain⟨v,S1,h1,h2,h3,h4⟩:=zf (D:=qN) (dst:=dst) (ty:=ty) (pos:=pos) (aft:=aft) (gd:=gd) hΘ hS h'
     grind [eJ]
    ·cases h
   | _=>exact vals h (λD=>rfl)
 |convert s d x=>
  simp only at h;split at h
  ·rename_i p sz lo len wh hx;split at h
   ·rename_i si di hsi hdi;split at h
    ·rename_i hs8 hds;obtain⟨t,l,g1,g0,h⟩:=eE h;clear g0;unfold CJ at h;split at h
     ·rename_i l;obtain⟨hb,h⟩:=dC h;have hb:sz=1:=an hb;subst hb;unfold iteP at h;split at h
      ·rename_i hc;obtain⟨u,u1,u2,_⟩:=(hΘ _ _ hsi).el _ hs8;have u8:=(hΘ _ _ hsi).el8 _ _ hs8 u1;have hd:mG P d=true:=by rw[(hΘ _ _ hdi).str,hds]
       refine⟨qN,_,S,eJ,?_,hS,V.ok_sc _ _,h⟩
       have hrows:S.st.rows p 1=some (l.map (Ty.row (.i .u8))):=by unfold St.rows;rw[g1];rfl
       have hbt:jG (((l.map (Ty.row (.i .u8))).drop lo).take len)=some ((l.drop lo).take len):=by
        rw[<-cA,<-b9];generalize (l.drop lo).take len=m
        induction m with
        |nil=>rfl
        |cons n m ih=>simp_all [jG,Ty.row]
       have ex:opd S.st x= .own p 1 lo len:=by rw[dG,hx];rfl
       simp only[step,ex,u1,ao];rw[if_pos ⟨by unfold Bx;rw[u8],hd,by first |exact trivial|exact rfl,hc.1⟩,hrows];simp only[ao];rw[if_pos (by rw[aH];exact hc.2),hbt];rfl
      ·cases h
     ·cases h
    ·cases h
   ·cases h
  ·rename_i hno;refine vals h (λD=> ?_);simp only[step];split
   ·rename_i p sz lo len he;exfalso;rw[dG] at he;cases hv:S.opd x with
    |v y=>
     cases y with
     |cl c=>
      cases c with
      |own p' sz' lo' len' w=>exact hno _ _ _ _ _ hv
      |c y=>rw[hv] at he;cases y<;>cases he
      | _=>rw[hv] at he;cases he
     | _=>rw[hv] at he;cases he
    | _=>rw[hv] at he;cases he
   ·rfl
 | _=>exact vals h (λD=>rfl)
end
end
end Go.Proofs.YtkghndikalnipaaGreat.En
