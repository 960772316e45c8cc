import Derived.Test.YtkghndikalnipaaGreatZX6
set_option linter.unusedSimpArgs false
set_option linter.unusedVariables false
namespace Go.Proofs.YtkghndikalnipaaGreat.En
section
open Go
theorem eO{α β:Type}{P:Program}(s:Sem α)(f:α->Sem β):eR P (s >>=f)=(eR P s).bind λa=>eR P (f a):=by
 show eR P (s.bind f)=_
 induction s with
 |pure a=>rfl
 |program k ih=>exact ih P
 | _=>rfl
theorem eV{α:Type}{P:Program}(a:α):eR P (pure a)=some a:=rfl
theorem xI: ∀ {zs:List Value} {a:List Cl},mu zs a=true-> ∃xs:List Value,a=xs.map (λx=>Cl.c (.sc x))
 | [],[],_=>⟨[],rfl⟩
 | .int k n::zs,a,h=>by
   unfold mu at h;split at h
   ·rename_i heq;cases heq
   ·rename_i k1 n1 zs1 k2 n2 cs h1;have hd:=h;cases hk:decide (k1=k2) with
    |false=>rw[hk] at h;cases h
    |true=>rw[hk] at h;obtain⟨xs,hx⟩:=xI (zs:=zs1) (a:=cs) h;exact⟨.int k2 n2::xs,by rw[hx];rfl⟩
   all_goals grind
 | .bool b::zs,a,h=>by
   unfold mu at h;split at h
   ·rename_i heq;cases heq
   ·rename_i h1;cases h1
   ·rename_i b1 zs1 b2 cs h1;obtain⟨xs,hx⟩:=xI (zs:=zs1) (a:=cs) h;exact⟨.bool b2::xs,by rw[hx];rfl⟩
   ·cases h
 | .float _ _::_,_,h=>by simp[mu] at h
 | .complex _ _ _::_,_,h=>by simp[mu] at h
 | .string _::_,_,h=>by simp[mu] at h
 | .pointer _::_,_,h=>by simp[mu] at h
 | .slice _ _ _::_,_,h=>by simp[mu] at h
 | .map _::_,_,h=>by simp[mu] at h
 | .chan _::_,_,h=>by simp[mu] at h
 | .func _ _ _::_,_,h=>by simp[mu] at h
 | .nilFunc::_,_,h=>by simp[mu] at h
 | .iface _ _::_,_,h=>by simp[mu] at h
 | .nilIface::_,_,h=>by simp[mu] at h
 | .agg _::_,_,h=>by simp[mu] at h
 | .tuple _::_,_,h=>by simp[mu] at h
 | [],_::_,h=>by simp[mu] at h
theorem Nq(f:AV->Option Value)(hf: ∀v,f (.sc v)=some v): ∀xs:List Value,((xs.map λx=>Cl.c (.sc x)).map Cl.av).mapM f=some xs
 | [] =>rfl
 |x::xs=>by simp only[aY,c9,Nq f hf xs];show (f (.sc x)).bind _=_;rw[hf];rfl
theorem Nr(xs:List Value):th (V.v (.agg (xs.map λx=>Cl.c (.sc x)))).av=some (.agg xs.toArray):=by simp only[V.av,V1.av,th];rw[Nq _ (λ_=>rfl)];rfl
theorem fM{P:Program}{t:TypeId}{d:TypeDesc}(h:P.underlying t=some d):eR P (underlying t)=some d:=by simp only[underlying,eO,program,eR,ae,h];rfl
section
variable {ρ:Type} {P:Program} {Θ:n8} {S:TS}
theorem Qx(hΘ:gz P Θ){t:TypeId}{x y:V}{κ:Bool->Option ρ}{r:ρ}(h:Xf Θ t x y κ=some r):
  ∃b,κ b=some r/\((∃k a c,x.av= .sc (.int k a)/\y.av= .sc (.int k c)/\b=(a==c))\/
   ((∀k a k' c,¬ (x.av= .sc (.int k a)/\y.av= .sc (.int k' c)))/\ ∃xv yv,th x.av=some xv/\th y.av=some yv/\(∀op xo yo,eR P (eqGuard op t xo yo xv yv)=some ())/\eR P (binOp .eql t xv yv)=some (.bool b)/\eR P (binOp .neq t xv yv)=some (.bool (!b)))):=by
 unfold Xf at h;split at h
 ·rename_i k a k' c;split at h
  ·rename_i hk;subst hk;exact⟨_,h,.inl ⟨k,a,c,rfl,rfl,rfl⟩⟩
  ·cases h
 ·rename_i a c;split at h
  ·rename_i ti hti;split at h
   ·rename_i hb;have hu:=(hΘ _ _ hti).bool hb
    have hE:eR P (Op.equal t (.bool a) (.bool c))=some (a==c):=by show eR P (Op.equalIn (9999+1) t (.bool a) (.bool c))=_;rw[Op.equalIn];simp only[eO,fM hu,ae,eV]
    refine⟨_,h,.inr ⟨λk a k' c hc=>by simp[V.av,V1.av,Cl.av,C.av] at hc,.bool a,.bool c,rfl,rfl,λop xo yo=> ?_,?_,?_⟩⟩
    ·cases op<;>simp[eqGuard,eV]<;>rfl
    all_goals grind [binOp,eO,eV]
   ·cases h
  ·cases h
 ·rename_i a c;refine⟨_,h,.inr ⟨λk a k' c hc=>by simp[V.av,V1.av,Cl.av,C.av] at hc,.string a,.string c,rfl,rfl,λop xo yo=> ?_,?_,?_⟩⟩
  ·cases op<;>simp[eqGuard,eV]<;>rfl
  ·simp only[binOp,Op.stringOp,eV];rfl
  ·simp only[binOp,Op.stringOp,eV];rfl
 ·rename_i a c;split at h
  ·rename_i ti hti;obtain⟨h1,h'⟩:=eB h;simp only[al] at h1;obtain⟨⟨⟨h1,hfl⟩,h2⟩,h3⟩:=h1;split at h'
   ·rename_i b hb;obtain⟨xs,hx⟩:=xI h2;obtain⟨ys,hy⟩:=xI h3;have hok:=hΘ _ _ hti;have hE:=hok.eq h1 a c b xs ys h2 h3 hb hx hy;have hg:=hok.gu h1 hfl;refine⟨_,h',.inr ⟨λk a k' c hc=>by simp[V.av,V1.av] at hc,.agg xs.toArray,.agg ys.toArray,by rw[hx];exact Nr xs,by rw[hy];exact Nr ys,λop xo yo=> ?_,?_,?_⟩⟩
    ·cases op<;>simp[eqGuard,eO,eV,program,eR,hg]
    all_goals grind [binOp,eO,eV]
   ·cases h'
  ·cases h
 ·cases h
theorem oT{f:IntKind->Int->Int->Option ρ}{x y:V}{r:ρ}(h:V.ints f x y=some r): ∃k a b,x.av= .sc (.int k a)/\y.av= .sc (.int k b)/\f k a b=some r:=by
 unfold V.ints at h;split at h
 ·split at h
  ·rename_i k a k' b hk;subst hk;exact⟨k,a,b,rfl,rfl,h⟩
  ·cases h
 ·cases h
theorem Tp(hΘ:gz P Θ){D:s9}{op:BinOp}{t t':TypeId}{x y:Operand}{κ:V->Option ρ}{r:ρ}(h:Wo Θ op t (S.opd x) (S.opd y) κ=some r){dst:Option Tmp}{ty:TypeId}{pos:String}{aft:Array Edge}{gd:Option (Nat×Bool)}:
  ∃v:V,eD D P S.st ⟨dst,.binOp op t x y t',ty,pos,aft,gd⟩=some v.av/\(∀G,v.ok G)/\κ v=some r:=by
 have eqs: ∀ (b:Bool) (xv yv:Value),th (opd S.st x)=some xv->th (opd S.st y)=some yv->eR P (eqGuard op t x y xv yv)=some ()->eR P (binOp op t xv yv)=some (.bool b)->
   ff P S.st ⟨dst,.binOp op t x y t',ty,pos,aft,gd⟩=some (.sc (.bool b)):=by
  intro b xv yv h1 h2 h3 h4;unfold ff;rw[if_pos (by simp[Op.operands,h1,h2])];simp only[execOp,h1,h2,bw,eO,h3,h4,ae,eV,Xj,oK,if_true]
 cases op with
 |lss=>obtain⟨k,a,b,h1,h2,h3⟩:=oT h;exact⟨_,by simp only[eD,eH,h1,h2,if_true];rfl,λG=>V.ok_sc G _,h3⟩
 |leq=>obtain⟨k,a,b,h1,h2,h3⟩:=oT h;exact⟨_,by simp only[eD,eH,h1,h2,if_true];rfl,λG=>V.ok_sc G _,h3⟩
 |gtr=>obtain⟨k,a,b,h1,h2,h3⟩:=oT h;exact⟨_,by simp only[eD,eH,h1,h2,if_true];rfl,λG=>V.ok_sc G _,h3⟩
 |geq=>obtain⟨k,a,b,h1,h2,h3⟩:=oT h;exact⟨_,by simp only[eD,eH,h1,h2,if_true];rfl,λG=>V.ok_sc G _,h3⟩
 |add=>
  have h:Wn (S.opd x) (S.opd y) κ=some r:=h;unfold Wn at h;split at h
  ·rename_i a b g1 g2;obtain⟨h0,h⟩:=fy h;have hx:th (opd S.st x)=some (.string a):=by rw[eH,g1];rfl
   have hy:th (opd S.st y)=some (.string b):=by rw[eH,g2];rfl
   refine⟨_,?_,λG=>V.ok_sc G _,h⟩;simp only[eD,eH,g1,g2];show ff P S.st ⟨dst,.binOp .add t x y t',ty,pos,aft,gd⟩=_
   have hz: ¬ ((a.size+b.size:Nat):Int)>IntKind.i64.max:=by have :IntKind.i64.max=9223372036854775807:=rfl;omega
   have e:eR P (binOp .add t (.string a) (.string b))=some (.string (a++b)):=by simp only[binOp,Op.stringOp,if_neg hz,eV]
   have g:eR P (eqGuard .add t x y (.string a) (.string b))=some ():=rfl;unfold ff;rw[if_pos (by simp[Op.operands,hx,hy])];simp only[execOp,hx,hy,bw,eO,g,e,ae,eV,Xj,oK,if_true];rfl
  ·obtain⟨k,a,b,h1,h2,h3⟩:=oT h;exact⟨_,by simp only[eD,eH,h1,h2,if_true];rfl,λG=>V.ok_sc G _,h3⟩
 |sub=>obtain⟨k,a,b,h1,h2,h3⟩:=oT h;exact⟨_,by simp only[eD,eH,h1,h2,if_true];rfl,λG=>V.ok_sc G _,h3⟩
 |mul=>obtain⟨k,a,b,h1,h2,h3⟩:=oT h;exact⟨_,by simp only[eD,eH,h1,h2,if_true];rfl,λG=>V.ok_sc G _,h3⟩
 |eql=>
  have h':Xf Θ t (S.opd x) (S.opd y) (λr=>κ (V.sc (.bool r)))=some r:=h;obtain⟨b,h1,h2⟩:=Qx hΘ h';refine⟨_,?_,λG=>V.ok_sc G _,h1⟩;rcases h2 with ⟨k,a,c,e1,e2,rfl⟩| ⟨hn,xv,yv,e1,e2,e3,e4,e5⟩
  ·simp only[eD,eH,e1,e2,if_true];rfl
  ·simp only[eD];split
   ·grind [eH]
   ·exact eqs b xv yv (by rw[eH];exact e1) (by rw[eH];exact e2) (e3 _ _ _) e4
 |neq=>
  have h':Xf Θ t (S.opd x) (S.opd y) (λr=>κ (V.sc (.bool (!r))))=some r:=h;obtain⟨b,h1,h2⟩:=Qx hΘ h';refine⟨_,?_,λG=>V.ok_sc G _,h1⟩;rcases h2 with ⟨k,a,c,e1,e2,rfl⟩| ⟨hn,xv,yv,e1,e2,e3,e4,e5⟩
  ·simp only[eD,eH,e1,e2,if_true];rfl
  ·simp only[eD];split
   ·grind [eH]
   ·exact eqs (!b) xv yv (by rw[eH];exact e1) (by rw[eH];exact e2) (e3 _ _ _) e5
 |quo=>
  have h':V.ints (λk a b=>if b=0 then none else κ (V.sc (.int k (k.wrap (a.tdiv b))))) (S.opd x) (S.opd y)=some r:=h;obtain⟨k,a,b,h1,h2,h3⟩:=oT h';split at h3
  ·cases h3
  ·rename_i hb;refine⟨_,?_,λG=>V.ok_sc G _,h3⟩;have hx:th (opd S.st x)=some (.int k a):=by rw[eH,h1];rfl
   have hy:th (opd S.st y)=some (.int k b):=by rw[eH,h2];rfl
   simp only[eD];unfold ff;rw[if_pos (by simp[Op.operands,hx,hy])]
   have e:eR P (binOp .quo t (.int k a) (.int k b))=some (.int k (k.wrap (a.tdiv b))):=by simp only[binOp,ne_eq,not_true,if_false,Op.intDiv,if_neg hb,eV]
   have e2:eR P (execOp (λx=>(th (opd S.st x)).getD undef) ⟨dst,.binOp .quo t x y t',ty,pos,aft,gd⟩)=some (.value (.int k (k.wrap (a.tdiv b)))):=by show eR P (do pure (Next.value (<-(do eqGuard .quo t x y ((th (opd S.st x)).getD undef) ((th (opd S.st y)).getD undef);binOp .quo t ((th (opd S.st x)).getD undef) ((th (opd S.st y)).getD undef)))))=_;rw[hx,hy];have g:eR P (eqGuard .quo t x y (.int k a) (.int k b))=some ():=rfl;simp only[eO,bw,g,e,ae,eV]
   rw[e2];rfl
 |rem=>
  have h':V.ints (λk a b=>if b=0 then none else κ (V.sc (.int k (a.tmod b)))) (S.opd x) (S.opd y)=some r:=h;obtain⟨k,a,b,h1,h2,h3⟩:=oT h';split at h3
  ·cases h3
  ·rename_i hb;refine⟨_,?_,λG=>V.ok_sc G _,h3⟩;have hx:th (opd S.st x)=some (.int k a):=by rw[eH,h1];rfl
   have hy:th (opd S.st y)=some (.int k b):=by rw[eH,h2];rfl
   simp only[eD];unfold ff;rw[if_pos (by simp[Op.operands,hx,hy])]
   have e:eR P (binOp .rem t (.int k a) (.int k b))=some (.int k (a.tmod b)):=by simp only[binOp,ne_eq,not_true,if_false,Op.intDiv,if_neg hb,eV]
   have e2:eR P (execOp (λx=>(th (opd S.st x)).getD undef) ⟨dst,.binOp .rem t x y t',ty,pos,aft,gd⟩)=some (.value (.int k (a.tmod b))):=by show eR P (do pure (Next.value (<-(do eqGuard .rem t x y ((th (opd S.st x)).getD undef) ((th (opd S.st y)).getD undef);binOp .rem t ((th (opd S.st x)).getD undef) ((th (opd S.st y)).getD undef)))))=_;rw[hx,hy];have g:eR P (eqGuard .rem t x y (.int k a) (.int k b))=some ():=rfl;simp only[eO,bw,g,e,ae,eV]
   rw[e2];rfl
 | _=>simp[Wo] at h
end
end
section
open Go
theorem JT{G:List (Option eU)}: ∀ (l:List V) (cs:List Cl),(∀v∈l,v.ok G)->JG l=some cs->l.map V.av=cs.map Cl.av/\ ∀c∈cs,c.ok G
 | [],cs,_,h=>by simp_all [JG]
 |v::l,cs,hl,h=>by
  unfold JG at h;split at h
  ·rename_i heq;cases heq
  ·rename_i c l' heq;cases heq;split at h
   ·rename_i r hr;simp only[af] at h;subst h;obtain⟨h1,h2⟩:=JT l r (λv hv=>hl v (aO _ hv)) hr;refine⟨by simp only[aY,h1];rfl,λx hx=> ?_⟩;rcases aV.1 hx with rfl|hx
    ·exact hl _ aF
    ·exact h2 x hx
   ·cases h
  ·cases h
section
variable {ρ:Type} {P:Program} {Θ:n8} {S:TS} {D:s9}
theorem Bd(hΘ:gz P Θ)(hS:S.ok){o:Oper}{κ:V->TS->Option ρ}{r:ρ}(h:zg Θ S o κ=some r):
  ∃v S',eD D P S.st o=some v.av/\S'.st=S.st/\S'.ok/\S'.gh=S.gh/\v.ok S.gh/\κ v S'=some r:=by
 have ok: ∀x,(S.opd x).ok S.gh:=λx=>n9 hS x;have done: ∀ {v:V},eD D P S.st o=some v.av->v.ok S.gh->κ v S=some r-> ∃v S',eD D P S.st o=some v.av/\S'.st=S.st/\S'.ok/\S'.gh=S.gh/\v.ok S.gh/\κ v S'=some r:=λh1 h2 h3=>⟨_,S,h1,rfl,hS,rfl,h2,h3⟩
 obtain⟨dst,op,ty,pos,aft,gd⟩:=o;unfold zg at h;cases op with
 |move x=>grind [eD,eH]
 |assign x=>grind [eD,eH]
 |pick c a b=>
  simp only at h;obtain⟨t,S1,h1,h2,h3,h4,h⟩:=DT hS h;cases t with
  |true=>exact⟨_,S1,by simp only[eD,h1,if_true];rw[<-h2,eH],h2,h3,h4,by rw[<-h4];exact n9 h3 _,h⟩
  |false=>exact⟨_,S1,by simp only[eD,h1,bh,if_false];rw[<-h2,eH],h2,h3,h4,by rw[<-h4];exact n9 h3 _,h⟩
 |load t a=>grind [JS,eD,eH]
 |nilCheck x=>
  simp only at h;split at h<;>rename_i hx
  ·exact done (by simp only[eD,eH,hx];rfl) (by rw[<-hx];exact ok x) h
  ·exact done (by simp only[eD,eH,hx];rfl) (by rw[<-hx];exact ok x) h
  ·exact done (by simp only[eD,eH,hx];rfl) (by rw[<-hx];exact ok x) h
  ·exact done (by simp only[eD,eH,hx];rfl) (by rw[<-hx];exact ok x) h
  ·exact done (by simp only[eD,eH,hx];rfl) (by rw[<-hx];exact ok x) h
  ·cases h
 |fieldAddr t x k=>
  simp only at h;split at h
  ·rename_i ti hti;split at h
   ·rename_i off n ag hk;have hfd:=(hΘ _ _ hti).fd k;rw[hk] at hfd;cases hn:Nat.beq n 0 with
    |true=>rw[hn] at h;cases h
    |false=>
     rw[hn] at h;have hn': ¬n=0:=by intro h0;subst h0;cases hn
     simp only[cond_false] at h;split at h<;>rename_i hx
     ·refine done ?_ ?_ h
      ·simp only[eD,hfd,ae,eH,hx];rw[if_neg hn'];rfl
      ·trivial
     ·refine done ?_ ?_ h
      ·simp only[eD,hfd,ae,eH,hx];rw[if_neg hn'];rfl
      ·have:=ok x;rw[hx] at this;exact this
     ·refine done ?_ ?_ h
      ·simp_all [eD,eH,V.av,V1.av,Cl.av]
      ·trivial
     ·cases h
   ·cases h
  ·cases h
 |field t x k=>
  simp only at h;split at h
  ·rename_i ti hti;split at h
   ·rename_i off n ag hk;have hfd:=(hΘ _ _ hti).fd k;rw[hk] at hfd;split at h
    ·rename_i cs hx;obtain⟨h1,h⟩:=eB h;simp only[al] at h1;have h2:off+n<=cs.length:=ar h1.1;have h3:0<n:=ar h1.2;have hcs:=ok x;rw[hx] at hcs;obtain⟨v,h4,h5,h⟩:=Qv (G:=S.gh) (λc hc=>hcs c (bJ (bO hc))) h
     simp_all [eD,eH,V.av,V1.av]
    ·cases h
   ·cases h
  ·cases h
 |indexAddr t x ix=>
  simp only at h;split at h
  ·rename_i ti hti;split at h
   ·rename_i e he;obtain⟨el,g1,g2,_⟩:=(hΘ _ _ hti).el e he;obtain⟨i,h1,h⟩:=vp h;split at h
    ·rename_i a hx;have ha:=ok x;rw[hx] at ha;obtain⟨c,h2,h3,h⟩:=Tm ha h;refine done ?_ ?_ h
     ·simp only[eD,g1,ae,eH,h1,hx,g2];exact h2
     ·exact h3
    ·cases h
   ·cases h
  ·cases h
 |build t parts=>
  simp only at h;split at h
  ·rename_i ti hti;obtain⟨h1,h⟩:=eB h;split at h
   ·rename_i cs hcs;have hok:=hΘ _ _ hti
    obtain⟨g1,g2⟩:=To (G:=S.gh) _ _ _ _ (λc hc=>by
     obtain⟨v,_,rfl⟩:=aN.1 hc;exact Nn _ _) (λy hy=>by
     grind) hcs
    refine done ?_ ?_ h
    ·simp only[eD,hok.pl h1,hok.ze,ae]
     have e1:ti.ty.zvs.map C4=(ti.ty.zvs.map cC).map Cl.av:=by rw[bL];exact aM λv _=>(rj v).symm
     have e2:parts.toList.map (λx=>(x.1,opd S.st x.2))=(parts.toList.map λx=>(x.1,S.opd x.2)).map λx=>(x.1,x.2.av):=by rw[bL];exact aM λx _=>by simp[eH]
     rw[e1,e2,g1];rfl
    ·exact g2
   ·cases h
  ·cases h
 |slice t x lo hi mx=>
  cases mx with
  |some m=>simp at h
  |none=>
   simp only at h;split at h
   ·rename_i ti hti;split at h
    ·rename_i e he;obtain⟨el,g1,g2,_⟩:=(hΘ _ _ hti).el e he;split at h
     ·rename_i a hx;have ha:=ok x;rw[hx] at ha;obtain⟨n,h1,h⟩:=Np ha h;obtain⟨l,h2,h⟩:=Gy h;obtain⟨m,h3,h⟩:=Gy h;obtain⟨c,h4,h5,h⟩:=Tn ha h;refine done ?_ ?_ h
      ·simp only[eD,eH,hx];split
       ·rename_i s hs;have hs':a.av= .sc (.string s):=hs;rw[hs'] at h1;cases h1
       ·show (vb P t).bind _=_;rw[g1];simp only[ae];show (vL a.av).bind _=_;rw[h1];simp only[ae,h2,h3,g2];exact h4
      ·exact h5
     ·cases h
    ·cases h
   ·cases h
 |extract x k=>
  simp only at h;split at h
  ·rename_i vs hx;split at h
   ·rename_i v hv;have hvs:=ok x;rw[hx] at hvs;rw[gy] at hv;refine done ?_ ?_ h
    ·simp only[eD,eH,hx,V.av,aq,hv,aI]
    ·exact hvs v (ap hv)
   ·cases h
  ·cases h
 |makeFunc fn first caps=>
  cases fn with
  |func f=>
   simp only at h;obtain⟨h1,h⟩:=eB h;split at h
   ·rename_i cs hcs
    obtain⟨g1,g2⟩:=JT (G:=S.gh) _ _ (λv hv=>by grind) hcs
    refine done ?_ ?_ h
    ·simp only[eD,h1,if_true]
     have e:caps.toList.map (opd S.st)=(caps.toList.map S.opd).map V.av:=by rw[bL];exact aM λx _=>eH x
     rw[e,g1];rfl
    ·exact g2
   ·cases h
  | _=>simp at h
 |unOp op t x=>
  cases op with
  |not=>
   simp only at h;split at h
   ·rename_i b hx;refine done ?_ ?_ h
    ·simp only[eD,eH,hx];rfl
    ·trivial
   ·cases h
  |neg=>
   simp only at h;split at h
   ·rename_i k n hx;refine done ?_ (V.ok_sc _ _) h;have hxv:th (opd S.st x)=some (.int k n):=by rw[eH,hx];rfl
    simp only[eD];unfold ff;rw[if_pos (by simp[Op.operands,hxv])]
    have e2:eR P (execOp (λx=>(th (opd S.st x)).getD undef) ⟨dst,.unOp .neg t x,ty,pos,aft,gd⟩)=some (.value (.int k (k.wrap (0-n)))):=by show eR P (do pure (Next.value (<-Go.Op.unary .neg ((th (opd S.st x)).getD undef))))=_;rw[hxv];rfl
    rw[e2];rfl
   ·cases h
  | _=>simp at h
 |binOp op t x y t'=>simp only at h;obtain⟨v,h1,h2,h⟩:=Tp (D:=D) (t':=t') (dst:=dst) (ty:=ty) (pos:=pos) (aft:=aft) (gd:=gd) hΘ h;exact done h1 (h2 _) h
 |call c=>
  obtain⟨cl,as,ts⟩:=c;cases cl with
  |value f=>simp at h
  |invoke a b=>simp at h
  |builtin b=>
   cases b with
   |cap=>
    simp only at h;split at h
    ·rename_i x t e1 e2;split at h
     ·rename_i ti hti;split at h
      ·rename_i e he;obtain⟨el,g1,g2,_⟩:=(hΘ _ _ hti).el e he;split at h
       ·rename_i hx;refine done ?_ ?_ h
        ·simp only[eD,e1,e2,g1,Option.isSome_some,if_true,eH,hx];rfl
        ·trivial
       ·cases h
      ·cases h
     ·cases h
    ·cases h
   |len=>
    simp only at h;split at h
    ·rename_i x t e1 e2;split at h
     ·rename_i ti hti;split at h
      ·rename_i e he;obtain⟨el,g1,g2,_⟩:=(hΘ _ _ hti).el e he;split at h
       ·rename_i a hx;have ha:=ok x;rw[hx] at ha;obtain⟨n,h1,h⟩:=Np ha h;refine done ?_ ?_ h
        ·simp only[eD,e1,e2,g1,Option.isSome_some,if_true,eH,hx];show (vL a.av).map _=_;rw[h1];rfl
        ·trivial
       ·cases h
      ·rename_i hs;split at h
       ·rename_i s hx;refine done ?_ (V.ok_sc _ _) h
        have hus:P.underlying t=some .string:=by
         have:=(hΘ _ _ hti).str;rw[hs] at this;unfold AP at this;split at this
         ·assumption
         ·cases this
        have hxv:th (opd S.st x)=some (.string s):=by rw[eH,hx];rfl
        have he:vb P t=none:=by simp[vb,hus]
        have ea:as= #[x] :=by rw[<-dS (xs:=as),e1]
        have et:ts= #[t] :=by rw[<-dS (xs:=ts),e2]
        subst ea et;simp only[eD,he,Option.isSome_none];rw[if_neg (by simp)];unfold ff;rw[if_pos (by simp[Op.operands,Call.operands,hxv])]
        have e2:eR P (execOp (λx=>(th (opd S.st x)).getD undef) ⟨dst,.call ⟨.builtin .len,#[x],#[t]⟩,ty,pos,aft,gd⟩)=some (.value (.int .i64 s.size)):=by show eR P (do let d <-resolve _ _ ty;invoke d.target d.args)=_;simp only[eO,resolve,eV,ae,invoke,builtin,List.map_toArray,aY,cF,Builtin.len_,cE,aQ,fM hus,hxv,bw];rfl
        rw[e2];rfl
       ·cases h
      ·cases h
     ·cases h
    ·cases h
   |max=>
    simp only at h;split at h
    ·rename_i x y e1;obtain⟨k,a,b,h1,h2,h⟩:=oT h;refine done ?_ (V.ok_sc _ _) h;simp only[eD,e1,aY,cF,eH,h1,h2];rfl
    ·cases h
   |min=>
    simp only at h;split at h
    ·rename_i x y e1;obtain⟨k,a,b,h1,h2,h⟩:=oT h;refine done ?_ (V.ok_sc _ _) h;simp only[eD,e1,aY,cF,eH,h1,h2];rfl
    ·cases h
   | _=>simp at h
 |convert s d x=>
  simp only at h;split at h
  ·rename_i si di hs hd;split at h
   ·rename_i k' hk;split at h
    ·rename_i k n hx;refine done ?_ (V.ok_sc _ _) h;have hud:=(hΘ _ _ hd).int _ hk
     obtain⟨ds,hus⟩: ∃ds,P.underlying s=some ds:=by
      have:=(hΘ _ _ hs).ag;unfold Fo at this
      grind
     have hxv:th (opd S.st x)=some (.int k n):=by rw[eH,hx];rfl
     simp only[eD];unfold ff;rw[if_pos (by simp[Op.operands,hxv])]
     have e:eR P (Go.convert s d (.int k n))=some (.int k' (k'.wrap n)):=by unfold Go.convert;simp only[eO,fM hus,fM hud,ae];cases ds<;>rfl
     have e2:eR P (execOp (λx=>(th (opd S.st x)).getD undef) ⟨dst,.convert s d x,ty,pos,aft,gd⟩)=some (.value (.int k' (k'.wrap n))):=by show eR P (do pure (Next.value (<-Go.convert s d ((th (opd S.st x)).getD undef))))=_;rw[hxv];simp only[eO,bw,e,ae,eV]
     rw[e2];rfl
    ·cases h
   ·cases h
  ·cases h
 |index t x ix=>
  simp only at h;split at h
  ·rename_i ti hti;split at h
   ·rename_i hs;split at h
    ·rename_i s k i hx hi;unfold iteP at h;split at h
     ·rename_i h0;obtain⟨b,hb,h⟩:=ai.1 h;refine done ?_ (V.ok_sc _ _) h
      have hus:P.underlying t=some .string:=by
       have:=(hΘ _ _ hti).str;rw[hs] at this;unfold AP at this;split at this
       ·assumption
       ·cases this
      have hxv:th (opd S.st x)=some (.string s):=by rw[eH,hx];rfl
      have hiv:th (opd S.st ix)=some (.int k i):=by rw[eH,hi];rfl
      have hxa:opd S.st x= .sc (.string s):=by rw[eH,hx];rfl
      simp only[eD,hxa];unfold ff;rw[if_pos (by simp[Op.operands,hxv,hiv])]
      have e:eR P (Instr.index t (.string s) (.int k i))=some (.int .u8 b.toNat):=by unfold Instr.index;simp only[eO,asIntOf,eV,ae,fM hus];rw[if_pos h0,hb];rfl
      have e2:eR P (execOp (λx=>(th (opd S.st x)).getD undef) ⟨dst,.index t x ix,ty,pos,aft,gd⟩)=some (.value (.int .u8 b.toNat)):=by show eR P (do pure (Next.value (<-Instr.index t ((th (opd S.st x)).getD undef) ((th (opd S.st ix)).getD undef))))=_;rw[hxv,hiv];simp only[eO,bw,e,ae,eV]
      rw[e2];rfl
     ·cases h
    ·cases h
   ·cases h
  ·cases h
 | _=>simp at h
end
end
section
open Go
theorem lL{G:List (Option eU)}{x:Option eU}(r:Nat):f9 (G++ [x]) r=if r=G.length then x else f9 G r:=by
 unfold f9;rw[gy,gy]
 grind
theorem Be{G:List (Option eU)}(l:List eU)(r:Nat):f9 (G++l.map some) r=if G.length<=r then l[r-G.length]? else f9 G r:=by
 unfold f9;rw[gy,gy]
 grind
theorem Bf{G:List (Option eU)}{r:Nat}(h:G.length<=r):f9 G r=none:=by unfold f9;rw[gy,bZ h];rfl
theorem vq{G:List (Option eU)}{r:Nat}{tr:eU}(h:f9 G r=some tr):r<G.length:=by grind [Bf]
theorem qA{G:List (Option eU)}{x:Option eU}(q r:Nat)(hq:q<G.length\/x=none):f9 (fR G q x) r=if r=q then x else f9 G r:=by
 unfold f9;rw[gy,gy,ir,cg]
 grind
theorem ji.app(G:List (Option eU))(x:Option eU):ji G (G++ [x]):=⟨by simp,λr tr hr h=>by rw[lL,if_neg (by omega)] at h;exact⟨tr,h,rfl⟩⟩
theorem ji.apps(G:List (Option eU))(l:List eU):ji G (G++l.map some):=⟨by simp,λr tr hr h=>by simp_all [Be,if_neg]⟩
theorem ji.gone(G:List (Option eU))(q:Nat):ji G (fR G q none):=⟨by rw[ir];simp,λr tr hr h=>by simp_all [qA]⟩
theorem ji.put{G:List (Option eU)}{q:Nat}{tr tr':eU}(h:f9 G q=some tr)(hl:tr'.l.length=tr.l.length):ji G (fR G q (some tr')):=⟨by rw[ir];simp,λr t hr h'=>by
 rw[qA q r (.inl (vq h))] at h'
 grind⟩
theorem TS.ok_gh{S:TS}(hS:S.ok){G:List (Option eU)}(hG:ji S.gh G): ({ S with gh:=G }:TS).ok:=
 ⟨λx hx=>V.ok_mono hG (hS.env x hx),λcs hcs c hc=>Cl.ok_mono hG (hS.bx cs hcs c hc)⟩
theorem DU(S:TS)(x:eU): ({ S with gh:=S.gh++ [some x] }:TS).st= { S.st with gh:=fD S.st.gh S.gh.length (some x.tree),ng:=S.gh.length+1 } :=by
 unfold TS.st;simp only[ax,az]
 congr 1
 funext r
 rw[lL];unfold fD;split<;>rfl
theorem z0(S:TS)(q:Nat): ({ S with gh:=fR S.gh q none }:TS).st= { S.st with gh:=fD S.st.gh q none } :=by
 unfold TS.st;simp only;have : (fR S.gh q none).length=S.gh.length:=by rw[ir];simp
 rw[this]
 congr 1
 funext r
 rw[qA q r (.inr rfl)];unfold fD;split<;>rfl
theorem zk(S:TS){q:Nat}(x:eU)(hq:q<S.gh.length): ({ S with gh:=fR S.gh q (some x) }:TS).st= { S.st with gh:=fD S.st.gh q (some x.tree) } :=by
 unfold TS.st;simp only;have : (fR S.gh q (some x)).length=S.gh.length:=by rw[ir];simp
 rw[this]
 congr 1
 funext r
 rw[qA q r (.inl hq)];unfold fD;split<;>rfl
theorem LZ(S:TS)(cs:List Cl): ({ S with bx:=S.bx++ [cs] }:TS).st= { S.st with bx:=fD S.st.bx S.bx.length (some (cs.map Cl.av)),nb:=S.bx.length+1 } :=by
 unfold TS.st;simp only[ax,az]
 congr 1
 funext n
 unfold fD;simp only[gy]
 grind
theorem OV(S:TS){b:Nat}(cs:List Cl)(hb:b<S.bx.length): ({ S with bx:=fR S.bx b cs }:TS).st= { S.st with bx:=fD S.st.bx b (some (cs.map Cl.av)) } :=by
 unfold TS.st;have : (fR S.bx b cs).length=S.bx.length:=by rw[ir];simp
 simp only;rw[this]
 congr 1
 funext n
 unfold fD;simp only[gy];rw[ir,cg]
 grind
theorem Qy(t:Ty): (t.zvs.map cC).map Cl.av=t.zvs.map Fp:=by
 cases t with
 |st n=>cases n<;>rfl
 | _=>rfl
theorem Qz(G:List (Option eU))(t:Ty): ∀c∈t.zvs.map cC,c.ok G:=λc hc=>by obtain⟨v,_,rfl⟩:=aN.1 hc;exact Nn _ _
def wC[eg](P:Program)(g:FuncId)(args:List V1)(b:Bool)(res:V)(out:List eU):Prop:=
 ∃ (t:Ty) (x:t.D) (as:List V1),args=Nm t x::as/\jk P g ((OT t x 0).av::as.map V1.av) ((rt (t.flat x)).map eU.tree) (bif b then (rt (t.flat x)).length else 0) res.av (out.map eU.tree)
def Ns[eg](P:Program)(g:FuncId)(args:List V1)(res:V)(out:List eU):Prop:=
 ∃ (el:Ty) (l:List el.D) (as:List V1),args= .cl (.c (.ls el l))::as/\jk P g (.ptrT ⟨0,[]⟩ el.width 0 0::as.map V1.av) [.sl el.width (l.map el.row)] 1 res.av (out.map eU.tree)
structure yn [eg] (P:Program) (f:Nat) (args:List V1) (res:V) (out:List eU):Prop where
 fn:f<jF->qT P f (args.map V1.av) [] res.av (out.map eU.tree)
 io: ∀g,f=CE g->g<jF->wC P g args true res out
 mv: ∀g,f=DK g->g<jF->wC P g args false res out
 pt: ∀g,f=DL g->g<jF->Ns P g args res out
theorem QA(g:Nat): ¬CE g<jF:=Nat.not_lt.2 (Nat.le_add_left jF g)
theorem FC{g g':Nat}(hg:g<jF)(hg':g'<jF):CE g≠DK g'/\CE g≠DL g'/\DK g≠DL g'/\ ¬DK g<jF/\ ¬DL g<jF:=by grind [CE,DK,DL,Nd,JH]
theorem yn.of_fn[eg]{P:Program}{f:Nat}{args:List V1}{res:V}{out:List eU}(h:qT P f (args.map V1.av) [] res.av (out.map eU.tree))(hf:f<jF):yn P f args res out:=
 ⟨λ_=>h,λg e _=>absurd (e ▸ hf) (QA g),λg e hg=>absurd (e ▸ hf) (FC hg hg).2.2.2.1,λg e hg=>absurd (e ▸ hf) (FC hg hg).2.2.2.2⟩
theorem yn.of_io[eg]{P:Program}{g:Nat}{args:List V1}{res:V}{out:List eU}(h:wC P g args true res out)(hg:g<jF):yn P (CE g) args res out:=
 ⟨λh'=>absurd h' (QA g),λg' e _=>by rw[<-dU (e:g+jF=g'+jF)];exact h,λg' e hg'=>absurd e (FC hg hg').1,λg' e hg'=>absurd e (FC hg hg').2.1⟩
theorem yn.of_mv[eg]{P:Program}{g:Nat}{args:List V1}{res:V}{out:List eU}(h:wC P g args false res out)(hg:g<jF):yn P (DK g) args res out:=
 ⟨λh'=>absurd h' (FC hg hg).2.2.2.1,λg' e hg'=>absurd e.symm (FC hg' hg).1,λg' e _=>by rw[<-dU (e:g+JH=g'+JH)];exact h,λg' e hg'=>absurd e (FC hg hg').2.2.1⟩
theorem yn.of_pt[eg]{P:Program}{g:Nat}{args:List V1}{res:V}{out:List eU}(h:Ns P g args res out)(hg:g<jF):yn P (DL g) args res out:=
 ⟨λh'=>absurd h' (FC hg hg).2.2.2.2,λg' e hg'=>absurd e.symm (FC hg' hg).2.1,λg' e hg'=>absurd e.symm (FC hg' hg).2.2.1,λg' e _=>by rw[<-dU (e:g+Nd=g'+Nd)];exact h⟩
theorem Ns.get[eg]{P:Program}{g:FuncId}{el:Ty}{l:List el.D}{as:List V1}{res:V}{out:List eU}(h:Ns P g (.cl (.c (.ls el l))::as) res out):jk P g (.ptrT ⟨0,[]⟩ el.width 0 0::as.map V1.av) [.sl el.width (l.map el.row)] 1 res.av (out.map eU.tree):=by obtain⟨t,x,as',he,h⟩:=h;cases he;exact h
theorem wC.get[eg]{P:Program}{g:FuncId}{el:Ty}{l:List el.D}{as:List V1}{b:Bool}{res:V}{out:List eU}(h:wC P g (.cl (.c (.ls el l))::as) b res out):jk P g (.own ⟨0,[]⟩ el.width 0 l.length::as.map V1.av) [.sl el.width (l.map el.row)] (bif b then 1 else 0) res.av (out.map eU.tree):=by
 obtain⟨t,x,as',he,h⟩:=h;simp only[bR] at he;obtain⟨he,rfl⟩:=he;cases t with
 |ls el'=>have he':V1.cl (.c (.ls el l))= .cl (.c (.ls el' x)):=he;cases he';exact h
 |st n=>cases n<;>cases he
 | _=>cases he
theorem wC.getA[eg]{P:Program}{g:FuncId}{ys:List C}{as:List V1}{res:V}{out:List eU}(h:wC P g (.agg (ys.map .c)::as) true res out):jk P g (.agg ((zj ys 0).map Cl.av)::as.map V1.av) ((rt ys).map eU.tree) (rt ys).length res.av (out.map eU.tree):=by
 obtain⟨t,x,as',he,h⟩:=h;simp only[bR] at he;obtain⟨he,rfl⟩:=he;cases t with
 |st n=>
  have he':V1.agg (ys.map Cl.c)= .agg ((n.flat x).map Cl.c):=he;simp only[V1.agg.injEq] at he'
  have :ys=n.flat x:=by
   have hi: ∀ (l m:List C),l.map Cl.c=m.map Cl.c->l=m:=by
    intro l
    induction l with
    |nil=>simp_all
    |cons a l ih=>intro m hm;cases m<;>grind
   exact hi _ _ he'
  subst this;exact h
 | _=>cases he
def lM[eg](P:Program)(Y:zh):Prop:=∀f args ρ κ r,Y f args ρ κ=some r-> ∃res out,yn P f args res out/\res.ok (out.map some)/\κ res out=some r
section
variable {ρ:Type} {P:Program} {Θ:n8} {S:TS}
theorem HB{α β:Type}{f:α->(β->Option ρ)->Option ρ}{R:α->β->Prop}(hf: ∀a κ r,f a κ=some r-> ∃b,R a b/\κ b=some r):
  ∀ (l:List α) (κ:List β->Option ρ) (r:ρ),JJ f l κ=some r-> ∃bs,l.length=bs.length/\(∀ (k:Nat) (a:α) (b:β),l[k]? =some a->bs[k]? =some b->R a b)/\κ bs=some r:=by
 intro l
 induction l with
 |nil=>intro κ r h;exact⟨[],rfl,λk a b ha=>by simp at ha,h⟩
 |cons a l ih=>
  intro κ r h;obtain⟨b,h1,h⟩:=hf a _ r h
  grind
theorem QB{α β γ:Type}{f:α->γ}{g:β->γ}{l:List α}{bs:List β}(h1:l.length=bs.length)(h2: ∀ (k:Nat) (a:α) (b:β),l[k]? =some a->bs[k]? =some b->f a=g b):l.map f=bs.map g:=by
 apply bE
 grind
theorem wD{p:fo}{sz lo len:Nat}{t:Ty}{l:List t.D}(hc: (Cl.own p sz lo len true).ok S.gh)(h:p.l= [] ->f9 S.gh p.r=some ⟨t,l,none⟩):p.l= [] /\lo=0/\len=l.length:=by
 obtain⟨_,h2⟩:=hc
 grind
theorem DV(hS:S.ok){et:Option Ty}{c:Cl}(hc:c.ok S.gh){κ:Cl->Option ρ}{r:ρ}(h:SM S et c κ=some r): ∃c',(∀sz,(∀t,et=some t->sz=t.width)->gX S.st sz c.av=c'.av)/\κ c'=some r:=by
 unfold SM at h;split at h
 ·rename_i x;exact⟨_,λsz _=>by cases x<;>rfl,h⟩
 ·split at h
  ·rename_i t;exact⟨_,λsz hsz=>by rw[hsz t rfl];rfl,h⟩
  ·cases h
 ·rename_i p sz lo len;obtain⟨t,l,h1,h2,h⟩:=ij h;obtain⟨h3,h⟩:=eB h;have h3:t.width=sz:=an h3;obtain⟨h4,h5,h6⟩:=wD hc h2;refine⟨_,λsz' _=> ?_,h⟩
  simp_all [Cl.av,gX,lB,C.av,bG]
 ·rename_i p sz lo len;obtain⟨t,l,h1,h2,h⟩:=ij h;obtain⟨h3,h⟩:=eB h;have h3:t.width=sz:=an h3;obtain⟨h4,h⟩:=fy h;refine⟨_,λsz' _=> ?_,h⟩
  simp_all [Cl.av,gX,lB,C.av]
 ·exact⟨_,λ_ _=>rfl,h⟩
 ·rename_i p sz i j;obtain⟨t,l,h1,h2,h⟩:=ij h;obtain⟨h3,h⟩:=eB h;have h3:t.width=sz:=an h3;obtain⟨x,hx,h⟩:=ai.1 h;refine⟨_,λsz' _=> ?_,h⟩;simp only[Cl.av,gX,<-h3,lB h1];have e1: (l.map t.row).getD i [] =t.row x:=by simp[aE,hx]
  rw[e1,t.row_flat,cX]
 ·rename_i b j;split at h
  ·rename_i cs hcs
   obtain⟨bs,h1,h2,h⟩:=HB (R:=λ(c:Cl) (x:C)=>c.ok S.gh->T.ofAV S.st 0 c.av=x.tree) (λc κ r h=>by
    split at h
    ·rename_i x;exact⟨x,λ_=>by cases x<;>rfl,h⟩
    ·rename_i p sz lo len;obtain⟨t,l,h1,h2,h⟩:=ij h;obtain⟨h3,h⟩:=eB h;have h3:t.width=sz:=an h3;refine⟨_,λhc=> ?_,h⟩;obtain⟨h4,h5,h6⟩:=wD hc h2
     simp_all [Cl.av,T.ofAV,lB,C.tree,bG]
    ·cases h) _ _ _ h
   refine⟨_,λsz _=> ?_,h⟩;simp only[Cl.av,gX,TS.st,hcs,aI];rw[<-cX,bL]
   congr 1
   refine QB h1 (λk a b ha hb=>h2 k a b ha hb ?_);rw[gy] at hcs;exact hS.bx cs (ap hcs) a (bJ (ap ha))
  ·cases h
 ·exact⟨_,λ_ _=>rfl,h⟩
theorem Tq(hS:S.ok): ∀ (ets:List (Option Ty)) (cs:List Cl) (κ:List Cl->Option ρ) (r:ρ),(∀c∈cs,c.ok S.gh)->Td S ets cs κ=some r->
  ∃cs',ets.length=cs.length/\List.zipWith (gX S.st) (ets.map λ|some e=>e.width|none=>0) (cs.map Cl.av)=cs'.map Cl.av/\κ cs'=some r:=by
 intro ets
 induction ets with
 |nil=>
  intro cs κ r hcs h;cases cs with
  |nil=>exact⟨[],rfl,rfl,h⟩
  |cons c cs=>cases h
 |cons et ets ih=>
  intro cs κ r hcs h;cases cs with
  |nil=>cases h
  |cons c cs=>
   unfold Td at h;obtain⟨c',h1,h⟩:=DV hS (hcs c aF) h;obtain⟨cs',h2,h3,h⟩:=ih cs _ r (λx hx=>hcs x (aO _ hx)) h;refine⟨c'::cs',by simp[h2],?_,h⟩
   simp_all
theorem QC(hΘ:gz P Θ)(hS:S.ok){t:TypeId}{v:V}(hv:v.ok S.gh){κ:V1->Option ρ}{r:ρ}(h:YC Θ S t v κ=some r): ∃v1:V1,lr S.st (oH P 9 t) v.av=v1.av/\κ v1=some r:=by
 unfold YC at h;split at h
 ·cases h
 ·rename_i f cs
  obtain⟨bs,h1,h2,h⟩:=HB (R:=λ(c c':Cl)=>c.ok S.gh->gX S.st 0 c.av=c'.av) (λc κ r h=>by
   by_cases hc:c.ok S.gh
   ·grind [DV]
   ·have : ∃c',κ c'=some r:=by
     unfold SM at h;split at h
     ·exact⟨_,h⟩
     ·cases h
     ·obtain⟨t,l,_,_,h⟩:=ij h;exact⟨_,(eB h).2⟩
     ·obtain⟨t,l,_,_,h⟩:=ij h;exact⟨_,(fy (eB h).2).2⟩
     ·exact⟨_,h⟩
     ·obtain⟨t,l,_,_,h⟩:=ij h;grind
     ·split at h
      ·obtain⟨bs,_,_,h⟩:=HB (R:=λ_ _=>True) (λc κ r h=>by
        split at h
        ·exact⟨_,trivial,h⟩
        ·obtain⟨t,l,_,_,h⟩:=ij h;exact⟨_,trivial,(eB h).2⟩
        ·cases h) _ _ _ h
       exact⟨_,h⟩
      ·cases h
     ·exact⟨_,h⟩
    grind) _ _ _ h
  refine⟨_,?_,h⟩;simp only[V.av,V1.av,lr,bL]
  congr 1
  exact QB h1 (λk a b ha hb=>h2 k a b ha hb (hv a (ap ha)))
 ·rename_i cs;split at h
  ·rename_i ti hti;obtain⟨cs',h1,h2,h⟩:=Tq hS _ _ _ _ hv h;refine⟨_,?_,h⟩;have e: (ti.ty.csh.map λ|some e=>e.width|none=>0)=ti.ty.shs:=rfl;simp only[V.av,V1.av,lr,(hΘ _ _ hti).sh]
   grind
  ·cases h
 ·exact⟨_,rfl,h⟩
 ·rename_i c hne
  have gC: ∀ (szs:List Nat),lr S.st szs (V.v (.cl c)).av=gX S.st (szs.headD 0) c.av:=by
   intro szs;cases c with
   |c x=>cases x<;>rfl
   |em=>exact absurd rfl hne
   | _=>rfl
  split at h
  ·rename_i ti hti;obtain⟨c',h1,h⟩:=DV hS hv h;refine⟨_,?_,h⟩;rw[gC];refine h1 _ (λt ht=> ?_);rw[(hΘ _ _ hti).sh];unfold Ty.shs;cases hc:ti.ty.csh with
   |nil=>rw[hc] at ht;cases ht
   |cons a l=>grind
  ·obtain⟨c',h1,h⟩:=DV hS hv h;exact⟨_,by rw[gC];exact h1 _ (λt ht=>by cases ht),h⟩
theorem wE(hΘ:gz P Θ)(hS:S.ok): ∀ (ts:List TypeId) (as:List Operand) (κ:List V1->Option ρ) (r:ρ),ym Θ S ts as κ=some r->
  ∃vs:List V1,List.zipWith (λt a=>lr S.st (oH P 9 t) (opd S.st a)) ts as=vs.map V1.av/\κ vs=some r:=by
 intro ts
 induction ts with
 |nil=>
  intro as κ r h;cases as with
  |nil=>exact⟨[],rfl,h⟩
  |cons a as=>cases h
 |cons t ts ih=>
  intro as κ r h;cases as with
  |nil=>cases h
  |cons a as=>
   unfold ym at h;obtain⟨v,h1,h⟩:=QC hΘ hS (n9 hS a) h
   grind [List.zipWith_cons_cons,eH]
end
end
section
open Go
open Classical in
noncomputable def OW(d:Option Tmp)(g:FuncId)(args:List AV)(res:AV×List T):s9:=λd' g' a' gs'=>if d'=d/\g'=g/\a'=args/\gs'= [] then some res else none
theorem DW[eg]{P:Program}{d:Option Tmp}{g:FuncId}{args:List AV}{res:AV}{out:List T}(h:qT P g args [] res out):lJ P (OW d g args (res,out)):=by
 intro d' g' a' gs' r' o' h'
 simp_all [OW]
theorem Nt(d:Option Tmp)(g:FuncId)(args:List AV)(res:AV×List T):OW d g args res d g args [] =some res:=by simp_all [OW]
def HC:s9:=λ_ _ _ _=>none
theorem i4[eg]{P:Program}:lJ P HC:=λ_ _ _ _ _ _ h=>by cases h
theorem OX(n:Nat)(c:Cl): (Hw n c).av=lz n c.av:=by
 cases c with
 |c x=>cases x<;>rfl
 | _=>rfl
theorem DX(n:Nat)(v:V1): (xF n v).av=kz n v.av:=by
 cases v with
 |cl c=>cases c with
  |c x=>cases x<;>rfl
  | _=>rfl
 |agg cs=>simp_all [xF,V1.av,kz,OX]
 |fn f cs=>rfl
theorem xJ(n:Nat)(v:V): (rY n v).av=shift n v.av:=by
 cases v with
 |v x=>
  have :shift n x.av=kz n x.av:=by
   cases x with
   |cl c=>cases c with
    |c x=>cases x<;>rfl
    | _=>rfl
   | _=>rfl
  show (xF n x).av=shift n x.av;rw[this,DX]
 |tup l=>simp_all [rY,V.av,shift,DX]
theorem Gz{G:List (Option eU)}{out:List eU}{c:Cl}(h:c.ok (out.map some)): (Hw G.length c).ok (G++out.map some):=by
 cases c with
 |own p sz lo len w=>
  obtain⟨h1,h2⟩:=h;refine⟨by simp at h1 ⊢;omega,λhw=> ?_⟩;obtain⟨a,b,c⟩:=h2 hw;refine⟨a,b,λtr htr=>c tr ?_⟩;rw[Be,if_pos (by simp)] at htr
  simp_all [f9,gy]
 |c x=>cases x<;>trivial
 |ptrT p sz i j=>show p.r+G.length< (G++out.map some).length;have h:p.r< (out.map some).length:=h;simp at h ⊢;omega
 | _=>trivial
theorem DY{G:List (Option eU)}{out:List eU}{v:V1}(h:v.ok (out.map some)): (xF G.length v).ok (G++out.map some):=by
 cases v with
 |cl c=>exact Gz h
 |agg cs=>intro c hc;obtain⟨x,hx,rfl⟩:=aN.1 hc;exact Gz (h x hx)
 |fn f cs=>trivial
theorem xK{G:List (Option eU)}{out:List eU}{v:V}(h:v.ok (out.map some)): (rY G.length v).ok (G++out.map some):=by
 cases v with
 |v x=>exact DY h
 |tup l=>intro c hc;obtain⟨x,hx,rfl⟩:=aN.1 hc;exact DY (h x hx)
theorem vr(S:TS)(v:AV)(out:List eU): ({ S with gh:=S.gh++out.map some }:TS).st=(tj S.st (v,out.map eU.tree)).2:=by
 unfold TS.st tj;simp only[ax,aJ]
 congr 1
 funext r
 rw[Be];by_cases h:S.gh.length<=r
 ·rw[if_pos h];by_cases h2:r<S.gh.length+out.length
  ·rw[if_pos ⟨h,h2⟩,aq]
  ·rw[if_neg (λhh=>h2 hh.2),bZ (by omega),Bf h]
 ·rw[if_neg h,if_neg (λhh=>h hh.1)]
section
variable {ρ:Type} {P:Program} {Θ:n8} {S:TS} {Y:zh}
theorem DZ(hS:S.ok): ∀ (caps:List Cl) (κ':List Cl->Option ρ) (r:ρ),(∀c∈caps,c.ok S.gh)->JJ (SM S none) caps κ'=some r-> ∃cs,(caps.map Cl.av).map (gX S.st 0)=cs.map Cl.av/\κ' cs=some r:=by
 intro caps
 induction caps with
 |nil=>intro κ' r _ h;exact⟨[],rfl,h⟩
 |cons c caps ih=>intro κ' r hc h;unfold JJ at h;obtain⟨c',g1,h⟩:=DV hS (hc c aF) h;obtain⟨cs,g2,h⟩:=ih _ r (λx hx=>hc x (aO _ hx)) h;exact⟨c'::cs,by simp_all,h⟩
theorem QD[eg](hΘ:gz P Θ)(hY:lM P Y)(hS:S.ok){f:Operand}{ts:Array TypeId}{as:Array Operand}{κ:V->TS->Option ρ}{r:ρ}(h:Nf Θ Y S f ts.toList as.toList κ=some r){dst:Option Tmp}{ty:TypeId}{pos:String}{aft:Array Edge}{gd:Option (Nat×Bool)}:
  ∃D v S',lJ P D/\step D P S.st ⟨dst,.call { callee:=.value f,args:=as,argTypes:=ts },ty,pos,aft,gd⟩=some (V.av v,TS.st S')/\S'.ok/\v.ok S'.gh/\κ v S'=some r:=by
 have fin: ∀ (g:FuncId) (caps:List AV) (vs:List V1),g<jF->callee S.st f=some (g,caps)->args P S.st ts as caps=vs.map V1.av->Y g vs ρ (λres out=>κ (rY S.gh.length res) { S with gh:=S.gh++out.map some })=some r->
   ∃D v S',lJ P D/\step D P S.st ⟨dst,.call { callee:=.value f,args:=as,argTypes:=ts },ty,pos,aft,gd⟩=some (V.av v,TS.st S')/\S'.ok/\v.ok S'.gh/\κ v S'=some r:=by
  intro g caps vs hg h1 h2 h3;obtain⟨res,out,h4,h5,h6⟩:=hY _ _ _ _ _ h3;have h4:=h4.fn hg;refine⟨OW dst g (vs.map V1.av) (res.av,out.map eU.tree),_,_,DW h4,?_,TS.ok_gh hS (ji.apps _ _),xK h5,h6⟩;simp only[step,h1,ae,h2];rw[Nt];simp only[aI];rw[vr S res.av out,xJ];rfl
 unfold Nf at h;split at h
 ·rename_i g x y hf;obtain⟨hg,h⟩:=eB h;have hg:g<jF:=ar hg;obtain⟨vs,h1,h⟩:=wE hΘ hS _ _ _ _ h;refine fin g [] vs hg ?_ ?_ h
  ·unfold callee;rw[eH,hf];rfl
  grind [args]
 ·rename_i g caps hf;obtain⟨hg,h⟩:=eB h;have hg:g<jF:=ar hg;obtain⟨vs,h1,h⟩:=wE hΘ hS _ _ _ _ h
  have hcaps: ∀c∈caps,c.ok S.gh:=by have:=n9 hS f;rw[hf] at this;exact this
  obtain⟨cs,h2,h⟩:=DZ hS _ _ _ hcaps h;refine fin g (caps.map Cl.av) (vs++cs.map .cl) hg ?_ ?_ h
  ·unfold callee;rw[eH,hf];rfl
  ·unfold args;rw[h1,h2,ce,bL];rfl
 ·cases h
theorem gR{t t':Ty}{l:List t.D}{l':List t'.D}(h:wB t t' l=some l'): ∃e:t=t',e ▸ l=l':=by grind [wB]
theorem OY{t:Ty}(h:t.flatB=true)(x:t.D): (t.row x).all T.flat=true:=by
 cases t with
 |st n=>cases n<;>first |rfl|cases h
 |ls t=>cases h
 | _=>rfl
theorem xL(t:Ty): (t.shs.all (· ==0))=t.flatB:=by
 cases t with
 |st n=>cases n<;>rfl
 |ls t=>
  show ((t.width==0)&&true)=false;have:=t.width_pos
  grind
 | _=>rfl
theorem uk{t:Ty}(h:t.flatB=true)(l:List t.D): (l.map t.row).all (λr=>r.all T.flat)=true:=by simp_all [OY]
theorem Ts(hS:S.ok){el:Ty}{v:Cl}(hv:v.ok S.gh){κ:List el.D->TS->Option ρ}{r:ρ}(h:Qo S el v κ=some r):
  ∃more S',jT S.st el.width el.flatB v.av=some (more.map el.row,S'.st)/\S'.ok/\ji S.gh S'.gh/\S'.gh.length=S.gh.length/\S'.fz=S.fz/\κ more S'=some r:=by
 unfold Qo at h;split at h
 ·exact⟨[],S,rfl,hS,ji.refl _,rfl,rfl,h⟩
 ·rename_i t l;obtain⟨h1,h⟩:=eB h;split at h
  ·rename_i l' hl;obtain⟨e,hl⟩:=gR hl;subst e;simp only at hl;subst hl;refine⟨l,S,?_,hS,ji.refl _,rfl,rfl,h⟩;simp only[Cl.av,C.av,jT];rw[if_pos ⟨trivial,uk h1 l⟩]
  ·cases h
 ·rename_i p sz lo len w;obtain⟨h0,h⟩:=eB h;have h0:el.width=sz:=an h0;cases hfl:el.flatB with
  |true=>
   rw[hfl] at h;simp only[cond_true] at h;obtain⟨t,l,h1,h2,h⟩:=ij h;split at h
   ·rename_i l' hl;obtain⟨e,hl⟩:=gR hl;subst e;simp only at hl;subst hl
    have src: ∀ (lo len:Nat),lo+len<=l.length->jT S.st t.width true (.own p sz lo len)=some (((l.drop lo).take len).map t.row,S.st):=by intro lo len hle;simp only[jT];rw[if_pos h0.symm,lB h1];simp only[ae,Bool.true_eq_false,false_and,if_false,aJ];rw[if_pos ⟨hle,by grind [uk]⟩];simp[cB,cX]
    cases w with
    |true=>
     obtain⟨e1,e2,e3⟩:=wD hv h2;refine⟨l,S,?_,hS,ji.refl _,rfl,rfl,h⟩
     grind [Cl.av]
    |false=>simp only[cond_false] at h;obtain⟨h3,h⟩:=fy h;exact⟨_,S,src lo len h3,hS,ji.refl _,rfl,rfl,h⟩
   ·cases h
  |false=>
   rw[hfl] at h;simp only[cond_false] at h;split at h
   ·rename_i hp;obtain⟨h3,h6⟩:=eB h;clear h;simp only[al] at h3;obtain⟨hw,h4⟩:=h3;have h4:S.fz<=p.r:=ar h4;subst hw;obtain⟨t,l,h1,h2,h⟩:=ij h6;split at h
    ·rename_i l' hl;obtain⟨e,hl⟩:=gR hl;subst e;simp only at hl;subst hl;obtain⟨e1,e2,e3⟩:=wD hv h2;refine⟨l,_,?_,TS.ok_gh hS (ji.gone _ _),ji.gone _ _,by simp[ir],rfl,h⟩;simp only[Cl.av,jT];rw[if_pos h0.symm,lB h1];simp only[ae,aJ];rw[if_pos ⟨trivial,hp,e2,e3,h4⟩,z0]
    ·cases h
   ·cases h
 ·cases h
end
end
section
open Go
theorem L0(t:Ty):t.zvs.length=t.width:=by
 cases t with
 |st n=>cases n<;>rfl
 | _=>rfl
theorem zl(t:Ty):t.shs.length=t.width:=by
 cases t with
 |st n=>cases n<;>rfl
 | _=>rfl
theorem z5{P:Program}{el:TypeId}{e:Ty}(h1:P.cellsOf el=e.width)(h2:oH P 9 el=e.shs)(h3:AO P el=some e.zvs):AU P el=some (List.zipWith zc e.shs e.zvs):=by simp_all [AU,L0,zl]
section
variable {ρ:Type} {P:Program} {Θ:n8} {S:TS}
theorem QE(hS:S.ok){el:Ty}{v:Cl}(hv:v.ok S.gh){more:List el.D}{κ:List el.D->TS->Option ρ}{r:ρ}(h:JK S el v more κ=some r):
  ∃l S',jf S.st v.av el.width (more.map el.row)=some (.own ⟨S.gh.length,[]⟩ el.width 0 l.length,{ S'.st with gh:=fD S'.st.gh S.gh.length (some (.sl el.width (l.map el.row))),ng:=S.gh.length+1 })/\
   S'.ok/\ji S.gh S'.gh/\S'.gh.length=S.gh.length/\κ l S'=some r:=by
 unfold JK at h;split at h
 ·refine⟨more,S,?_,hS,ji.refl _,rfl,h⟩;simp only[Cl.av,jf,aJ];rfl
 ·rename_i p sz lo len w;obtain⟨h0,h'⟩:=eB h;clear h;simp only[al] at h0;have hfz:S.fz<=p.r:=ar h0.1;have hsz:el.width=sz:=an h0.2;split at h'
  ·rename_i hp;obtain⟨t,l,h1,h2,h⟩:=ij h';split at h
   ·rename_i l' hl;obtain⟨e,hl⟩:=gR hl;subst e;simp only at hl;subst hl
    have fin: ∀ (len:Nat),¬l.length<len->jf S.st (.own p sz 0 len) t.width (more.map t.row)=some (.own ⟨S.gh.length,[]⟩ t.width 0 (l.take len++more).length,{ ({ S with gh:=fR S.gh p.r none }:TS).st with gh:=fD ({ S with gh:=fR S.gh p.r none }:TS).st.gh S.gh.length (some (.sl t.width ((l.take len++more).map t.row))),ng:=S.gh.length+1 }):=by
     intro len hlen;simp only[jf];rw[if_pos ⟨hsz.symm,trivial,hfz⟩,lB h1];simp only[ae,aJ];rw[if_neg hlen,if_pos hp,z0];have e1: (l.take len++more).length=len+more.length:=by simp;omega
     rw[e1,ce,cB];rfl
    cases w with
    |true=>grind [wD,TS.ok_gh,ji.gone,ir,Cl.av]
    |false=>
     simp only[cond_false] at h
     grind [fy,Bb,TS.ok_gh,ji.gone,ir,Cl.av]
   ·cases h
  ·rename_i i j hp;split at h'
   ·rename_i tr htr;split at h'
    ·rename_i hh;obtain⟨t,l,h1,h2,h⟩:=ij h';split at h
     ·rename_i l' hl;obtain⟨e,hl⟩:=gR hl;subst e;simp only at hl;subst hl;obtain⟨h3,h⟩:=fy h;obtain⟨h4,h⟩:=Bb h;have hg:=eU.look htr;have hput:ji S.gh (fR S.gh p.r (some (eU.mk tr.t tr.l (some (i,j))))):=ji.put hg rfl;refine⟨_,{ S with gh:=fR S.gh p.r (some (eU.mk tr.t tr.l (some (i,j)))) },?_,TS.ok_gh hS hput,hput,by simp[ir],h⟩;simp only[Cl.av,jf];rw[if_pos ⟨hsz.symm,h3,hfz⟩,lB h1];simp only[ae,aJ];rw[if_neg h4,if_neg (by rw[hp];simp),zk _ _ (vq hg)];have e1: (l.take len++more).length=len+more.length:=by simp;omega
      rw[e1,ce,cB]
      have e2:S.st.setAt p .dd= { S.st with gh:=fD S.st.gh p.r (some (eU.tree ⟨tr.t,tr.l,some (i,j)⟩)) } :=by
       unfold St.setAt
       congr 2
       show ((f9 S.gh p.r).map eU.tree).map _=_;rw[hg,hp];obtain⟨t0,l0,hole⟩:=tr;simp only at hh;subst hh;rfl
      rw[e2];rfl
     ·cases h
    ·cases h'
   ·cases h'
  ·cases h'
 ·cases h
theorem Tu(hΘ:gz P Θ)(hS:S.ok){t:TypeId}{s x:Operand}{κ:V->TS->Option ρ}{r:ρ}(h:Te Θ S t (S.opd s) (S.opd x) κ=some r){dst:Option Tmp}{ty:TypeId}{pos:String}{aft:Array Edge}{gd:Option (Nat×Bool)}{D:s9}:
  ∃v S',step D P S.st ⟨dst,.call { callee:=.builtin .append,args:=#[s,x],argTypes:=#[t,t] },ty,pos,aft,gd⟩=some (V.av v,TS.st S')/\S'.ok/\v.ok S'.gh/\κ v S'=some r:=by
 unfold Te at h;split at h
 ·rename_i ti hti;split at h
  ·rename_i el sv xv he hs hx;obtain⟨elT',g1,g2,g3,g4,g5,g6⟩:=(hΘ _ _ hti).el el he;have hsv:=n9 hS s;rw[hs] at hsv;have hxv:=n9 hS x;rw[hx] at hxv;obtain⟨more,S1,h1,k1,k2,k3,k4,h⟩:=Ts hS (show xv.ok S.gh from hxv) h;obtain⟨l,S2,h2,m1,m2,m3,h⟩:=QE k1 (Cl.ok_mono k2 (show sv.ok S.gh from hsv)) h;obtain⟨hb,h⟩:=fy h;have hgl:ji S1.gh (S2.gh++ [some ⟨el,l,none⟩]):=m2.trans (ji.app _ _);refine⟨_,_,?_,TS.ok_gh m1 (ji.app _ _),?_,h⟩
   ·simp only[step];rw[if_pos trivial,g1];simp only[ae,g2,g5,xL,eH,hs,hx];show (jT S.st el.width el.flatB xv.av).bind _=_;rw[h1];simp only[ae];show (jf S1.st sv.av el.width _).bind _=_;rw[h2];simp only[ae];have hlen:l.length<=2 ^ 40:=aP (dE _ g4) hb;rw[if_pos ⟨by rw[g3];exact hb,hlen,el.width_pos,by rw[z5 g2 g5 g6];rfl⟩];rw[DU,m3];rfl
   ·refine⟨by simp,λ_=>⟨rfl,rfl,λtr htr=> ?_⟩⟩;rw[lL,if_pos rfl] at htr;cases htr;rfl
  ·cases h
 ·cases h
end
end
section
open Go
theorem Tv(a b:Nat): (a==b)=Nat.beq a b:=by
 rw[cj,beq_iff_eq]
 simp_all
theorem QF(a b:Nat): (a==b)=Nat.beq b a:=by
 rw[cj,beq_iff_eq]
 grind [Nat.beq_refl,Nat.eq_of_beq_eq_true]
theorem D0(r i j pr i' j':Nat)(l:List (Nat×Nat)):under ⟨r,[(i,j)]⟩ ⟨pr,(i',j')::l⟩=(Nat.beq pr r&&Nat.beq j j'):=by simp only[under,AQ,dH];rw[QF,Tv]
theorem D3(r i j pr:Nat):under ⟨r,[(i,j)]⟩ ⟨pr,[]⟩=false:=by simp[under,AQ]
theorem z6(r i j:Nat)(c:Cl): (rh r j c).av=rd ⟨r,[(i,j)]⟩ c.av:=by
 cases c with
 |own p sz lo len w=>
  obtain⟨pr,pl⟩:=p;cases pl with
  |nil=>simp only[rh,Cl.av,rd,D3];rfl
  |cons a l=>obtain⟨i',j'⟩:=a;simp only[rh,Cl.av,rd,D0];cases (Nat.beq pr r&&Nat.beq j j')<;>rfl
 |ptrT p sz a b=>
  obtain⟨pr,pl⟩:=p;cases pl with
  |nil=>simp only[rh,Cl.av,rd,D3];rfl
  |cons a' l=>obtain⟨i',j'⟩:=a';simp only[rh,Cl.av,rd,D0];cases (Nat.beq pr r&&Nat.beq j j')<;>rfl
 |c x=>cases x<;>rfl
 | _=>rfl
theorem GA(r i j:Nat)(v:V1): (tT r j v).av=ue ⟨r,[(i,j)]⟩ v.av:=by
 cases v with
 |cl c=>
  have :ue ⟨r,[(i,j)]⟩ (V1.cl c).av=rd ⟨r,[(i,j)]⟩ c.av:=by
   cases c with
   |c x=>cases x<;>rfl
   | _=>rfl
  rw[this];exact z6 r i j c
 |agg cs=>
  simp only[tT,V1.av,ue,bL]
  congr 1
  grind [List.map_congr_left,z6]
 |fn f cs=>
  simp only[tT,V1.av,ue,bL]
  congr 1
  grind [List.map_congr_left,z6]
theorem QG(r i j:Nat)(v:V): (Gx r j v).av=kill ⟨r,[(i,j)]⟩ v.av:=by
 cases v with
 |v x=>
  have :kill ⟨r,[(i,j)]⟩ (V.v x).av=ue ⟨r,[(i,j)]⟩ x.av:=by
   cases x with
   |cl c=>cases c with
    |c x=>cases x<;>rfl
    | _=>rfl
   | _=>rfl
  rw[this];exact GA r i j x
 |tup l=>
  simp only[Gx,V.av,kill,bL]
  congr 1
  grind [List.map_congr_left,GA]
theorem JU(f:V->V)(hf:f V.dead=V.dead): ∀ (l:List (Nat×V)) (t:Nat),jE (l.map λx=>(x.1,f x.2)) t=f (jE l t)
 | [],t=>hf.symm
 | (u,v)::l,t=>by
   simp only[aY,jE];cases Nat.beq u t with
   |true=>rfl
   |false=>exact JU f hf l t
theorem Tw(S:TS)(r i j:Nat): (S.kill r j).st=S.st.killU ⟨r,[(i,j)]⟩:=by
 unfold TS.kill TS.st St.killU;simp only[aJ]
 congr 1
 ·funext t
  rw[JU _ rfl];exact QG r i j _
 ·funext n
  rw[gy,gy,aq];cases S.bx[n]? with
  |none=>rfl
  |some cs=>
   simp only[aI,bL]
   congr 1
   grind [List.map_congr_left,z6]
theorem z7{G:List (Option eU)}{r j:Nat}{c:Cl}(h:c.ok G): (rh r j c).ok G:=by
 cases c with
 |own p sz lo len w=>
  simp only[rh];split
  ·cases (Nat.beq p.r r&&Nat.beq j _)<;>first |exact h|trivial
  ·exact h
 |ptrT p sz a b=>
  simp only[rh];split
  ·cases (Nat.beq p.r r&&Nat.beq j _)<;>first |exact h|trivial
  ·exact h
 | _=>exact h
theorem GB{G:List (Option eU)}{r j:Nat}{v:V1}(h:v.ok G): (tT r j v).ok G:=by
 cases v with
 |cl c=>exact z7 h
 |agg cs=>intro c hc;obtain⟨x,hx,rfl⟩:=aN.1 hc;exact z7 (h x hx)
 |fn f cs=>intro c hc;obtain⟨x,hx,rfl⟩:=aN.1 hc;exact z7 (h x hx)
theorem Nu{S:TS}(hS:S.ok)(r j:Nat): (S.kill r j).ok:=by
 refine⟨λx hx=> ?_,λcs hcs c hc=> ?_⟩
 ·obtain⟨y,hy,rfl⟩:=aN.1 hx;have:=hS.env y hy;obtain⟨t,v⟩:=y;cases v with
  |v x=>exact GB this
  |tup l=>intro c hc;obtain⟨z,hz,rfl⟩:=aN.1 hc;exact GB (this z hz)
 ·obtain⟨y,hy,rfl⟩:=aN.1 hcs;obtain⟨z,hz,rfl⟩:=aN.1 hc;exact z7 (hS.bx y hy z hz)
def TS.with(S:TS)(no N w:Nat)(R:List (List T)):St:={ S.st with gh:=fD S.st.gh no (some (.sl w R)),ng:=N }
theorem GC(S:TS)(r i j no N w:Nat)(R:List (List T)): (S.with no N w R).killU ⟨r,[(i,j)]⟩=(S.kill r j).with no N w R:=by
 unfold TS.with
 rw[Tw S r i j];rfl
theorem Nv{α:Type}(f:Nat->α)(t:Nat)(x y:α):fD (fD f t x) t y=fD f t y:=by
 funext u
 unfold fD;split<;>rfl
theorem JV{α:Type}(f:Nat->α)(t:Nat)(x:α):fD f t x t=x:=by unfold fD;rw[if_pos rfl]
theorem QH{α:Type}(f:Nat->α){t u:Nat}(h:t≠u)(x y:α):fD (fD f t x) u y=fD (fD f u y) t x:=by
 funext v
 unfold fD
 grind
structure Tx (S S1:TS) (no:Nat):Prop where
 ok:S1.ok
 gle:ji S.gh S1.gh
 len:S1.gh.length=S.gh.length
 fz:S1.fz=S.fz
 nt:S1.nt=S.nt
 no:f9 S1.gh no=f9 S.gh no
def JW:Option Ty->Nat|some e=>e.width|none=>0
def Yt(X:St)(no i j:Nat)(c:AV):Option Ty->Option St
 |none=>some X
 |some t=>rf X ⟨no,[]⟩ i j t.width c
def QI(R:List (List T))(i j:Nat)(x:C):Option Ty->List (List T)
 |none=>R
 |some _=>R.set i ((R.getD i []).set j x.tree)
theorem QJ{S S1:TS}(hS:S.ok){no j:Nat}(i N w:Nat){et:Option Ty}{c:Cl}{x:C}(hc:c.ok S.gh)(h:jS S no j et c=some (x,S1))(R:List (List T)):
  Tx S S1 no/\c≠ .dead/\(et=none->T.ofSc c.av=x.tree)/\Yt (S.with no N w R) no i j c.av et=some (S1.with no N w (QI R i j x et)):=by
 cases c with
 |c y=>
  cases y with
  |sc v=>
   cases et with
   |none=>simp only[jS,af,ao] at h;obtain⟨rfl,rfl⟩:=h;exact⟨⟨hS,ji.refl _,rfl,rfl,rfl,rfl⟩,(λh=>by cases h),λ_=>rfl,rfl⟩
   |some t=>simp[jS] at h
  |ls t l=>cases et<;>simp[jS] at h
 |em=>
  cases et with
  |none=>simp[jS] at h
  |some t=>
   simp only[jS,af,ao] at h;obtain⟨rfl,rfl⟩:=h;refine⟨⟨Nu hS _ _,ji.refl _,rfl,rfl,rfl,rfl⟩,(λh=>by cases h),(λh=>by cases h),?_⟩;simp only[Yt,Cl.av,rf,fo.sub,be,GC,QI]
   congr 1
   unfold St.setAt TS.with
   simp only;rw[JV,Nv];rfl
 |own p sz lo len wh=>
  obtain⟨pr,pl⟩:=p;cases wh with
  |false=>cases et<;>simp[jS] at h
  |true=>
   cases et with
   |none=>simp[jS] at h
   |some t=>
    cases pl with
    |cons a l=>simp[jS] at h
    |nil=>
     simp only[jS] at h;obtain⟨h1,h⟩:=eB h;simp only[al,b6] at h1;obtain⟨⟨h1,h2⟩,h3⟩:=h1;have h1:t.width=sz:=an h1;have h2:S.fz<=pr:=ar h2;have h3:pr≠no:=by intro e;rw[e,de] at h3;cases h3
     split at h
     ·rename_i tr htr;split at h
      ·rename_i hh;obtain⟨h4,h⟩:=eB h;have h4':tr.t.width=sz:=an h4;simp only[af,ao] at h;obtain⟨rfl,rfl⟩:=h;have hg:=eU.look htr;obtain⟨tt,l,hole⟩:=tr;simp only at hh h4';subst hh;obtain⟨e1,e2,e3⟩:=wD hc (λ_=>hg);refine⟨⟨Nu (TS.ok_gh hS (ji.gone _ _)) _ _,ji.gone _ _,by simp[TS.kill,ir],rfl,rfl,?_⟩,(λh=>by cases h),(λh=>by cases h),?_⟩
       ·show f9 (fR S.gh pr none) no=_;rw[qA _ _ (.inr rfl),if_neg (λe=>h3 e.symm)]
       ·simp only[Yt,QI,Cl.av,rf]
        have hrows: (S.with no N w R).rows ⟨pr,[]⟩ sz=some (l.map tt.row):=by
         have : (S.with no N w R).look ⟨pr,[]⟩= .sl tt.width (l.map tt.row):=by
          unfold St.look TS.with
          simp only[fD];rw[if_neg h3];show (match (f9 S.gh pr).map eU.tree with |some t=>t.go [] |none=> .dd)=_;rw[hg];rfl
         unfold St.rows;rw[this];simp[h4']
        rw[if_pos ⟨trivial,h1.symm,e2,h2,h3⟩,hrows];simp only[ae,aJ];rw[if_pos (by omega),e3]
        congr 1
        have e4: (l.map tt.row).take l.length=l.map tt.row:=bG (by simp);rw[e4];simp only[fo.sub,be,GC];unfold TS.with
        simp only;rw[JV,QH _ (λe=>h3 e.symm),Nv];have e5: ({ S with gh:=fR S.gh pr none }:TS).kill no j= { S.kill no j with gh:=fR (S.kill no j).gh pr none } :=rfl;rw[e5,z0];simp only[C.tree,h4'];rfl
      ·cases h
     ·cases h
 |pro cs=>cases et<;>simp[jS] at h
 |ptrB n j=>cases et<;>simp[jS] at h
 |ptrT p sz a b=>cases et<;>simp[jS] at h
 |dead=>cases et<;>simp[jS] at h
theorem Wv(X:St)(no i j:Nat)(c:AV)(et:Option Ty): (if JW et=0 then some X else rf X ⟨no,[]⟩ i j (JW et) c)=Yt X no i j c et:=by
 cases et with
 |none=>rfl
 |some t=>exact if_neg (by show ¬t.width=0;have:=t.width_pos;omega)
theorem QK{R:List (List T)}{i j:Nat}{x:C}{et:Option Ty}{row:List T}(hr:R[i]? =some row)(hj:j<row.length)(h:et=none->row[j]? =some x.tree):QI R i j x et=R.set i (row.set j x.tree):=by
 cases et with
 |none=>
  have h:=h rfl
  have e1:row.set j x.tree=row:=by
   apply bE;intro k;rw[cg];split
   ·grind
   ·rfl
  rw[e1];apply bE;intro k;show R[k]? =_
  grind
 |some t=>simp_all [QI]
theorem D4(no i N w:Nat): ∀ (ets:List (Option Ty)) (cs:List Cl) (j:Nat) (S S1:TS) (xs:List C) (R:List (List T)) (row:List T),S.ok->(∀c∈cs,c.ok S.gh)->ri no j S ets cs=some (xs,S1)->R[i]? =some row->
  j+cs.length<=row.length->(∀ (k:Nat) (c:Cl),cs[k]? =some c->row[j+k]? =some (T.ofSc c.av))->
  Tx S S1 no/\ets.length=cs.length/\xs.length=cs.length/\(∀c∈cs,c≠ .dead)/\
   fQ (S.with no N w R) ⟨no,[]⟩ i j (ets.map JW) (cs.map Cl.av)=some (S1.with no N w (R.set i (row.take j++xs.map C.tree++row.drop (j+cs.length)))):=by
 intro ets
 induction ets with
 |nil=>
  intro cs j S S1 xs R row hS hcs h hr hl ho;cases cs with
  |cons c cs=>simp[ri] at h
  |nil=>
   simp only[ri,af,ao] at h;obtain⟨rfl,rfl⟩:=h;refine⟨⟨hS,ji.refl _,rfl,rfl,rfl,rfl⟩,rfl,rfl,(λc hc=>by cases hc),?_⟩;simp only[cF,fQ,bS,ck,b7,cS]
   congr 2
   apply bE
   grind
 |cons et ets ih=>
  intro cs j S S1 xs R row hS hcs h hr hl ho;cases cs with
  |nil=>simp[ri] at h
  |cons c cs=>
   simp only[ri] at h;split at h
   ·rename_i x S2 hx;split at h
    ·rename_i xs' S3 hxs;simp only[af,ao] at h;obtain⟨rfl,rfl⟩:=h;obtain⟨k1,k2,k3,k4⟩:=QJ hS i N w (hcs c aF) hx R;have hj:j<row.length:=by simp at hl;omega
     have hput:=QK (et:=et) hr hj (x:=x) (λhe=>by rw[<-k3 he];exact ho 0 c rfl);rw[hput] at k4;have hi:i<R.length:=(aj.1 hr).1
     obtain⟨m1,m2,m3,m4,m5⟩:=ih cs (j+1) S2 S3 xs' (R.set i (row.set j x.tree)) (row.set j x.tree) k1.ok (λy hy=>Cl.ok_mono k1.gle (hcs y (aO _ hy))) hxs (by simp[hi]) (by simp at hl ⊢;omega) (λk y hy=>by rw[dV (by omega),show j+1+k=j+(k+1) by omega];exact ho (k+1) y (by simpa using hy))
     refine⟨⟨m1.ok,k1.gle.trans m1.gle,m1.len.trans k1.len,m1.fz.trans k1.fz,m1.nt.trans k1.nt,m1.no.trans k1.no⟩,by simp[m2],by simp[m3],λy hy=> ?_,?_⟩
     ·grind
     ·simp only[aY,fQ];rw[Wv,k4];simp only[ae];rw[m5,List.set_set]
      congr 3
      have e2: (row.set j x.tree).take (j+1)=row.take j++ [x.tree] :=by
       rw[List.take_set,bI,ah hj];rw[dB];have hlen: (row.take j).length=j:=by simp;omega
       rw[dM _ _ (by omega),hlen,dq];rfl
      grind [List.drop_set_of_lt]
    ·cases h
   ·cases h
end
section
open Go
theorem JX: ∀ {cs:List Cl} {vs:List C},Wp cs=some vs->cs.map (λc=>T.ofSc c.av)=vs.map C.tree/\vs.length=cs.length
 | [],vs,h=>by simp_all [Wp]
 |c::cs,vs,h=>by
  cases c with
  |c y=>cases y with
   |sc v=>
    simp only[Wp] at h;split at h
    ·rename_i r hr;simp only[af] at h;subst h;obtain⟨h1,h2⟩:=JX hr;exact⟨by simp only[aY,h1];rfl,by simp[h2]⟩
    ·cases h
   |ls t l=>simp[Wp] at h
  | _=>simp[Wp] at h
theorem D5{x:V1}(h1:x≠ .cl .dead)(h2: ∀f cs,x≠ .fn f cs): (V.v x).av.cells=x.cells.map Cl.av/\(V.v x).av.isDead=false:=by
 cases x with
 |cl c=>cases c with
  |c y=>cases y<;>exact⟨rfl,rfl⟩
  |dead=>exact absurd rfl h1
  | _=>exact⟨rfl,rfl⟩
 |agg cs=>exact⟨rfl,rfl⟩
 |fn f cs=>exact absurd rfl (h2 f cs)
section
variable {ρ:Type} {P:Program} {Θ:n8} {S:TS}
theorem Nw(tr:eU){i j n:Nat}{y:tr.t.D}(hy:tr.l[i]? =some y)(hh:tr.hole=none\/(tr.hole=some (i,j)/\n=1))(hn:j+n<=tr.t.width):
  ∃Rh rowh,tr.tree= .sl tr.t.width Rh/\Rh[i]? =some rowh/\Rh.length=tr.l.length/\rowh.length=tr.t.width/\rowh.take j=(tr.t.row y).take j/\rowh.drop (j+n)=(tr.t.row y).drop (j+n)/\ ∀X,Rh.set i X=(tr.l.map tr.t.row).set i X:=by
 obtain⟨t,l,hole⟩:=tr;simp only at hy hh hn y;have hi:=(aj.1 hy).1;rcases hh with hh| ⟨hh,rfl⟩
 ·subst hh;exact⟨l.map t.row,t.row y,rfl,by rw[aq,hy];rfl,by simp,t.row_length y,rfl,rfl,λ_=>rfl⟩
 ·subst hh;have e1: (l.map t.row).getD i [] =t.row y:=by simp[aE,hy]
  refine⟨(l.map t.row).set i ((t.row y).set j .dd),(t.row y).set j .dd,by simp only[eU.tree,e1],by simp[hi],by simp,by simp[t.row_length],?_,?_,λX=>by rw[List.set_set]⟩
  all_goals grind [List.take_set,List.set_eq_of_length_le,List.drop_set_of_lt]
theorem QL(hΘ:gz P Θ)(hS:S.ok){t:TypeId}{a v:V}(ha:a.ok S.gh)(hv:v.ok S.gh){κ:TS->Option ρ}{r:ρ}(h:LS Θ S t a v κ=some r): ∃S',store P S.st t a.av v.av=some (TS.st S')/\S'.ok/\ji S.gh S'.gh/\κ S'=some r:=by
 unfold LS at h;split at h
 ·cases h
 ·rename_i ti hti;have hok:=hΘ _ _ hti;split at h
  ·cases h
  ·cases h
  ·cases h
  ·rename_i x hx1 hx2;obtain⟨hc1,hc2⟩:=D5 (x:=x) (λe=>hx1 (by rw[e])) (λf cs e=>hx2 f cs (by rw[e]));obtain⟨h1,h'⟩:=eB h;clear h;have h:=h';clear h';have hlen:x.cells.length=ti.ty.width:=an h1
   have hcok: ∀c∈x.cells,c.ok S.gh:=by
    cases x with
    |cl c=>intro c' hc';simp only[V1.cells,aD] at hc';subst hc';exact hv
    |agg cs=>exact hv
    |fn f cs=>exact absurd rfl (hx2 f cs)
   have hfst: ¬ ((V.v x).av.cells.length≠P.cellsOf t\/(V.v x).av.isDead=true):=by rw[hc1,hc2,hok.cells];simp[hlen]
   split at h
   ·rename_i b j;split at h
    ·rename_i cs hcs;obtain⟨h2,h⟩:=eB h;have h2:j+x.cells.length<=cs.length:=ar h2;have hcs':S.bx[b]? =some cs:=by rw[<-gy];exact hcs
     have hb:b<S.bx.length:=(aj.1 hcs').1;refine⟨{ S with bx:=fR S.bx b (cs.take j++x.cells++cs.drop (j+x.cells.length)) },?_,⟨hS.env,λcs' hcs'' c hc=> ?_⟩,ji.refl _,h⟩
     ·have e0:store P S.st t (V.v (.cl (.ptrB b j))).av (V.v x).av=(S.st.bx b).bind λcs=>if j+(V.v x).av.cells.length<=cs.length then some { S.st with bx:=fD S.st.bx b (some (cs.take j++(V.v x).av.cells++cs.drop (j+(V.v x).av.cells.length))) } else none:=by
       unfold store;simp only;rw[if_neg hfst];rfl
      have e1:S.st.bx b=some (cs.map Cl.av):=by show (pF S.bx b).map _=_;rw[hcs];rfl
      simp_all [OV]
     ·rw[ir] at hcs'';rcases cf hcs'' with h3|h3
      ·exact hS.bx _ h3 c hc
      ·subst h3;simp only[aW] at hc;have hm:=ap hcs';rcases hc with (hc|hc)|hc
       ·exact hS.bx _ hm c (bO hc)
       ·exact hcok c hc
       ·exact hS.bx _ hm c (bJ hc)
    ·cases h
   ·rename_i p sz i j;obtain⟨pr,pl⟩:=p;cases pl with
    |cons a l=>cases h
    |nil=>
     simp only at h;split at h
     ·rename_i tr htr;have hg:=eU.look htr;obtain⟨h2,h⟩:=eB h;simp only[al] at h2;have h3:tr.t.width=sz:=an h2.1.1;have h4:j+ti.ty.width<=sz:=ar h2.1.2;have hgst:S.st.gh pr=some tr.tree:=by show (f9 S.gh pr).map _=_;rw[hg];rfl
      have e2: (V1.av x).cells=x.cells.map Cl.av:=hc1
      have put: ∀ (y:tr.t.D) (hy:tr.l[i]? =some y) (Rh:List (List T)) (rowh:List T),tr.tree= .sl tr.t.width Rh->Rh[i]? =some rowh->rowh.length=tr.t.width->
        store P S.st t (V.v (.cl (.ptrT ⟨pr,[]⟩ sz i j))).av (V.v x).av=(if ti.ty.flatB then some (S.with pr S.gh.length sz (Rh.set i (rowh.take j++x.cells.map (λc=>T.ofSc c.av)++rowh.drop (j+ti.ty.width)))) else
         if S.fz<=pr then fQ (S.with pr S.gh.length sz (Rh.set i (rowh.take j++x.cells.map (λc=>T.ofSc c.av)++rowh.drop (j+ti.ty.width)))) ⟨pr,[]⟩ i j (ti.ty.csh.map JW) (x.cells.map Cl.av) else none):=by
       intro y hy Rh rowh g1 g2 g3;have hi:i<Rh.length:=(aj.1 g2).1
       have e0:store P S.st t (V.v (.cl (.ptrT ⟨pr,[]⟩ sz i j))).av (V.v x).av=(nQ S.st ⟨pr,[]⟩ sz i j ((V.v x).av.cells.map T.ofSc)).bind λS'=>if (oH P 9 t).all (· ==0) then some S' else if S.st.fz<=pr then fQ S' ⟨pr,[]⟩ i j (oH P 9 t) (V.v x).av.cells else none:=by unfold store;simp only;rw[if_neg hfst];rfl
       rw[e0,hc1]
       have hrows:S.st.rows ⟨pr,[]⟩ sz=some Rh:=by unfold St.rows St.look;simp only[hgst,g1,T.go,h3,if_true]
       unfold nQ;rw[hrows];simp only[aJ];have hgd:Rh.getD i [] =rowh:=by simp[aE,g2]
       rw[hgd,if_pos ⟨hi,by rw[g3,hlen,h3];exact h4⟩];simp only[ae,hok.sh,xL]
       have hset:S.st.setAt ⟨pr,[]⟩ (.sl sz (Rh.set i (rowh.take j++(x.cells.map Cl.av).map T.ofSc++rowh.drop (j+x.cells.length))))=S.with pr S.gh.length sz (Rh.set i (rowh.take j++x.cells.map (λc=>T.ofSc c.av)++rowh.drop (j+ti.ty.width))):=by
        unfold St.setAt TS.with
        simp only[hgst,aI,T.put,bL,hlen];rfl
       rw[hset];rfl
      have fin: ∀ (S1:TS) (y z:tr.t.D) (vs:List C) (Rh:List (List T)) (rowh:List T),Tx S S1 pr->tr.l[i]? =some y->tr.t.flat z=(tr.t.flat y).take j++vs++(tr.t.flat y).drop (j+ti.ty.width)->
        rowh.take j=(tr.t.row y).take j->rowh.drop (j+ti.ty.width)=(tr.t.row y).drop (j+ti.ty.width)->(∀X,Rh.set i X=(tr.l.map tr.t.row).set i X)->
        S1.with pr S.gh.length sz (Rh.set i (rowh.take j++vs.map C.tree++rowh.drop (j+ti.ty.width)))=({ S1 with gh:=fR S1.gh pr (some ⟨tr.t,tr.l.set i z,none⟩) }:TS).st/\
        ({ S1 with gh:=fR S1.gh pr (some ⟨tr.t,tr.l.set i z,none⟩) }:TS).ok/\ji S.gh (fR S1.gh pr (some ⟨tr.t,tr.l.set i z,none⟩)):=by
       intro S1 y z vs Rh rowh hT hy hz q1 q2 q3;have hg1:f9 S1.gh pr=some tr:=hT.no.trans hg;have hgle:ji S1.gh (fR S1.gh pr (some ⟨tr.t,tr.l.set i z,none⟩)):=ji.put hg1 (by simp);refine⟨?_,TS.ok_gh hT.ok hgle,hT.gle.trans hgle⟩;rw[zk _ _ (vq hg1)];unfold TS.with
       rw[q1,q2,q3]
       have hrow:tr.t.row z=(tr.t.row y).take j++vs.map C.tree++(tr.t.row y).drop (j+ti.ty.width):=by rw[tr.t.row_flat,hz,tr.t.row_flat];simp[cB,cX]
       have hng:S.gh.length=S1.st.ng:=hT.len.symm;rw[hng]
       congr 3
       simp only[eU.tree,h3];rw[<-hrow,List.map_set]
      cases hfl:ti.ty.flatB with
      |true=>
       rw[hfl] at h;simp only[cond_true] at h;split at h
       ·rename_i vs hh hvs;obtain⟨y,hy,h⟩:=ai.1 h;split at h
        ·rename_i z hz;obtain⟨k1,k2⟩:=JX hvs;obtain⟨Rh,rowh,g1,g2,g3,g4,g5,g6,g7⟩:=Nw tr hy (.inl hh) (by rw[h3];exact h4);obtain⟨f1,f2,f3⟩:=fin S y z vs Rh rowh ⟨hS,ji.refl _,rfl,rfl,rfl,rfl⟩ hy (Ty.unflat_some _ _ _ hz) g5 g6 g7
         grind
        ·cases h
       ·cases h
      |false=>
       rw[hfl] at h;simp only[cond_false] at h;obtain⟨h5,h⟩:=eB h;have h5:S.fz<=pr:=ar h5;split at h
       ·rename_i vs S1 hvs;obtain⟨y,hy,h⟩:=ai.1 h;split at h
        ·rename_i z hz
         have main: (tr.hole=none\/(tr.hole=some (i,j)/\ti.ty.width=1))->κ { S1 with gh:=fR S1.gh pr (some ⟨tr.t,tr.l.set i z,none⟩) } =some r-> ∃S',store P S.st t (V.v (.cl (.ptrT ⟨pr,[]⟩ sz i j))).av (V.v x).av=some (TS.st S')/\S'.ok/\ji S.gh S'.gh/\κ S'=some r:=by
          intro hh hk;obtain⟨Rh,rowh,g1,g2,g3,g4,g5,g6,g7⟩:=Nw tr hy hh (by rw[h3];exact h4);have hi:i<Rh.length:=(aj.1 g2).1;have htk: (rowh.take j).length=j:=by simp;omega
          have hcl: (x.cells.map λc=>T.ofSc c.av).length=x.cells.length:=by simp
          obtain⟨m1,m2,m3,m4,m5⟩:=D4 pr i S.gh.length sz ti.ty.csh x.cells j S S1 vs (Rh.set i (rowh.take j++x.cells.map (λc=>T.ofSc c.av)++rowh.drop (j+ti.ty.width))) (rowh.take j++x.cells.map (λc=>T.ofSc c.av)++rowh.drop (j+ti.ty.width)) hS hcok hvs (by simp[hi]) (by simp;omega) (λk c hc=>by grind)
          obtain⟨f1,f2,f3⟩:=fin S1 y z vs Rh rowh m1 hy (Ty.unflat_some _ _ _ hz) g5 g6 g7;refine⟨_,?_,f2,f3,hk⟩;rw[put y hy Rh rowh g1 g2 g4,hfl,if_neg (by simp),if_pos h5,m5,<-f1]
          congr 2
          rw[List.set_set]
          congr 1
          rw[bn,bn,dh (by omega),List.take_take,Nat.min_self,<-bn]
          congr 1
          rw[<-bn,List.drop_append,ax,htk,hcl,hlen,dq,bM,cy (by simp;omega),be]
         split at h
         ·grind
         ·rename_i i0 j0 hh;obtain⟨h6,h⟩:=eB h;simp only[al] at h6
          grind [fy,Nat.eq_of_beq_eq_true]
        ·cases h
       ·cases h
     ·cases h
   ·cases h
end
end
section
open Go
theorem FD(X:St)(p:fo)(i:Nat): ∀ (ss:List Nat) (vs:List AV) (j:Nat),ss.all (· ==0)=true->fQ X p i j ss vs=some X:=by
 intro ss
 induction ss with
 |nil=>intro vs j _;cases vs<;>rfl
 |cons s ss ih=>
  intro vs j h;simp only[cA,al,beq_iff_eq] at h;cases vs with
  |nil=>rfl
  |cons v vs=>simp_all [fQ]
def wF(no:Nat)(ss:List Nat):Nat->List V->St->Option St
 | _,[],X=>some X
 |k,v::vs,X=>(fQ X ⟨no,[]⟩ k 0 ss v.av.cells).bind (wF no ss (k+1) vs)
theorem OZ(el:Ty)(no N:Nat): ∀ (vs:List V) (k:Nat) (S S1:TS) (l:List el.D) (R:List (List T)),S.ok->S.gh.length=no->(∀v∈vs,v.ok S.gh)->tU el S vs=some (l,S1)->R.length=k+vs.length->
  (∀ (m:Nat) (v:V),vs[m]? =some v->R[k+m]? =some (v.av.cells.map T.ofSc))->
  Tx S S1 no/\l.length=vs.length/\(∀v∈vs,v.av.cells.length=el.width/\v.av.isDead=false)/\wF no el.shs k vs (S.with no N el.width R)=some (S1.with no N el.width (R.take k++l.map el.row)):=by
 intro vs
 induction vs with
 |nil=>
  intro k S S1 l R hS hno hvs h hl ho;simp only[tU,af,ao] at h;obtain⟨rfl,rfl⟩:=h;refine⟨⟨hS,ji.refl _,rfl,rfl,rfl,rfl⟩,rfl,(λv hv=>by cases hv),?_⟩
  grind [wF,List.take_of_length_le]
 |cons v vs ih=>
  intro k S S1 l R hS hno hvs h hl ho;cases v with
  |tup x=>simp[tU] at h
  |v x=>
   simp only[tU] at h;split at h
   ·rename_i ws S2 hw;split at h
    ·rename_i y ys S3 hy hys;simp only[af,ao] at h;obtain⟨rfl,rfl⟩:=h;have hv:=hvs _ aF;have hrow:=ho 0 _ rfl;rw[b7] at hrow;have hk:k<R.length:=(aj.1 hrow).1
     have hcok: ∀c∈x.cells,c.ok S.gh:=by
      cases x with
      |cl c=>intro c' hc';simp only[V1.cells,aD] at hc';subst hc';exact hv
      |agg cs=>exact hv
      |fn f cs=>intro c' hc';simp only[V1.cells,aD] at hc';subst hc';trivial
     rw[hno] at hw
     have hx:x≠ .cl .dead/\(∀f cs,x≠ .fn f cs):=by
      have nd: ∀ (cs:List Cl),cs= [.dead] ->ri no 0 S el.csh cs=some (ws,S2)->False:=by
       intro cs hcs h;subst hcs;cases hc:el.csh with
       |nil=>rw[hc] at h;simp[ri] at h
       |cons e es=>grind [ri,jS]
      constructor
      ·intro e;subst e;exact nd _ rfl hw
      ·intro f cs e;subst e;exact nd _ rfl hw
     obtain⟨hc1,hc2⟩:=D5 hx.1 hx.2
     obtain⟨m1,m2,m3,m4,m5⟩:=D4 no k N el.width el.csh x.cells 0 S S2 ws R ((V.v x).av.cells.map T.ofSc) hS hcok hw hrow (by rw[hc1];simp) (λm c hm=>by grind)
     have hwid:x.cells.length=el.width:=by
      rw[<-m2];cases el with
      |st n=>cases n<;>rfl
      | _=>rfl
     obtain⟨g1,g2,g3,g4⟩:=ih (k+1) S2 S3 ys (R.set k (el.row y)) m1.ok (m1.len.trans hno) (λv hv=>V.ok_mono m1.gle (hvs v (aO _ hv))) hys (by simp at hl ⊢;omega) (λm v hm=>by rw[dV (by omega),show k+1+m=k+(m+1) by omega];exact ho (m+1) v (by simpa using hm))
     refine⟨⟨g1.ok,m1.gle.trans g1.gle,g1.len.trans m1.len,g1.fz.trans m1.fz,g1.nt.trans m1.nt,g1.no.trans m1.no⟩,by simp[g2],λv hv=> ?_,?_⟩
     ·grind
     ·simp only[wF];have e1:el.shs=el.csh.map JW:=rfl;rw[hc1,e1,m5];simp only[ae]
      have e2: ((V.v x).av.cells.map T.ofSc).take 0++ws.map C.tree++((V.v x).av.cells.map T.ofSc).drop (0+x.cells.length)=el.row y:=by rw[hc1,dp,be,cy (by simp),bS,el.row_flat,Ty.unflat_some _ _ _ hy]
      rw[e2,<-e1,g4]
      congr 2
      have e3: (R.set k (el.row y)).take (k+1)=R.take k++ [el.row y] :=by
       rw[List.take_set,bI,ah hk,dB];have hlen: (R.take k).length=k:=by simp;omega
       rw[dM _ _ (by omega),hlen,dq];rfl
      rw[e3];simp
    ·cases h
   ·cases h
theorem D6(t:Ty):t.zcs.map C.tree=List.zipWith zc t.shs t.zvs:=by
 cases t with
 |st n=>cases n<;>rfl
 | _=>rfl
theorem HD: ∀ {a b:List Nat},Xp a b=true->a=b
 | [],[],_=>rfl
 |a::l,b::m,h=>by
  simp only[Xp] at h;cases hb:Nat.beq a b with
  |true=>rw[hb] at h;rw[an hb,HD h]
  |false=>rw[hb] at h;cases h
 | [],_::_,h=>by cases h
 | _::_,[],h=>by cases h
theorem JY(no:Nat)(ss:List Nat)(e:Operand->AV): ∀ (ps:List (Nat×Operand)) (vs:List V) (k:Nat) (X:St),ps.map (·.1)=List.range' k ps.length->ps.map (λx=>e x.2)=vs.map V.av->
  ps.foldlM (λS' x=>fQ S' ⟨no,[]⟩ x.1 0 ss (e x.2).cells) X=wF no ss k vs X:=by
 intro ps
 induction ps with
 |nil=>
  intro vs k X _ h;cases vs with
  |nil=>rfl
  |cons v vs=>cases h
 |cons p ps ih=>
  intro vs k X h1 h2;cases vs with
  |nil=>cases h2
  |cons v vs=>
   simp only[aY,bR] at h2;simp only[aY,bo,cL,bR] at h1;simp only[List.foldlM_cons,wF,h1.1,h2.1];cases fQ X ⟨no,[]⟩ k 0 ss v.av.cells with
   |none=>rfl
   |some X'=>exact ih vs (k+1) X' h1.2 h2.2
section
variable {ρ:Type} {P:Program} {Θ:n8} {S:TS} {Y:zh}
theorem Tz{a:AV}{n:Int}(h:AR a=some n): ∃k,a= .sc (.int k n):=by
 unfold AR at h
 grind
theorem TA(c:Cl):G3 c.av=LU c:=by
 cases c with
 |c x=>cases x<;>rfl
 | _=>rfl
theorem HE(cs:List Cl): (cs.map Cl.av).any G3=cs.any LU:=by
 rw[List.any_map]
 congr 1
 funext c
 exact TA c
theorem B7(c:Cl): (V.v (.cl c)).av.cells= [c.av] :=by
 cases c with
 |c x=>cases x<;>rfl
 | _=>rfl
theorem QM{v:V}(h:DM v=true):v.av.cells.any G3=true:=by
 cases v with
 |tup l=>cases h
 |v x=>
  cases x with
  |cl c=>rw[B7];have h: [c].any LU=true:=h;rw[<-HE] at h;exact h
  |agg cs=>have h:cs.any LU=true:=h;rw[<-HE] at h;exact h
  |fn f cs=>cases h
theorem QN{v:V}(h:v.av.cells.any G3=true):DM v=true:=by
 cases v with
 |tup l=>cases h
 |v x=>
  cases x with
  |cl c=>rw[B7] at h;show [c].any LU=true;rw[<-HE];exact h
  |agg cs=>show cs.any LU=true;rw[<-HE];exact h
  |fn f cs=>cases h
theorem D7: ∀ (ets:List (Option Ty)) (cs:List Cl) (xs:List C),oS ets cs=some xs->cs.length=ets.length/\Fq (ets.map λ|some e=>e.width|none=>0) (cs.map Cl.av)=some (xs.map C.tree)
 | [],[],xs,h=>by simp only[oS,af] at h;subst h;exact⟨rfl,rfl⟩
 |et::ets,.c x::cs,xs,h=>by
  have h: (match oS ets cs with |some r=>some (x::r)|none=>none)=some xs:=by cases et<;>exact h
  split at h
  ·rename_i r hr;simp only[af] at h;subst h;obtain⟨h1,h2⟩:=D7 ets cs r hr;refine⟨by simp[h1],?_⟩;simp only[aY,Fq];have : ∀s,Xk s (Cl.av (.c x))=some x.tree:=λs=>by cases x<;>rfl
   rw[this,h2];rfl
  ·cases h
 |some t::ets,.em::cs,xs,h=>by
  simp only[oS] at h;split at h
  ·rename_i r hr;simp only[af] at h;subst h;obtain⟨h1,h2⟩:=D7 ets cs r hr;refine⟨by simp[h1],?_⟩;simp only[aY,Fq,h2];rfl
  ·cases h
 | [],_::_,xs,h=>by simp[oS] at h
 | _::_,[],xs,h=>by simp[oS] at h
 |none::ets,.em::cs,xs,h=>by simp[oS] at h
 | _::ets,.own _ _ _ _ _::cs,xs,h=>by simp[oS] at h
 | _::ets,.pro _::cs,xs,h=>by simp[oS] at h
 | _::ets,.ptrB _ _::cs,xs,h=>by simp[oS] at h
 | _::ets,.ptrT _ _ _ _::cs,xs,h=>by simp[oS] at h
 | _::ets,.dead::cs,xs,h=>by simp[oS] at h
theorem B8(el:Ty): ∀ (vs:List V) (l:List el.D),uh el vs=some l->l.length=vs.length/\wm el.shs (vs.map λv=>v.av.cells)=some (l.map el.row)/\ ∀v∈vs,v.av.cells.length=el.width/\v.av.isDead=false
 | [],l,h=>by simp only[uh,af] at h;subst h;exact⟨rfl,rfl,λv hv=>by cases hv⟩
 | .v x::vs,l,h=>by
   simp only[uh] at h;split at h
   ·rename_i xs hx;split at h
    ·rename_i y ys hy hys;simp only[af] at h;subst h;obtain⟨h1,h2,h3⟩:=B8 el vs ys hys;obtain⟨g1,g2⟩:=D7 _ _ _ hx
     have n1:x≠ .cl .dead:=λe=>by
      subst e;have hx:oS el.csh [Cl.dead] =some xs:=hx
      grind [oS]
     have n2: ∀f cs,x≠ .fn f cs:=λf cs e=>by
      subst e;have hx:oS el.csh [Cl.dead] =some xs:=hx
      grind [oS]
     obtain⟨hc,hd⟩:=D5 n1 n2
     have hw:el.csh.length=el.width:=by have:=zl el;unfold Ty.shs at this;simpa using this
     refine⟨by simp[h1],?_,λv hv=> ?_⟩
     ·simp only[aY,wm,hc];rw[show el.shs=el.csh.map λ|some e=>e.width|none=>0 from rfl,g2];simp only[ae];rw[show (el.csh.map λ|some e=>e.width|none=>0)=el.shs from rfl,h2,el.row_flat,Ty.unflat_some _ _ _ hy];rfl
     grind
    ·cases h
   ·cases h
 | .tup _::vs,l,h=>by simp[uh] at h
theorem wG[eg](hΘ:gz P Θ)(hY:lM P Y)(hS:S.ok){o:Oper}{κ:V->TS->Option ρ}{r:ρ}(h:vR Θ Y S o κ=some r):
  ∃D v S',lJ P D/\step D P S.st o=some (V.av v,TS.st S')/\S'.ok/\v.ok S'.gh/\κ v S'=some r:=by
 have ok: ∀x,(S.opd x).ok S.gh:=λx=>n9 hS x
 have vals:zg Θ S o κ=some r->(∀D:s9,step D P S.st o=(eD D P S.st o).map λv=>(v,S.st))-> ∃D v S',lJ P D/\step D P S.st o=some (V.av v,TS.st S')/\S'.ok/\v.ok S'.gh/\κ v S'=some r:=by intro h he;obtain⟨v,S1,h1,h2,h3,h4,h5,h6⟩:=Bd (D:=HC) hΘ hS h;exact⟨HC,v,S1,i4,by rw[he,h1,aI,h2],h3,by rw[h4];exact h5,h6⟩
 obtain⟨dst,op,ty,pos,aft,gd⟩:=o;unfold vR at h;cases op with
 |alloc t=>
  simp only at h;split at h
  ·rename_i ti hti;refine⟨HC,_,{ S with bx:=S.bx++ [ti.ty.zvs.map cC] },i4,?_,⟨hS.env,λcs hcs c hc=> ?_⟩,?_,h⟩
   ·simp only[step,(hΘ _ _ hti).ze,aI];rw[LZ,Qy];rfl
   ·rcases aW.1 hcs with h1|h1
    ·exact hS.bx cs h1 c hc
    grind [Qz]
   ·trivial
  ·cases h
 |box t x=>
  have fin: ∀ (cs:List Cl),(∀c∈cs,c.ok S.gh)->step HC P S.st ⟨dst,.box t x,ty,pos,aft,gd⟩=some (.ptrB S.bx.length 0,{ S.st with bx:=fD S.st.bx S.bx.length (some (cs.map Cl.av)),nb:=S.bx.length+1 })->κ (.v (.cl (.ptrB S.bx.length 0))) { S with bx:=S.bx++ [cs] } =some r->
    ∃D v S',lJ P D/\step D P S.st ⟨dst,.box t x,ty,pos,aft,gd⟩=some (V.av v,TS.st S')/\S'.ok/\v.ok S'.gh/\κ v S'=some r:=by
   intro cs hcs h1 h2;refine⟨HC,.v (.cl (.ptrB S.bx.length 0)),{ S with bx:=S.bx++ [cs] },i4,?_,⟨hS.env,λcs' hcs' c hc=> ?_⟩,trivial,h2⟩
   ·rw[h1,LZ];rfl
   ·rcases aW.1 hcs' with h3|h3
    ·exact hS.bx cs' h3 c hc
    grind
  simp only at h;split at h
  ·cases h
  ·rename_i c hnd hx;have hc:=ok x;rw[hx] at hc;refine fin [c] (λc' hc'=>by simp only[aD] at hc';subst hc';exact hc) ?_ h;simp only[step,eH,hx];cases c with
   |dead=>exact absurd rfl hnd
   |c y=>cases y<;>rfl
   | _=>rfl
  ·rename_i cs hx;have hc:=ok x;rw[hx] at hc;refine fin cs hc ?_ h;simp only[step,eH,hx];rfl
  ·cases h
 |store t a x=>simp only at h;obtain⟨S1,h1,h2,h3,h⟩:=QL hΘ hS (ok a) (ok x) h;refine⟨HC,_,S1,i4,?_,h2,V.ok_dead _,h⟩;simp only[step,eH,h1,aI];rfl
 |makeSlice t l c=>
  simp only at h;split at h
  ·rename_i ti hti;split at h
   ·rename_i el he;obtain⟨elT',g1,g2,g3,g4,g5,g6⟩:=(hΘ _ _ hti).el el he;obtain⟨n,h1,h⟩:=vp h;obtain⟨m,h2,h⟩:=vp h;split at h
    ·rename_i z hz;obtain⟨hb,h⟩:=fy h;have hz':=Ty.unflat_some _ _ _ hz
     have hzr:el.row z=List.zipWith zc el.shs el.zvs:=by rw[el.row_flat,hz',D6]
     refine⟨HC,_,{ S with gh:=S.gh++ [some ⟨el,List.replicate n.toNat z,none⟩] },i4,?_,TS.ok_gh hS (ji.app _ _),?_,h⟩
     ·simp only[step,g1,ae,eH,h1,h2];rw[z5 g2 g5 g6];simp only[ae]
      have hn:n<=n*(ti.el:Int):=by
       have h1e: (1:Int)<=ti.el:=by omega
       have:=dj h1e hb.1
       rwa [Int.mul_one] at this
      rw[if_pos ⟨hb.1,hb.2.1,by rw[g3,Int.mul_comm];exact hb.2.2,Int.le_trans hn hb.2.2⟩];rw[DU,g2];simp only[eU.tree,List.map_replicate,hzr];rfl
     ·refine⟨by simp,λ_=>⟨rfl,rfl,λtr htr=> ?_⟩⟩;rw[lL,if_pos rfl] at htr;cases htr;simp
    ·cases h
   ·cases h
  ·cases h
 |buildSlice t len parts=>
  simp only at h;split at h
  ·rename_i ti hti;split at h
   ·rename_i el he;obtain⟨elT',g1,g2,g3,g4,g5,g6⟩:=(hΘ _ _ hti).el el he;obtain⟨hb,h⟩:=eB h;simp only[al] at hb;have hb1:len*el.width<=1048576:=ar hb.1;have hb2:=HD hb.2
    have hpl:parts.toList.length=len:=by have:=congrArg List.length hb2;simpa using this
    cases hro: (parts.toList.map λx=>S.opd x.2).any DM with
    |true=>
     rw[hro] at h;simp only[cond_true] at h;split at h
     ·rename_i l hl;obtain⟨m1,m2,m3⟩:=B8 el _ l hl;refine⟨HC,.v (.cl (.c (.ls el l))),S,i4,?_,hS,trivial,h⟩;simp only[step,g1,ae]
      rw[if_pos ⟨by rw[g2];exact hb1,hb2,by rw[g2];exact el.width_pos,by rw[g6];rfl,by
       rw[aA];intro y hy;obtain⟨q1,q2⟩:=m3 (S.opd y.2) (aN.2 ⟨y,hy,rfl⟩)
       simp_all [eH]⟩]
      have e1: (parts.toList.any λx=>(opd S.st x.2).cells.any G3)=true:=by rw[cn] at hro ⊢;obtain⟨v,hv,hr⟩:=hro;obtain⟨x,hx,rfl⟩:=aN.1 hv;exact⟨x,hx,by rw[eH];exact QM hr⟩
      have e2: (parts.toList.map λx=>(opd S.st x.2).cells)=(parts.toList.map λx=>S.opd x.2).map λv=>v.av.cells:=by rw[bL];exact aM λx _=>by simp only[Function.comp,eH]
      rw[if_pos e1,e2,g5,m2,g2];rfl
     ·cases h
    |false=>
    rw[hro] at h;simp only[cond_false] at h;split at h
    ·rename_i l S1 hp
     have hvok: ∀v∈parts.toList.map (λx=>S.opd x.2),v.ok S.gh:=λv hv=>by grind
     have hR: ∀ (m:Nat) (v:V),(parts.toList.map λx=>S.opd x.2)[m]? =some v->(parts.toList.map λx=>(opd S.st x.2).cells.map T.ofSc)[0+m]? =some (v.av.cells.map T.ofSc):=by intro m v hm;rw[aK,aq];rw[aq] at hm;simp only[ak] at hm;obtain⟨y,hy,rfl⟩:=hm;rw[hy];simp only[aI,eH]
     obtain⟨m1,m2,m3,m4⟩:=OZ el S.gh.length (S.gh.length+1) _ 0 S S1 l _ hS rfl hvok hp (by simp) hR;have hlen:l.length=len:=by rw[m2];simp[hpl]
     refine⟨HC,_,{ S1 with gh:=S1.gh++ [some ⟨el,l,none⟩] },i4,?_,TS.ok_gh m1.ok (ji.app _ _),?_,h⟩
     ·simp only[step,g1,ae]
      rw[if_pos ⟨by rw[g2];exact hb1,hb2,by rw[g2];exact el.width_pos,by rw[g6];rfl,by
       rw[aA];intro y hy;obtain⟨q1,q2⟩:=m3 (S.opd y.2) (aN.2 ⟨y,hy,rfl⟩)
       simp_all [eH]⟩]
      have hfold:=JY S.gh.length el.shs (opd S.st) parts.toList (parts.toList.map λx=>S.opd x.2) 0 (S.with S.gh.length (S.gh.length+1) el.width (parts.toList.map λx=>(opd S.st x.2).cells.map T.ofSc)) (by rw[hb2,hpl,ct]) (by grind [List.map_congr_left,eH])
      have e0: (parts.toList.any λx=>(opd S.st x.2).cells.any G3)=false:=by
       rw[List.any_eq_false] at hro ⊢;intro x hx;have:=hro (S.opd x.2) (aN.2 ⟨x,hx,rfl⟩);rw[eH]
       exactλhc=>this (QN hc)
      rw[if_neg (by rw[e0];decide)]
      have hX: ({ S.st with gh:=fD S.st.gh S.st.ng (some (.sl (P.cellsOf elT') (parts.toList.map λx=>(opd S.st x.2).cells.map T.ofSc))),ng:=S.st.ng+1 }:St)=S.with S.gh.length (S.gh.length+1) el.width (parts.toList.map λx=>(opd S.st x.2).cells.map T.ofSc):=by rw[g2];rfl
      rw[hX,g5];have hng:S.st.ng=S.gh.length:=rfl;rw[hng]
      have hres: (if (el.shs.all (· ==0))=true then some (S.with S.gh.length (S.gh.length+1) el.width (parts.toList.map λx=>(opd S.st x.2).cells.map T.ofSc)) else
        parts.toList.foldlM (λS' x=>fQ S' ⟨S.gh.length,[]⟩ x.1 0 el.shs (opd S.st x.2).cells) (S.with S.gh.length (S.gh.length+1) el.width (parts.toList.map λx=>(opd S.st x.2).cells.map T.ofSc)))=some (S1.with S.gh.length (S.gh.length+1) el.width (l.map el.row)):=by
       rw[hfold];simp only[dp,be] at m4;rw[m4];split
       ·rename_i hfl
        have : ∀ (vs:List V) (k:Nat) (X:St),wF S.gh.length el.shs k vs X=some X:=by
         intro vs
         induction vs with
         |nil=>intro k X;rfl
         |cons v vs ih=>grind [wF,FD]
        rw[this] at m4;exact m4
       ·rfl
      rw[hres];simp only[aI];rw[DU,m1.len,g2];simp only[V.av,V1.av,Cl.av,hlen];rfl
     ·refine⟨by simp,λ_=>⟨rfl,rfl,λtr htr=> ?_⟩⟩;rw[lL,if_pos rfl] at htr;cases htr;rfl
    ·cases h
   ·cases h
  ·cases h
 |call c=>
  obtain⟨cl,as,ts⟩:=c;cases cl with
  |value f=>simp only at h;exact QD hΘ hY hS h
  |invoke a b=>exact vals h (λD=>rfl)
  |builtin b=>
   cases b with
   |append=>
    simp only at h;split at h
    ·rename_i s x t t' e1 e2;cases htb:Nat.beq t t' with
     |false=>
      rw[htb] at h;simp only[cond_false] at h;have hne: ¬t=t':=λe=>by rw[e,de] at htb;cases htb
      unfold U2 at h;split at h
      ·rename_i ti hti;split at h
       ·rename_i el he hs;obtain⟨elT',g1,g2,g3,g4,g5,g6⟩:=(hΘ _ _ hti).el el he;obtain⟨n,h1,h⟩:=vp h;split at h
        ·rename_i z hz;obtain⟨hb,h⟩:=fy h;have hz':=Ty.unflat_some _ _ _ hz
         have hzr:el.row z=List.zipWith zc el.shs el.zvs:=by rw[el.row_flat,hz',D6]
         obtain⟨kk,hkk⟩:=Tz h1;refine⟨HC,_,{ S with gh:=S.gh++ [some ⟨el,List.replicate n.toNat z,none⟩] },i4,?_,TS.ok_gh hS (ji.app _ _),?_,h⟩
         ·simp only[step,e1,e2,if_neg hne,g1,ae];rw[z5 g2 g5 g6];simp only[ae,eH,hs,hkk]
          have hn:n<=n*(ti.el:Int):=by
           have h1e: (1:Int)<=ti.el:=by omega
           have:=dj h1e (dQ hb.1)
           rwa [Int.mul_one] at this
          show (if 0<n/\_ then _ else _)=_;rw[if_pos ⟨hb.1,by rw[g3,Int.mul_comm];exact hb.2,Int.le_trans hn hb.2,by rw[g2];exact el.width_pos⟩];rw[DU,g2];simp only[eU.tree,List.map_replicate,hzr];rfl
         ·refine⟨by simp,λ_=>⟨rfl,rfl,λtr htr=> ?_⟩⟩;rw[lL,if_pos rfl] at htr;cases htr;simp
        ·cases h
       ·cases h
      ·cases h
     |true=>
     rw[htb] at h;simp only[cond_true] at h;have h':=h;have ht:t=t':=an htb;clear h;subst ht;have e1:as= #[s,x] :=by apply Array.ext';simpa using e1
     have e2:ts= #[t,t] :=by apply Array.ext';simpa using e2
     subst e1 e2;obtain⟨v,S1,h1,h2,h3,h4⟩:=Tu (D:=HC) (dst:=dst) (ty:=ty) (pos:=pos) (aft:=aft) (gd:=gd) hΘ hS h'
     grind [i4]
    ·cases h
   | _=>exact vals h (λD=>rfl)
 |convert s d x=>
  simp only at h;split at h
  ·rename_i p sz lo len wh hx;split at h
   ·rename_i si di hsi hdi;split at h
    ·rename_i hs8 hds;obtain⟨t,l,g1,g0,h⟩:=ij h;clear g0;unfold Xq at h;split at h
     ·rename_i l;obtain⟨hb,h⟩:=eB h;have hb:sz=1:=an hb;subst hb;unfold iteP at h;split at h
      ·rename_i hc;obtain⟨u,u1,u2,_⟩:=(hΘ _ _ hsi).el _ hs8;have u8:=(hΘ _ _ hsi).el8 _ _ hs8 u1;have hd:AP P d=true:=by rw[(hΘ _ _ hdi).str,hds]
       refine⟨HC,_,S,i4,?_,hS,V.ok_sc _ _,h⟩
       have hrows:S.st.rows p 1=some (l.map (Ty.row (.i .u8))):=by unfold St.rows;rw[g1];rfl
       have hbt:wn (((l.map (Ty.row (.i .u8))).drop lo).take len)=some ((l.drop lo).take len):=by
        rw[<-cX,<-cB];generalize (l.drop lo).take len=m
        induction m with
        |nil=>rfl
        |cons n m ih=>simp_all [wn,Ty.row]
       have ex:opd S.st x= .own p 1 lo len:=by rw[eH,hx];rfl
       simp only[step,ex,u1,ae];rw[if_pos ⟨by unfold V6;rw[u8],hd,by first |exact trivial|exact rfl,hc.1⟩,hrows];simp only[ae];rw[if_pos (by rw[aJ];exact hc.2),hbt];rfl
      ·cases h
     ·cases h
    ·cases h
   ·cases h
  ·rename_i hno;refine vals h (λD=> ?_);simp only[step];split
   ·rename_i p sz lo len he;exfalso;rw[eH] at he;cases hv:S.opd x with
    |v y=>
     cases y with
     |cl c=>
      cases c with
      |own p' sz' lo' len' w=>exact hno _ _ _ _ _ hv
      |c y=>rw[hv] at he;cases y<;>cases he
      | _=>rw[hv] at he;cases he
     | _=>rw[hv] at he;cases he
    | _=>rw[hv] at he;cases he
   ·rfl
 | _=>exact vals h (λD=>rfl)
end
end
end Go.Proofs.YtkghndikalnipaaGreat.En
