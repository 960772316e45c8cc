import Derived.Test.YtadabkgmdllbfaaGreatZX6
namespace Go.Proofs.YtadabkgmdllbfaaGreat.En
section
open Go
theorem eu {α β:Type} {P:Program} (s:Sem α) (f:α->Sem β):ew P (s >>=f)=(ew P s).bind fun a=>ew P (f a):=by
 show ew P (s.bind f)=_
 induction s with
 |pure a=>rfl
 |program k ih=>exact ih P
 | _=>rfl
theorem eC {α:Type} {P:Program} (a:α):ew P (pure a)=some a:=rfl
theorem ve: ∀ {zs:List Value} {a:List Cl},lb zs a=true-> ∃xs:List Value,a=xs.map (fun x=>Cl.c (.sc x))
 | [],[],_=>⟨[],rfl⟩
 | .int k n::zs,a,h=>by
   unfold lb at h;split at h
   ·rename_i heq;cases heq
   ·rename_i k1 n1 zs1 k2 n2 cs h1;have hd:=h;cases hk:decide (k1=k2) with
    |false=>rw[hk] at h; cases h
    |true=>rw[hk] at h;obtain⟨xs,hx⟩:=ve (zs:=zs1) (a:=cs) h;exact⟨.int k2 n2::xs,by rw[hx]; rfl⟩
   all_goals grind
 | .bool b::zs,a,h=>by
   unfold lb at h;split at h
   ·rename_i heq;cases heq
   ·rename_i h1;cases h1
   ·rename_i b1 zs1 b2 cs h1;obtain⟨xs,hx⟩:=ve (zs:=zs1) (a:=cs) h;exact⟨.bool b2::xs,by rw[hx]; rfl⟩
   ·cases h
 | .float _ _::_,_,h=>by simp[lb] at h
 | .complex _ _ _::_,_,h=>by simp[lb] at h
 | .string _::_,_,h=>by simp[lb] at h
 | .pointer _::_,_,h=>by simp[lb] at h
 | .slice _ _ _::_,_,h=>by simp[lb] at h
 | .map _::_,_,h=>by simp[lb] at h
 | .chan _::_,_,h=>by simp[lb] at h
 | .func _ _ _::_,_,h=>by simp[lb] at h
 | .nilFunc::_,_,h=>by simp[lb] at h
 | .iface _ _::_,_,h=>by simp[lb] at h
 | .nilIface::_,_,h=>by simp[lb] at h
 | .agg _::_,_,h=>by simp[lb] at h
 | .tuple _::_,_,h=>by simp[lb] at h
 | [],_::_,h=>by simp[lb] at h
theorem Jx (f:AV->Option Value) (hf: ∀v,f (.sc v)=some v): ∀xs:List Value,((xs.map fun x=>Cl.c (.sc x)).map Cl.av).mapM f=some xs
 | [] =>rfl
 |x::xs=>by simp only[aV,cJ,Jx f hf xs];show (f (.sc x)).bind _=_;rw[hf];rfl
theorem Jy (xs:List Value):ri (V.v (.agg (xs.map fun x=>Cl.c (.sc x)))).av=some (.agg xs.toArray):=by simp only[V.av,V1.av,ri];rw[Jx _ (fun _=>rfl)];rfl
theorem fg {P:Program} {t:TypeId} {d:TypeDesc} (h:P.underlying t=some d):ew P (underlying t)=some d:=by simp only[underlying,eu,program,ew,ae,h];rfl
section
variable {ρ:Type} {P:Program} {Θ:mN} {S:TS}
theorem Mc (hΘ:fS P Θ) {t:TypeId} {x y:V} {κ:Bool->Option ρ} {r:ρ} (h:Rg Θ t x y κ=some r):
  ∃b,κ b=some r/\((∃k a c,x.av= .sc (.int k a)/\y.av= .sc (.int k c)/\b=(a==c))\/
   ((∀k a k' c,¬ (x.av= .sc (.int k a)/\y.av= .sc (.int k' c)))/\ ∃xv yv,ri x.av=some xv/\ri y.av=some yv/\(∀op xo yo,ew P (eqGuard op t xo yo xv yv)=some ())/\ew P (binOp .eql t xv yv)=some (.bool b)/\ew P (binOp .neq t xv yv)=some (.bool (!b)))):=by
 unfold Rg at h;split at h
 ·rename_i k a k' c;split at h
  ·rename_i hk;subst hk;exact⟨_,h, .inl ⟨k,a,c,rfl,rfl,rfl⟩⟩
  ·cases h
 ·rename_i a c;split at h
  ·rename_i ti hti;split at h
   ·rename_i hb;have hu:=(hΘ _ _ hti).bool hb
    have hE:ew P (Op.equal t (.bool a) (.bool c))=some (a==c):=by show ew P (Op.equalIn (9999+1) t (.bool a) (.bool c))=_;rw[Op.equalIn];simp only[eu,fg hu,ae,eC]
    refine⟨_,h, .inr ⟨fun k a k' c hc=>by simp[V.av,V1.av,Cl.av,C.av] at hc, .bool a, .bool c,rfl,rfl,fun op xo yo=> ?_,?_,?_⟩⟩
    ·cases op<;>simp[eqGuard,eC]<;>rfl
    all_goals grind [binOp,eu,eC]
   ·cases h
  ·cases h
 ·rename_i a c;refine⟨_,h, .inr ⟨fun k a k' c hc=>by simp[V.av,V1.av,Cl.av,C.av] at hc, .string a, .string c,rfl,rfl,fun op xo yo=> ?_,?_,?_⟩⟩
  ·cases op<;>simp[eqGuard,eC]<;>rfl
  ·simp only[binOp,Op.stringOp,eC];rfl
  ·simp only[binOp,Op.stringOp,eC];rfl
 ·rename_i a c;split at h
  ·rename_i ti hti;obtain⟨h1,h'⟩:=dX h;simp only[al] at h1;obtain⟨⟨⟨h1,hfl⟩,h2⟩,h3⟩:=h1;split at h'
   ·rename_i b hb;obtain⟨xs,hx⟩:=ve h2;obtain⟨ys,hy⟩:=ve h3;have hok:=hΘ _ _ hti;have hE:=hok.eq h1 a c b xs ys h2 h3 hb hx hy;have hg:=hok.gu h1 hfl;refine⟨_,h', .inr ⟨fun k a k' c hc=>by simp[V.av,V1.av] at hc, .agg xs.toArray, .agg ys.toArray,by rw[hx]; exact Jy xs,by rw[hy]; exact Jy ys,fun op xo yo=> ?_,?_,?_⟩⟩
    ·cases op<;>simp[eqGuard,eu,eC,program,ew,hg]
    all_goals grind [binOp,eu,eC]
   ·cases h'
  ·cases h
 ·cases h
theorem nA {f:IntKind->Int->Int->Option ρ} {x y:V} {r:ρ} (h:V.ints f x y=some r): ∃k a b,x.av= .sc (.int k a)/\y.av= .sc (.int k b)/\f k a b=some r:=by
 unfold V.ints at h;split at h
 ·split at h
  ·rename_i k a k' b hk;subst hk;exact⟨k,a,b,rfl,rfl,h⟩
  ·cases h
 ·cases h
theorem Ot (hΘ:fS P Θ) {D:rg} {op:BinOp} {t t':TypeId} {x y:Operand} {κ:V->Option ρ} {r:ρ} (h:Qr Θ op t (S.opd x) (S.opd y) κ=some r) {dst:Option Tmp} {ty:TypeId} {pos:String} {aft:Array Edge} {gd:Option (Nat×Bool)}:
  ∃v:V,dZ D P S.st ⟨dst, .binOp op t x y t',ty,pos,aft,gd⟩=some v.av/\(∀G,v.ok G)/\κ v=some r:=by
 have eqs: ∀ (b:Bool) (xv yv:Value),ri (opd S.st x)=some xv->ri (opd S.st y)=some yv->ew P (eqGuard op t x y xv yv)=some ()->ew P (binOp op t xv yv)=some (.bool b)->
   eH P S.st ⟨dst, .binOp op t x y t',ty,pos,aft,gd⟩=some (.sc (.bool b)):=by
  intro b xv yv h1 h2 h3 h4;unfold eH;rw[if_pos (by simp[Op.operands,h1,h2])];simp only[execOp,h1,h2,bi,eu,h3,h4,ae,eC,Rl,ou,if_true]
 cases op with
 |lss=>obtain⟨k,a,b,h1,h2,h3⟩:=nA h; exact⟨_,by simp only[dZ,eg,h1,h2,if_true]; rfl,fun G=>V.ok_sc G _,h3⟩
 |leq=>obtain⟨k,a,b,h1,h2,h3⟩:=nA h; exact⟨_,by simp only[dZ,eg,h1,h2,if_true]; rfl,fun G=>V.ok_sc G _,h3⟩
 |gtr=>obtain⟨k,a,b,h1,h2,h3⟩:=nA h; exact⟨_,by simp only[dZ,eg,h1,h2,if_true]; rfl,fun G=>V.ok_sc G _,h3⟩
 |geq=>obtain⟨k,a,b,h1,h2,h3⟩:=nA h; exact⟨_,by simp only[dZ,eg,h1,h2,if_true]; rfl,fun G=>V.ok_sc G _,h3⟩
 |add=>
  have h:Qq (S.opd x) (S.opd y) κ=some r:=h;unfold Qq at h;split at h
  ·rename_i a b g1 g2;obtain⟨h0,h⟩:=eY h;have hx:ri (opd S.st x)=some (.string a):=by rw[eg,g1]; rfl
   have hy:ri (opd S.st y)=some (.string b):=by rw[eg,g2]; rfl
   refine⟨_,?_,fun G=>V.ok_sc G _,h⟩;simp only[dZ,eg,g1,g2];show eH P S.st ⟨dst, .binOp .add t x y t',ty,pos,aft,gd⟩=_
   have hz: ¬ ((a.size+b.size:Nat):Int)>IntKind.i64.max:=by have :IntKind.i64.max=9223372036854775807:=rfl;omega
   have e:ew P (binOp .add t (.string a) (.string b))=some (.string (a++b)):=by simp only[binOp,Op.stringOp,if_neg hz,eC]
   have g:ew P (eqGuard .add t x y (.string a) (.string b))=some ():=rfl;unfold eH;rw[if_pos (by simp[Op.operands,hx,hy])];simp only[execOp,hx,hy,bi,eu,g,e,ae,eC,Rl,ou,if_true];rfl
  ·obtain⟨k,a,b,h1,h2,h3⟩:=nA h; exact⟨_,by simp only[dZ,eg,h1,h2,if_true]; rfl,fun G=>V.ok_sc G _,h3⟩
 |sub=>obtain⟨k,a,b,h1,h2,h3⟩:=nA h; exact⟨_,by simp only[dZ,eg,h1,h2,if_true]; rfl,fun G=>V.ok_sc G _,h3⟩
 |mul=>obtain⟨k,a,b,h1,h2,h3⟩:=nA h; exact⟨_,by simp only[dZ,eg,h1,h2,if_true]; rfl,fun G=>V.ok_sc G _,h3⟩
 |eql=>
  have h':Rg Θ t (S.opd x) (S.opd y) (fun r=>κ (V.sc (.bool r)))=some r:=h;obtain⟨b,h1,h2⟩:=Mc hΘ h';refine⟨_,?_,fun G=>V.ok_sc G _,h1⟩;rcases h2 with ⟨k,a,c,e1,e2,rfl⟩| ⟨hn,xv,yv,e1,e2,e3,e4,e5⟩
  ·simp only[dZ,eg,e1,e2,if_true]; rfl
  ·simp only[dZ];split
   ·grind [eg]
   ·exact eqs b xv yv (by rw[eg]; exact e1) (by rw[eg]; exact e2) (e3 _ _ _) e4
 |neq=>
  have h':Rg Θ t (S.opd x) (S.opd y) (fun r=>κ (V.sc (.bool (!r))))=some r:=h;obtain⟨b,h1,h2⟩:=Mc hΘ h';refine⟨_,?_,fun G=>V.ok_sc G _,h1⟩;rcases h2 with ⟨k,a,c,e1,e2,rfl⟩| ⟨hn,xv,yv,e1,e2,e3,e4,e5⟩
  ·simp only[dZ,eg,e1,e2,if_true]; rfl
  ·simp only[dZ];split
   ·grind [eg]
   ·exact eqs (!b) xv yv (by rw[eg]; exact e1) (by rw[eg]; exact e2) (e3 _ _ _) e5
 |quo=>
  have h':V.ints (fun k a b=>if b=0 then none else κ (V.sc (.int k (k.wrap (a.tdiv b))))) (S.opd x) (S.opd y)=some r:=h;obtain⟨k,a,b,h1,h2,h3⟩:=nA h';split at h3
  ·cases h3
  ·rename_i hb;refine⟨_,?_,fun G=>V.ok_sc G _,h3⟩;have hx:ri (opd S.st x)=some (.int k a):=by rw[eg,h1]; rfl
   have hy:ri (opd S.st y)=some (.int k b):=by rw[eg,h2]; rfl
   simp only[dZ];unfold eH;rw[if_pos (by simp[Op.operands,hx,hy])]
   have e:ew P (binOp .quo t (.int k a) (.int k b))=some (.int k (k.wrap (a.tdiv b))):=by simp only[binOp,ne_eq,not_true,if_false,Op.intDiv,if_neg hb,eC]
   have e2:ew P (execOp (fun x=>(ri (opd S.st x)).getD undef) ⟨dst, .binOp .quo t x y t',ty,pos,aft,gd⟩)=some (.value (.int k (k.wrap (a.tdiv b)))):=by show ew P (do pure (Next.value (<-(do eqGuard .quo t x y ((ri (opd S.st x)).getD undef) ((ri (opd S.st y)).getD undef); binOp .quo t ((ri (opd S.st x)).getD undef) ((ri (opd S.st y)).getD undef)))))=_;rw[hx,hy];have g:ew P (eqGuard .quo t x y (.int k a) (.int k b))=some ():=rfl;simp only[eu,bi,g,e,ae,eC]
   rw[e2];rfl
 |rem=>
  have h':V.ints (fun k a b=>if b=0 then none else κ (V.sc (.int k (a.tmod b)))) (S.opd x) (S.opd y)=some r:=h;obtain⟨k,a,b,h1,h2,h3⟩:=nA h';split at h3
  ·cases h3
  ·rename_i hb;refine⟨_,?_,fun G=>V.ok_sc G _,h3⟩;have hx:ri (opd S.st x)=some (.int k a):=by rw[eg,h1]; rfl
   have hy:ri (opd S.st y)=some (.int k b):=by rw[eg,h2]; rfl
   simp only[dZ];unfold eH;rw[if_pos (by simp[Op.operands,hx,hy])]
   have e:ew P (binOp .rem t (.int k a) (.int k b))=some (.int k (a.tmod b)):=by simp only[binOp,ne_eq,not_true,if_false,Op.intDiv,if_neg hb,eC]
   have e2:ew P (execOp (fun x=>(ri (opd S.st x)).getD undef) ⟨dst, .binOp .rem t x y t',ty,pos,aft,gd⟩)=some (.value (.int k (a.tmod b))):=by show ew P (do pure (Next.value (<-(do eqGuard .rem t x y ((ri (opd S.st x)).getD undef) ((ri (opd S.st y)).getD undef); binOp .rem t ((ri (opd S.st x)).getD undef) ((ri (opd S.st y)).getD undef)))))=_;rw[hx,hy];have g:ew P (eqGuard .rem t x y (.int k a) (.int k b))=some ():=rfl;simp only[eu,bi,g,e,ae,eC]
   rw[e2];rfl
 | _=>simp[Qr] at h
end
end
section
open Go
theorem Gs {G:List (Option eB)}: ∀ (l:List V) (cs:List Cl),(∀v∈l,v.ok G)->Ge l=some cs->l.map V.av=cs.map Cl.av/\ ∀c∈cs,c.ok G
 | [],cs,_,h=>by simp_all [Ge]
 |v::l,cs,hl,h=>by
  unfold Ge at h;split at h
  ·rename_i heq; cases heq
  ·rename_i c l' heq;cases heq;split at h
   ·rename_i r hr;simp only[af] at h;subst h;obtain⟨h1,h2⟩:=Gs l r (fun v hv=>hl v (aM _ hv)) hr;refine⟨by simp only[aV,h1]; rfl,fun x hx=> ?_⟩;rcases bc.1 hx with rfl|hx
    ·exact hl _ aL
    ·exact h2 x hx
   ·cases h
  ·cases h
section
variable {ρ:Type} {P:Program} {Θ:mN} {S:TS} {D:rg}
theorem yx (hΘ:fS P Θ) (hS:S.ok) {o:Oper} {κ:V->TS->Option ρ} {r:ρ} (h:wk Θ S o κ=some r):
  ∃v S',dZ D P S.st o=some v.av/\S'.st=S.st/\S'.ok/\S'.gh=S.gh/\v.ok S.gh/\κ v S'=some r:=by
 have ok: ∀x,(S.opd x).ok S.gh:=fun x=>mO hS x;have done: ∀ {v:V},dZ D P S.st o=some v.av->v.ok S.gh->κ v S=some r-> ∃v S',dZ D P S.st o=some v.av/\S'.st=S.st/\S'.ok/\S'.gh=S.gh/\v.ok S.gh/\κ v S'=some r:=fun h1 h2 h3=>⟨_,S,h1,rfl,hS,rfl,h2,h3⟩
 obtain⟨dst,op,ty,pos,aft,gd⟩:=o;unfold wk at h;cases op with
 |move x=>grind [dZ,eg]
 |assign x=>grind [dZ,eg]
 |pick c a b=>
  simp only at h;obtain⟨t,S1,h1,h2,h3,h4,h⟩:=Bc hS h;cases t with
  |true=>exact⟨_,S1,by simp only[dZ,h1,if_true]; rw[<-h2,eg],h2,h3,h4,by rw[<-h4]; exact mO h3 _,h⟩
  |false=>exact⟨_,S1,by simp only[dZ,h1,aX,if_false]; rw[<-h2,eg],h2,h3,h4,by rw[<-h4]; exact mO h3 _,h⟩
 |load t a=>grind [Gr,dZ,eg]
 |nilCheck x=>
  simp only at h;split at h<;>rename_i hx
  ·exact done (by simp only[dZ,eg,hx]; rfl) (by rw[<-hx]; exact ok x) h
  ·exact done (by simp only[dZ,eg,hx]; rfl) (by rw[<-hx]; exact ok x) h
  ·exact done (by simp only[dZ,eg,hx]; rfl) (by rw[<-hx]; exact ok x) h
  ·exact done (by simp only[dZ,eg,hx]; rfl) (by rw[<-hx]; exact ok x) h
  ·exact done (by simp only[dZ,eg,hx]; rfl) (by rw[<-hx]; exact ok x) h
  ·cases h
 |fieldAddr t x k=>
  simp only at h;split at h
  ·rename_i ti hti;split at h
   ·rename_i off n ag hk;have hfd:=(hΘ _ _ hti).fd k;rw[hk] at hfd;cases hn:Nat.beq n 0 with
    |true=>rw[hn] at h; cases h
    |false=>
     rw[hn] at h;have hn': ¬n=0:=by intro h0; subst h0; cases hn
     simp only[cond_false] at h;split at h<;>rename_i hx
     ·refine done ?_ ?_ h
      ·simp only[dZ,hfd,ae,eg,hx];rw[if_neg hn'];rfl
      ·trivial
     ·refine done ?_ ?_ h
      ·simp only[dZ,hfd,ae,eg,hx];rw[if_neg hn'];rfl
      ·have:=ok x;rw[hx] at this;exact this
     ·refine done ?_ ?_ h
      ·simp_all [dZ,eg,V.av,V1.av,Cl.av]
      ·trivial
     ·cases h
   ·cases h
  ·cases h
 |field t x k=>
  simp only at h;split at h
  ·rename_i ti hti;split at h
   ·rename_i off n ag hk;have hfd:=(hΘ _ _ hti).fd k;rw[hk] at hfd;split at h
    ·rename_i cs hx;obtain⟨h1,h⟩:=dX h;simp only[al] at h1;have h2:off+n<=cs.length:=ar h1.1;have h3:0<n:=ar h1.2;have hcs:=ok x;rw[hx] at hcs;obtain⟨v,h4,h5,h⟩:=Ma (G:=S.gh) (fun c hc=>hcs c (bQ (bR hc))) h
     simp_all [dZ,eg,V.av,V1.av]
    ·cases h
   ·cases h
  ·cases h
 |indexAddr t x ix=>
  simp only at h;split at h
  ·rename_i ti hti;split at h
   ·rename_i e he;obtain⟨el,g1,g2,_⟩:=(hΘ _ _ hti).el e he;obtain⟨i,h1,h⟩:=td h;split at h
    ·rename_i a hx;have ha:=ok x;rw[hx] at ha;obtain⟨c,h2,h3,h⟩:=Om ha h;refine done ?_ ?_ h
     ·simp only[dZ,g1,ae,eg,h1,hx,g2];exact h2
     ·exact h3
    ·cases h
   ·cases h
  ·cases h
 |build t parts=>
  simp only at h;split at h
  ·rename_i ti hti;obtain⟨h1,h⟩:=dX h;split at h
   ·rename_i cs hcs;have hok:=hΘ _ _ hti
    obtain⟨g1,g2⟩:=Oq (G:=S.gh) _ _ _ _ (fun c hc=>by
     obtain⟨v,_,rfl⟩:=aJ.1 hc;exact Jv _ _) (fun y hy=>by
     grind) hcs
    refine done ?_ ?_ h
    ·simp only[dZ,hok.pl h1,hok.ze,ae]
     have e1:ti.ty.zvs.map An=(ti.ty.zvs.map cC).map Cl.av:=by rw[bF];exact aI fun v _=>(pK v).symm
     have e2:parts.toList.map (fun x=>(x.1,opd S.st x.2))=(parts.toList.map fun x=>(x.1,S.opd x.2)).map fun x=>(x.1,x.2.av):=by rw[bF];exact aI fun x _=>by simp[eg]
     rw[e1,e2,g1];rfl
    ·exact g2
   ·cases h
  ·cases h
 |slice t x lo hi mx=>
  cases mx with
  |some m=>simp at h
  |none=>
   simp only at h;split at h
   ·rename_i ti hti;split at h
    ·rename_i e he;obtain⟨el,g1,g2,_⟩:=(hΘ _ _ hti).el e he;split at h
     ·rename_i a hx;have ha:=ok x;rw[hx] at ha;obtain⟨n,h1,h⟩:=Jw ha h;obtain⟨l,h2,h⟩:=Dy h;obtain⟨m,h3,h⟩:=Dy h;obtain⟨c,h4,h5,h⟩:=Oo ha h;refine done ?_ ?_ h
      ·simp only[dZ,eg,hx];split
       ·rename_i s hs;have hs':a.av= .sc (.string s):=hs;rw[hs'] at h1;cases h1
       ·show (sS P t).bind _=_;rw[g1];simp only[ae];show (tG a.av).bind _=_;rw[h1];simp only[ae,h2,h3,g2];exact h4
      ·exact h5
     ·cases h
    ·cases h
   ·cases h
 |extract x k=>
  simp only at h;split at h
  ·rename_i vs hx;split at h
   ·rename_i v hv;have hvs:=ok x;rw[hx] at hvs;rw[fQ] at hv;refine done ?_ ?_ h
    ·simp only[dZ,eg,hx,V.av,ap,hv,aH]
    ·exact hvs v (au hv)
   ·cases h
  ·cases h
 |makeFunc fn first caps=>
  cases fn with
  |func f=>
   simp only at h;obtain⟨h1,h⟩:=dX h;split at h
   ·rename_i cs hcs
    obtain⟨g1,g2⟩:=Gs (G:=S.gh) _ _ (fun v hv=>by grind) hcs
    refine done ?_ ?_ h
    ·simp only[dZ,h1,if_true]
     have e:caps.toList.map (opd S.st)=(caps.toList.map S.opd).map V.av:=by rw[bF];exact aI fun x _=>eg x
     rw[e,g1];rfl
    ·exact g2
   ·cases h
  | _=>simp at h
 |unOp op t x=>
  cases op with
  |not=>
   simp only at h;split at h
   ·rename_i b hx;refine done ?_ ?_ h
    ·simp only[dZ,eg,hx]; rfl
    ·trivial
   ·cases h
  |neg=>
   simp only at h;split at h
   ·rename_i k n hx;refine done ?_ (V.ok_sc _ _) h;have hxv:ri (opd S.st x)=some (.int k n):=by rw[eg,hx]; rfl
    simp only[dZ];unfold eH;rw[if_pos (by simp[Op.operands,hxv])]
    have e2:ew P (execOp (fun x=>(ri (opd S.st x)).getD undef) ⟨dst, .unOp .neg t x,ty,pos,aft,gd⟩)=some (.value (.int k (k.wrap (0-n)))):=by show ew P (do pure (Next.value (<-Go.Op.unary .neg ((ri (opd S.st x)).getD undef))))=_;rw[hxv];rfl
    rw[e2];rfl
   ·cases h
  | _=>simp at h
 |binOp op t x y t'=>simp only at h;obtain⟨v,h1,h2,h⟩:=Ot (D:=D) (t':=t') (dst:=dst) (ty:=ty) (pos:=pos) (aft:=aft) (gd:=gd) hΘ h;exact done h1 (h2 _) h
 |call c=>
  obtain⟨cl,as,ts⟩:=c;cases cl with
  |value f=>simp at h
  |invoke a b=>simp at h
  |builtin b=>
   cases b with
   |cap=>
    simp only at h;split at h
    ·rename_i x t e1 e2;split at h
     ·rename_i ti hti;split at h
      ·rename_i e he;obtain⟨el,g1,g2,_⟩:=(hΘ _ _ hti).el e he;split at h
       ·rename_i hx;refine done ?_ ?_ h
        ·simp only[dZ,e1,e2,g1,Option.isSome_some,if_true,eg,hx];rfl
        ·trivial
       ·cases h
      ·cases h
     ·cases h
    ·cases h
   |len=>
    simp only at h;split at h
    ·rename_i x t e1 e2;split at h
     ·rename_i ti hti;split at h
      ·rename_i e he;obtain⟨el,g1,g2,_⟩:=(hΘ _ _ hti).el e he;split at h
       ·rename_i a hx;have ha:=ok x;rw[hx] at ha;obtain⟨n,h1,h⟩:=Jw ha h;refine done ?_ ?_ h
        ·simp only[dZ,e1,e2,g1,Option.isSome_some,if_true,eg,hx];show (tG a.av).map _=_;rw[h1];rfl
        ·trivial
       ·cases h
      ·rename_i hs;split at h
       ·rename_i s hx;refine done ?_ (V.ok_sc _ _) h
        have hus:P.underlying t=some .string:=by
         have:=(hΘ _ _ hti).str;rw[hs] at this;unfold x0 at this;split at this
         ·assumption
         ·cases this
        have hxv:ri (opd S.st x)=some (.string s):=by rw[eg,hx]; rfl
        have he:sS P t=none:=by simp[sS,hus]
        have ea:as= #[x] :=by rw[<-dA (xs:=as),e1]
        have et:ts= #[t] :=by rw[<-dA (xs:=ts),e2]
        subst ea et;simp only[dZ,he,Option.isSome_none];rw[if_neg (by simp)];unfold eH;rw[if_pos (by simp[Op.operands,Call.operands,hxv])]
        have e2:ew P (execOp (fun x=>(ri (opd S.st x)).getD undef) ⟨dst, .call ⟨.builtin .len,#[x],#[t]⟩,ty,pos,aft,gd⟩)=some (.value (.int .i64 s.size)):=by show ew P (do let d <-resolve _ _ ty; invoke d.target d.args)=_;simp only[eu,resolve,eC,ae,invoke,builtin,List.map_toArray,aV,cB,Builtin.len_,ct,aN,fg hus,hxv,bi];rfl
        rw[e2];rfl
       ·cases h
      ·cases h
     ·cases h
    ·cases h
   |max=>
    simp only at h;split at h
    ·rename_i x y e1;obtain⟨k,a,b,h1,h2,h⟩:=nA h;refine done ?_ (V.ok_sc _ _) h;simp only[dZ,e1,aV,cB,eg,h1,h2];rfl
    ·cases h
   |min=>
    simp only at h;split at h
    ·rename_i x y e1;obtain⟨k,a,b,h1,h2,h⟩:=nA h;refine done ?_ (V.ok_sc _ _) h;simp only[dZ,e1,aV,cB,eg,h1,h2];rfl
    ·cases h
   | _=>simp at h
 |convert s d x=>
  simp only at h;split at h
  ·rename_i si di hs hd;split at h
   ·rename_i k' hk;split at h
    ·rename_i k n hx;refine done ?_ (V.ok_sc _ _) h;have hud:=(hΘ _ _ hd).int _ hk
     obtain⟨ds,hus⟩: ∃ds,P.underlying s=some ds:=by
      have:=(hΘ _ _ hs).ag;unfold Cv at this
      grind
     have hxv:ri (opd S.st x)=some (.int k n):=by rw[eg,hx]; rfl
     simp only[dZ];unfold eH;rw[if_pos (by simp[Op.operands,hxv])]
     have e:ew P (Go.convert s d (.int k n))=some (.int k' (k'.wrap n)):=by unfold Go.convert;simp only[eu,fg hus,fg hud,ae];cases ds<;>rfl
     have e2:ew P (execOp (fun x=>(ri (opd S.st x)).getD undef) ⟨dst, .convert s d x,ty,pos,aft,gd⟩)=some (.value (.int k' (k'.wrap n))):=by show ew P (do pure (Next.value (<-Go.convert s d ((ri (opd S.st x)).getD undef))))=_;rw[hxv];simp only[eu,bi,e,ae,eC]
     rw[e2];rfl
    ·cases h
   ·cases h
  ·cases h
 |index t x ix=>
  simp only at h;split at h
  ·rename_i ti hti;split at h
   ·rename_i hs;split at h
    ·rename_i s k i hx hi;unfold iteP at h;split at h
     ·rename_i h0;obtain⟨b,hb,h⟩:=ai.1 h;refine done ?_ (V.ok_sc _ _) h
      have hus:P.underlying t=some .string:=by
       have:=(hΘ _ _ hti).str;rw[hs] at this;unfold x0 at this;split at this
       ·assumption
       ·cases this
      have hxv:ri (opd S.st x)=some (.string s):=by rw[eg,hx]; rfl
      have hiv:ri (opd S.st ix)=some (.int k i):=by rw[eg,hi]; rfl
      have hxa:opd S.st x= .sc (.string s):=by rw[eg,hx]; rfl
      simp only[dZ,hxa];unfold eH;rw[if_pos (by simp[Op.operands,hxv,hiv])]
      have e:ew P (Instr.index t (.string s) (.int k i))=some (.int .u8 b.toNat):=by unfold Instr.index;simp only[eu,asIntOf,eC,ae,fg hus];rw[if_pos h0,hb];rfl
      have e2:ew P (execOp (fun x=>(ri (opd S.st x)).getD undef) ⟨dst, .index t x ix,ty,pos,aft,gd⟩)=some (.value (.int .u8 b.toNat)):=by show ew P (do pure (Next.value (<-Instr.index t ((ri (opd S.st x)).getD undef) ((ri (opd S.st ix)).getD undef))))=_;rw[hxv,hiv];simp only[eu,bi,e,ae,eC]
      rw[e2];rfl
     ·cases h
    ·cases h
   ·cases h
  ·cases h
 | _=>simp at h
end
end
section
open Go
theorem ky {G:List (Option eB)} {x:Option eB} (r:Nat):fy (G++ [x]) r=if r=G.length then x else fy G r:=by
 unfold fy;rw[fQ,fQ]
 grind
theorem yy {G:List (Option eB)} (l:List eB) (r:Nat):fy (G++l.map some) r=if G.length<=r then l[r-G.length]? else fy G r:=by
 unfold fy;rw[fQ,fQ]
 grind
theorem yz {G:List (Option eB)} {r:Nat} (h:G.length<=r):fy G r=none:=by unfold fy;rw[fQ,b6 h];rfl
theorem te {G:List (Option eB)} {r:Nat} {tr:eB} (h:fy G r=some tr):r<G.length:=by grind [yz]
theorem o9 {G:List (Option eB)} {x:Option eB} (q r:Nat) (hq:q<G.length\/x=none):fy (fj G q x) r=if r=q then x else fy G r:=by
 unfold fy;rw[fQ,fQ,gF,bX]
 grind
theorem iA.app (G:List (Option eB)) (x:Option eB):iA G (G++ [x]):=⟨by simp,fun r tr hr h=>by rw[ky,if_neg (by omega)] at h;exact⟨tr,h,rfl⟩⟩
theorem iA.apps (G:List (Option eB)) (l:List eB):iA G (G++l.map some):=⟨by simp,fun r tr hr h=>by simp_all [yy,if_neg]⟩
theorem iA.gone (G:List (Option eB)) (q:Nat):iA G (fj G q none):=⟨by rw[gF]; simp,fun r tr hr h=>by simp_all [o9]⟩
theorem iA.put {G:List (Option eB)} {q:Nat} {tr tr':eB} (h:fy G q=some tr) (hl:tr'.l.length=tr.l.length):iA G (fj G q (some tr')):=⟨by rw[gF]; simp,fun r t hr h'=>by
 rw[o9 q r (.inl (te h))] at h'
 grind⟩
theorem TS.ok_gh {S:TS} (hS:S.ok) {G:List (Option eB)} (hG:iA S.gh G): ({ S with gh:=G }:TS).ok:=
 ⟨fun x hx=>V.ok_mono hG (hS.env x hx),fun cs hcs c hc=>Cl.ok_mono hG (hS.bx cs hcs c hc)⟩
theorem Bd (S:TS) (x:eB): ({ S with gh:=S.gh++ [some x] }:TS).st= { S.st with gh:=eT S.st.gh S.gh.length (some x.tree),ng:=S.gh.length+1 } :=by
 unfold TS.st;simp only[aA,az]
 congr 1
 funext r
 rw[ky];unfold eT;split<;>rfl
theorem xb (S:TS) (q:Nat): ({ S with gh:=fj S.gh q none }:TS).st= { S.st with gh:=eT S.st.gh q none } :=by
 unfold TS.st;simp only;have : (fj S.gh q none).length=S.gh.length:=by rw[gF]; simp
 rw[this]
 congr 1
 funext r
 rw[o9 q r (.inr rfl)];unfold eT;split<;>rfl
theorem wo (S:TS) {q:Nat} (x:eB) (hq:q<S.gh.length): ({ S with gh:=fj S.gh q (some x) }:TS).st= { S.st with gh:=eT S.st.gh q (some x.tree) } :=by
 unfold TS.st;simp only;have : (fj S.gh q (some x)).length=S.gh.length:=by rw[gF]; simp
 rw[this]
 congr 1
 funext r
 rw[o9 q r (.inl hq)];unfold eT;split<;>rfl
theorem Ic (S:TS) (cs:List Cl): ({ S with bx:=S.bx++ [cs] }:TS).st= { S.st with bx:=eT S.st.bx S.bx.length (some (cs.map Cl.av)),nb:=S.bx.length+1 } :=by
 unfold TS.st;simp only[aA,az]
 congr 1
 funext n
 unfold eT;simp only[fQ]
 grind
theorem KH (S:TS) {b:Nat} (cs:List Cl) (hb:b<S.bx.length): ({ S with bx:=fj S.bx b cs }:TS).st= { S.st with bx:=eT S.st.bx b (some (cs.map Cl.av)) } :=by
 unfold TS.st;have : (fj S.bx b cs).length=S.bx.length:=by rw[gF]; simp
 simp only;rw[this]
 congr 1
 funext n
 unfold eT;simp only[fQ];rw[gF,bX]
 grind
theorem Md (t:Ty): (t.zvs.map cC).map Cl.av=t.zvs.map Cw:=by
 cases t with
 |st n=>cases n<;>rfl
 | _=>rfl
theorem Me (G:List (Option eB)) (t:Ty): ∀c∈t.zvs.map cC,c.ok G:=fun c hc=>by obtain⟨v,_,rfl⟩:=aJ.1 hc;exact Jv _ _
def uj [dP] (P:Program) (g:FuncId) (args:List V1) (b:Bool) (res:V) (out:List eB):Prop:=
 ∃ (t:Ty) (x:t.D) (as:List V1),args=Ju t x::as/\jb P g ((KF t x 0).av::as.map V1.av) ((pQ (t.flat x)).map eB.tree) (bif b then (pQ (t.flat x)).length else 0) res.av (out.map eB.tree)
def Jz [dP] (P:Program) (g:FuncId) (args:List V1) (res:V) (out:List eB):Prop:=
 ∃ (el:Ty) (l:List el.D) (as:List V1),args= .cl (.c (.ls el l))::as/\jb P g (.ptrT ⟨0,[]⟩ el.width 0 0::as.map V1.av) [.sl el.width (l.map el.row)] 1 res.av (out.map eB.tree)
structure vH [dP] (P:Program) (f:Nat) (args:List V1) (res:V) (out:List eB):Prop where
 fn:f<iW->pw P f (args.map V1.av) [] res.av (out.map eB.tree)
 io: ∀g,f=zT g->g<iW->uj P g args true res out
 mv: ∀g,f=CJ g->g<iW->uj P g args false res out
 pt: ∀g,f=A5 g->g<iW->Jz P g args res out
theorem Mf (g:Nat): ¬zT g<iW:=Nat.not_lt.2 (Nat.le_add_left iW g)
theorem CK {g g':Nat} (hg:g<iW) (hg':g'<iW):zT g≠CJ g'/\zT g≠A5 g'/\CJ g≠A5 g'/\ ¬CJ g<iW/\ ¬A5 g<iW:=by grind [zT,CJ,A5,Jm,Gf]
theorem vH.of_fn [dP] {P:Program} {f:Nat} {args:List V1} {res:V} {out:List eB} (h:pw P f (args.map V1.av) [] res.av (out.map eB.tree)) (hf:f<iW):vH P f args res out:=
 ⟨fun _=>h,fun g e _=>absurd (e ▸ hf) (Mf g),fun g e hg=>absurd (e ▸ hf) (CK hg hg).2.2.2.1,fun g e hg=>absurd (e ▸ hf) (CK hg hg).2.2.2.2⟩
theorem vH.of_io [dP] {P:Program} {g:Nat} {args:List V1} {res:V} {out:List eB} (h:uj P g args true res out) (hg:g<iW):vH P (zT g) args res out:=
 ⟨fun h'=>absurd h' (Mf g),fun g' e _=>by rw[<-dB (e:g+iW=g'+iW)]; exact h,fun g' e hg'=>absurd e (CK hg hg').1,fun g' e hg'=>absurd e (CK hg hg').2.1⟩
theorem vH.of_mv [dP] {P:Program} {g:Nat} {args:List V1} {res:V} {out:List eB} (h:uj P g args false res out) (hg:g<iW):vH P (CJ g) args res out:=
 ⟨fun h'=>absurd h' (CK hg hg).2.2.2.1,fun g' e hg'=>absurd e.symm (CK hg' hg).1,fun g' e _=>by rw[<-dB (e:g+Gf=g'+Gf)]; exact h,fun g' e hg'=>absurd e (CK hg hg').2.2.1⟩
theorem vH.of_pt [dP] {P:Program} {g:Nat} {args:List V1} {res:V} {out:List eB} (h:Jz P g args res out) (hg:g<iW):vH P (A5 g) args res out:=
 ⟨fun h'=>absurd h' (CK hg hg).2.2.2.2,fun g' e hg'=>absurd e.symm (CK hg' hg).2.1,fun g' e hg'=>absurd e.symm (CK hg' hg).2.2.1,fun g' e _=>by rw[<-dB (e:g+Jm=g'+Jm)]; exact h⟩
theorem Jz.get [dP] {P:Program} {g:FuncId} {el:Ty} {l:List el.D} {as:List V1} {res:V} {out:List eB} (h:Jz P g (.cl (.c (.ls el l))::as) res out):jb P g (.ptrT ⟨0,[]⟩ el.width 0 0::as.map V1.av) [.sl el.width (l.map el.row)] 1 res.av (out.map eB.tree):=by obtain⟨t,x,as',he,h⟩:=h;cases he;exact h
theorem uj.get [dP] {P:Program} {g:FuncId} {el:Ty} {l:List el.D} {as:List V1} {b:Bool} {res:V} {out:List eB} (h:uj P g (.cl (.c (.ls el l))::as) b res out):jb P g (.own ⟨0,[]⟩ el.width 0 l.length::as.map V1.av) [.sl el.width (l.map el.row)] (bif b then 1 else 0) res.av (out.map eB.tree):=by
 obtain⟨t,x,as',he,h⟩:=h;simp only[bI] at he;obtain⟨he,rfl⟩:=he;cases t with
 |ls el'=>have he':V1.cl (.c (.ls el l))= .cl (.c (.ls el' x)):=he;cases he';exact h
 |st n=>cases n<;>cases he
 | _=>cases he
theorem uj.getA [dP] {P:Program} {g:FuncId} {ys:List C} {as:List V1} {res:V} {out:List eB} (h:uj P g (.agg (ys.map .c)::as) true res out):jb P g (.agg ((wn ys 0).map Cl.av)::as.map V1.av) ((pQ ys).map eB.tree) (pQ ys).length res.av (out.map eB.tree):=by
 obtain⟨t,x,as',he,h⟩:=h;simp only[bI] at he;obtain⟨he,rfl⟩:=he;cases t with
 |st n=>
  have he':V1.agg (ys.map Cl.c)= .agg ((n.flat x).map Cl.c):=he;simp only[V1.agg.injEq] at he'
  have :ys=n.flat x:=by
   have hi: ∀ (l m:List C),l.map Cl.c=m.map Cl.c->l=m:=by
    intro l
    induction l with
    |nil=>simp_all
    |cons a l ih=>intro m hm;cases m<;>grind
   exact hi _ _ he'
  subst this;exact h
 | _=>cases he
def kz [dP] (P:Program) (Y:wl):Prop:= ∀f args ρ κ r,Y f args ρ κ=some r-> ∃res out,vH P f args res out/\res.ok (out.map some)/\κ res out=some r
section
variable {ρ:Type} {P:Program} {Θ:mN} {S:TS}
theorem Eo {α β:Type} {f:α->(β->Option ρ)->Option ρ} {R:α->β->Prop} (hf: ∀a κ r,f a κ=some r-> ∃b,R a b/\κ b=some r):
  ∀ (l:List α) (κ:List β->Option ρ) (r:ρ),Gh f l κ=some r-> ∃bs,l.length=bs.length/\(∀ (k:Nat) (a:α) (b:β),l[k]? =some a->bs[k]? =some b->R a b)/\κ bs=some r:=by
 intro l
 induction l with
 |nil=>intro κ r h; exact⟨[],rfl,fun k a b ha=>by simp at ha,h⟩
 |cons a l ih=>
  intro κ r h;obtain⟨b,h1,h⟩:=hf a _ r h
  grind
theorem Mg {α β γ:Type} {f:α->γ} {g:β->γ} {l:List α} {bs:List β} (h1:l.length=bs.length) (h2: ∀ (k:Nat) (a:α) (b:β),l[k]? =some a->bs[k]? =some b->f a=g b):l.map f=bs.map g:=by
 apply bA
 grind
theorem uk {p:eK} {sz lo len:Nat} {t:Ty} {l:List t.D} (hc: (Cl.own p sz lo len true).ok S.gh) (h:p.l= [] ->fy S.gh p.r=some ⟨t,l,none⟩):p.l= [] /\lo=0/\len=l.length:=by
 obtain⟨_,h2⟩:=hc
 grind
theorem Be (hS:S.ok) {et:Option Ty} {c:Cl} (hc:c.ok S.gh) {κ:Cl->Option ρ} {r:ρ} (h:NU S et c κ=some r): ∃c',(∀sz,(∀t,et=some t->sz=t.width)->gk S.st sz c.av=c'.av)/\κ c'=some r:=by
 unfold NU at h;split at h
 ·rename_i x;exact⟨_,fun sz _=>by cases x<;>rfl,h⟩
 ·split at h
  ·rename_i t;exact⟨_,fun sz hsz=>by rw[hsz t rfl]; rfl,h⟩
  ·cases h
 ·rename_i p sz lo len;obtain⟨t,l,h1,h2,h⟩:=gz h;obtain⟨h3,h⟩:=dX h;have h3:t.width=sz:=ao h3;obtain⟨h4,h5,h6⟩:=uk hc h2;refine⟨_,fun sz' _=> ?_,h⟩
  simp_all [Cl.av,gk,kg,C.av,bJ]
 ·rename_i p sz lo len;obtain⟨t,l,h1,h2,h⟩:=gz h;obtain⟨h3,h⟩:=dX h;have h3:t.width=sz:=ao h3;obtain⟨h4,h⟩:=eY h;refine⟨_,fun sz' _=> ?_,h⟩
  simp_all [Cl.av,gk,kg,C.av]
 ·exact⟨_,fun _ _=>rfl,h⟩
 ·rename_i p sz i j;obtain⟨t,l,h1,h2,h⟩:=gz h;obtain⟨h3,h⟩:=dX h;have h3:t.width=sz:=ao h3;obtain⟨x,hx,h⟩:=ai.1 h;refine⟨_,fun sz' _=> ?_,h⟩;simp only[Cl.av,gk,<-h3,kg h1];have e1: (l.map t.row).getD i [] =t.row x:=by simp[aD,hx]
  rw[e1,t.row_flat,cH]
 ·rename_i b j;split at h
  ·rename_i cs hcs
   obtain⟨bs,h1,h2,h⟩:=Eo (R:=fun (c:Cl) (x:C)=>c.ok S.gh->T.ofAV S.st 0 c.av=x.tree) (fun c κ r h=>by
    split at h
    ·rename_i x;exact⟨x,fun _=>by cases x<;>rfl,h⟩
    ·rename_i p sz lo len;obtain⟨t,l,h1,h2,h⟩:=gz h;obtain⟨h3,h⟩:=dX h;have h3:t.width=sz:=ao h3;refine⟨_,fun hc=> ?_,h⟩;obtain⟨h4,h5,h6⟩:=uk hc h2
     simp_all [Cl.av,T.ofAV,kg,C.tree,bJ]
    ·cases h) _ _ _ h
   refine⟨_,fun sz _=> ?_,h⟩;simp only[Cl.av,gk,TS.st,hcs,aH];rw[<-cH,bF]
   congr 1
   refine Mg h1 (fun k a b ha hb=>h2 k a b ha hb ?_);rw[fQ] at hcs;exact hS.bx cs (au hcs) a (bQ (au ha))
  ·cases h
 ·exact⟨_,fun _ _=>rfl,h⟩
theorem Ou (hS:S.ok): ∀ (ets:List (Option Ty)) (cs:List Cl) (κ:List Cl->Option ρ) (r:ρ),(∀c∈cs,c.ok S.gh)->Oe S ets cs κ=some r->
  ∃cs',ets.length=cs.length/\List.zipWith (gk S.st) (ets.map fun |some e=>e.width|none=>0) (cs.map Cl.av)=cs'.map Cl.av/\κ cs'=some r:=by
 intro ets
 induction ets with
 |nil=>
  intro cs κ r hcs h;cases cs with
  |nil=>exact⟨[],rfl,rfl,h⟩
  |cons c cs=>cases h
 |cons et ets ih=>
  intro cs κ r hcs h;cases cs with
  |nil=>cases h
  |cons c cs=>
   unfold Oe at h;obtain⟨c',h1,h⟩:=Be hS (hcs c aL) h;obtain⟨cs',h2,h3,h⟩:=ih cs _ r (fun x hx=>hcs x (aM _ hx)) h;refine⟨c'::cs',by simp[h2],?_,h⟩
   simp_all
theorem Mh (hΘ:fS P Θ) (hS:S.ok) {t:TypeId} {v:V} (hv:v.ok S.gh) {κ:V1->Option ρ} {r:ρ} (h:SH Θ S t v κ=some r): ∃v1:V1,j8 S.st (np P 9 t) v.av=v1.av/\κ v1=some r:=by
 unfold SH at h;split at h
 ·cases h
 ·rename_i f cs
  obtain⟨bs,h1,h2,h⟩:=Eo (R:=fun (c c':Cl)=>c.ok S.gh->gk S.st 0 c.av=c'.av) (fun c κ r h=>by
   by_cases hc:c.ok S.gh
   ·grind [Be]
   ·have : ∃c',κ c'=some r:=by
     unfold NU at h;split at h
     ·exact⟨_,h⟩
     ·cases h
     ·obtain⟨t,l,_,_,h⟩:=gz h; exact⟨_,(dX h).2⟩
     ·obtain⟨t,l,_,_,h⟩:=gz h; exact⟨_,(eY (dX h).2).2⟩
     ·exact⟨_,h⟩
     ·obtain⟨t,l,_,_,h⟩:=gz h; grind
     ·split at h
      ·obtain⟨bs,_,_,h⟩:=Eo (R:=fun _ _=>True) (fun c κ r h=>by
        split at h
        ·exact⟨_,trivial,h⟩
        ·obtain⟨t,l,_,_,h⟩:=gz h; exact⟨_,trivial,(dX h).2⟩
        ·cases h) _ _ _ h
       exact⟨_,h⟩
      ·cases h
     ·exact⟨_,h⟩
    grind) _ _ _ h
  refine⟨_,?_,h⟩;simp only[V.av,V1.av,j8,bF]
  congr 1
  exact Mg h1 (fun k a b ha hb=>h2 k a b ha hb (hv a (au ha)))
 ·rename_i cs;split at h
  ·rename_i ti hti;obtain⟨cs',h1,h2,h⟩:=Ou hS _ _ _ _ hv h;refine⟨_,?_,h⟩;have e: (ti.ty.csh.map fun |some e=>e.width|none=>0)=ti.ty.shs:=rfl;simp only[V.av,V1.av,j8,(hΘ _ _ hti).sh]
   grind
  ·cases h
 ·exact⟨_,rfl,h⟩
 ·rename_i c hne
  have gi: ∀ (szs:List Nat),j8 S.st szs (V.v (.cl c)).av=gk S.st (szs.headD 0) c.av:=by
   intro szs;cases c with
   |c x=>cases x<;>rfl
   |em=>exact absurd rfl hne
   | _=>rfl
  split at h
  ·rename_i ti hti;obtain⟨c',h1,h⟩:=Be hS hv h;refine⟨_,?_,h⟩;rw[gi];refine h1 _ (fun t ht=> ?_);rw[(hΘ _ _ hti).sh];unfold Ty.shs;cases hc:ti.ty.csh with
   |nil=>rw[hc] at ht; cases ht
   |cons a l=>grind
  ·obtain⟨c',h1,h⟩:=Be hS hv h;exact⟨_,by rw[gi]; exact h1 _ (fun t ht=>by cases ht),h⟩
theorem ul (hΘ:fS P Θ) (hS:S.ok): ∀ (ts:List TypeId) (as:List Operand) (κ:List V1->Option ρ) (r:ρ),vG Θ S ts as κ=some r->
  ∃vs:List V1,List.zipWith (fun t a=>j8 S.st (np P 9 t) (opd S.st a)) ts as=vs.map V1.av/\κ vs=some r:=by
 intro ts
 induction ts with
 |nil=>
  intro as κ r h;cases as with
  |nil=>exact⟨[],rfl,h⟩
  |cons a as=>cases h
 |cons t ts ih=>
  intro as κ r h;cases as with
  |nil=>cases h
  |cons a as=>
   unfold vG at h;obtain⟨v,h1,h⟩:=Mh hΘ hS (mO hS a) h
   grind [List.zipWith_cons_cons,eg]
end
end
section
open Go
open Classical in
noncomputable def KI (d:Option Tmp) (g:FuncId) (args:List AV) (res:AV×List T):rg:=fun d' g' a' gs'=>if d'=d/\g'=g/\a'=args/\gs'= [] then some res else none
theorem Bf [dP] {P:Program} {d:Option Tmp} {g:FuncId} {args:List AV} {res:AV} {out:List T} (h:pw P g args [] res out):kv P (KI d g args (res,out)):=by
 intro d' g' a' gs' r' o' h'
 simp_all [KI]
theorem JA (d:Option Tmp) (g:FuncId) (args:List AV) (res:AV×List T):KI d g args res d g args [] =some res:=by simp_all [KI]
def Ep:rg:=fun _ _ _ _=>none
theorem ik [dP] {P:Program}:kv P Ep:=fun _ _ _ _ _ _ h=>by cases h
theorem KJ (n:Nat) (c:Cl): (Ei n c).av=ke n c.av:=by
 cases c with
 |c x=>cases x<;>rfl
 | _=>rfl
theorem Bg (n:Nat) (v:V1): (va n v).av=jC n v.av:=by
 cases v with
 |cl c=>cases c with
  |c x=>cases x<;>rfl
  | _=>rfl
 |agg cs=>simp_all [va,V1.av,jC,KJ]
 |fn f cs=>rfl
theorem vf (n:Nat) (v:V): (qv n v).av=shift n v.av:=by
 cases v with
 |v x=>
  have :shift n x.av=jC n x.av:=by
   cases x with
   |cl c=>cases c with
    |c x=>cases x<;>rfl
    | _=>rfl
   | _=>rfl
  show (va n x).av=shift n x.av;rw[this,Bg]
 |tup l=>simp_all [qv,V.av,shift,Bg]
theorem Dz {G:List (Option eB)} {out:List eB} {c:Cl} (h:c.ok (out.map some)): (Ei G.length c).ok (G++out.map some):=by
 cases c with
 |own p sz lo len w=>
  obtain⟨h1,h2⟩:=h;refine⟨by simp at h1 ⊢; omega,fun hw=> ?_⟩;obtain⟨a,b,c⟩:=h2 hw;refine⟨a,b,fun tr htr=>c tr ?_⟩;rw[yy,if_pos (by simp)] at htr
  simp_all [fy,fQ]
 |c x=>cases x<;>trivial
 |ptrT p sz i j=>show p.r+G.length< (G++out.map some).length; have h:p.r< (out.map some).length:=h; simp at h ⊢; omega
 | _=>trivial
theorem Bh {G:List (Option eB)} {out:List eB} {v:V1} (h:v.ok (out.map some)): (va G.length v).ok (G++out.map some):=by
 cases v with
 |cl c=>exact Dz h
 |agg cs=>intro c hc;obtain⟨x,hx,rfl⟩:=aJ.1 hc;exact Dz (h x hx)
 |fn f cs=>trivial
theorem vg {G:List (Option eB)} {out:List eB} {v:V} (h:v.ok (out.map some)): (qv G.length v).ok (G++out.map some):=by
 cases v with
 |v x=>exact Bh h
 |tup l=>intro c hc;obtain⟨x,hx,rfl⟩:=aJ.1 hc;exact Bh (h x hx)
theorem tf (S:TS) (v:AV) (out:List eB): ({ S with gh:=S.gh++out.map some }:TS).st=(rj S.st (v,out.map eB.tree)).2:=by
 unfold TS.st rj;simp only[aA,aK]
 congr 1
 funext r
 rw[yy];by_cases h:S.gh.length<=r
 ·rw[if_pos h];by_cases h2:r<S.gh.length+out.length
  ·rw[if_pos ⟨h,h2⟩,ap]
  ·rw[if_neg (fun hh=>h2 hh.2),b6 (by omega),yz h]
 ·rw[if_neg h,if_neg (fun hh=>h hh.1)]
section
variable {ρ:Type} {P:Program} {Θ:mN} {S:TS} {Y:wl}
theorem Bi (hS:S.ok): ∀ (caps:List Cl) (κ':List Cl->Option ρ) (r:ρ),(∀c∈caps,c.ok S.gh)->Gh (NU S none) caps κ'=some r-> ∃cs,(caps.map Cl.av).map (gk S.st 0)=cs.map Cl.av/\κ' cs=some r:=by
 intro caps
 induction caps with
 |nil=>intro κ' r _ h; exact⟨[],rfl,h⟩
 |cons c caps ih=>intro κ' r hc h;unfold Gh at h;obtain⟨c',g1,h⟩:=Be hS (hc c aL) h;obtain⟨cs,g2,h⟩:=ih _ r (fun x hx=>hc x (aM _ hx)) h;exact⟨c'::cs,by simp_all,h⟩
theorem Mi [dP] (hΘ:fS P Θ) (hY:kz P Y) (hS:S.ok) {f:Operand} {ts:Array TypeId} {as:Array Operand} {κ:V->TS->Option ρ} {r:ρ} (h:Jn Θ Y S f ts.toList as.toList κ=some r) {dst:Option Tmp} {ty:TypeId} {pos:String} {aft:Array Edge} {gd:Option (Nat×Bool)}:
  ∃D v S',kv P D/\step D P S.st ⟨dst, .call { callee:= .value f,args:=as,argTypes:=ts },ty,pos,aft,gd⟩=some (V.av v,TS.st S')/\S'.ok/\v.ok S'.gh/\κ v S'=some r:=by
 have fin: ∀ (g:FuncId) (caps:List AV) (vs:List V1),g<iW->callee S.st f=some (g,caps)->args P S.st ts as caps=vs.map V1.av->Y g vs ρ (fun res out=>κ (qv S.gh.length res) { S with gh:=S.gh++out.map some })=some r->
   ∃D v S',kv P D/\step D P S.st ⟨dst, .call { callee:= .value f,args:=as,argTypes:=ts },ty,pos,aft,gd⟩=some (V.av v,TS.st S')/\S'.ok/\v.ok S'.gh/\κ v S'=some r:=by
  intro g caps vs hg h1 h2 h3;obtain⟨res,out,h4,h5,h6⟩:=hY _ _ _ _ _ h3;have h4:=h4.fn hg;refine⟨KI dst g (vs.map V1.av) (res.av,out.map eB.tree),_,_,Bf h4,?_,TS.ok_gh hS (iA.apps _ _),vg h5,h6⟩;simp only[step,h1,ae,h2];rw[JA];simp only[aH];rw[tf S res.av out,vf];rfl
 unfold Jn at h;split at h
 ·rename_i g x y hf;obtain⟨hg,h⟩:=dX h;have hg:g<iW:=ar hg;obtain⟨vs,h1,h⟩:=ul hΘ hS _ _ _ _ h;refine fin g [] vs hg ?_ ?_ h
  ·unfold callee;rw[eg,hf];rfl
  grind [args]
 ·rename_i g caps hf;obtain⟨hg,h⟩:=dX h;have hg:g<iW:=ar hg;obtain⟨vs,h1,h⟩:=ul hΘ hS _ _ _ _ h
  have hcaps: ∀c∈caps,c.ok S.gh:=by have:=mO hS f;rw[hf] at this;exact this
  obtain⟨cs,h2,h⟩:=Bi hS _ _ _ hcaps h;refine fin g (caps.map Cl.av) (vs++cs.map .cl) hg ?_ ?_ h
  ·unfold callee;rw[eg,hf];rfl
  ·unfold args;rw[h1,h2,bT,bF];rfl
 ·cases h
theorem gx {t t':Ty} {l:List t.D} {l':List t'.D} (h:uh t t' l=some l'): ∃e:t=t',e ▸ l=l':=by grind [uh]
theorem KK {t:Ty} (h:t.flatB=true) (x:t.D): (t.row x).all T.flat=true:=by
 cases t with
 |st n=>cases n<;>first |rfl|cases h
 |ls t=>cases h
 | _=>rfl
theorem vh (t:Ty): (t.shs.all (· ==0))=t.flatB:=by
 cases t with
 |st n=>cases n<;>rfl
 |ls t=>
  show ((t.width==0)&&true)=false;have:=t.width_pos
  grind
 | _=>rfl
theorem rX {t:Ty} (h:t.flatB=true) (l:List t.D): (l.map t.row).all (fun r=>r.all T.flat)=true:=by simp_all [KK]
theorem Ov (hS:S.ok) {el:Ty} {v:Cl} (hv:v.ok S.gh) {κ:List el.D->TS->Option ρ} {r:ρ} (h:L3 S el v κ=some r):
  ∃more S',ja S.st el.width el.flatB v.av=some (more.map el.row,S'.st)/\S'.ok/\iA S.gh S'.gh/\S'.gh.length=S.gh.length/\S'.fz=S.fz/\κ more S'=some r:=by
 unfold L3 at h;split at h
 ·exact⟨[],S,rfl,hS,iA.refl _,rfl,rfl,h⟩
 ·rename_i t l;obtain⟨h1,h⟩:=dX h;split at h
  ·rename_i l' hl;obtain⟨e,hl⟩:=gx hl;subst e;simp only at hl;subst hl;refine⟨l,S,?_,hS,iA.refl _,rfl,rfl,h⟩;simp only[Cl.av,C.av,ja];rw[if_pos ⟨trivial,rX h1 l⟩]
  ·cases h
 ·rename_i p sz lo len w;obtain⟨h0,h⟩:=dX h;have h0:el.width=sz:=ao h0;cases hfl:el.flatB with
  |true=>
   rw[hfl] at h;simp only[cond_true] at h;obtain⟨t,l,h1,h2,h⟩:=gz h;split at h
   ·rename_i l' hl;obtain⟨e,hl⟩:=gx hl;subst e;simp only at hl;subst hl
    have src: ∀ (lo len:Nat),lo+len<=l.length->ja S.st t.width true (.own p sz lo len)=some (((l.drop lo).take len).map t.row,S.st):=by intro lo len hle;simp only[ja];rw[if_pos h0.symm,kg h1];simp only[ae,Bool.true_eq_false,false_and,if_false,aK];rw[if_pos ⟨hle,by grind [rX]⟩];simp[cq,cH]
    cases w with
    |true=>
     obtain⟨e1,e2,e3⟩:=uk hv h2;refine⟨l,S,?_,hS,iA.refl _,rfl,rfl,h⟩
     grind [Cl.av]
    |false=>simp only[cond_false] at h;obtain⟨h3,h⟩:=eY h;exact⟨_,S,src lo len h3,hS,iA.refl _,rfl,rfl,h⟩
   ·cases h
  |false=>
   rw[hfl] at h;simp only[cond_false] at h;split at h
   ·rename_i hp;obtain⟨h3,h6⟩:=dX h;clear h;simp only[al] at h3;obtain⟨hw,h4⟩:=h3;have h4:S.fz<=p.r:=ar h4;subst hw;obtain⟨t,l,h1,h2,h⟩:=gz h6;split at h
    ·rename_i l' hl;obtain⟨e,hl⟩:=gx hl;subst e;simp only at hl;subst hl;obtain⟨e1,e2,e3⟩:=uk hv h2;refine⟨l,_,?_,TS.ok_gh hS (iA.gone _ _),iA.gone _ _,by simp[gF],rfl,h⟩;simp only[Cl.av,ja];rw[if_pos h0.symm,kg h1];simp only[ae,aK];rw[if_pos ⟨trivial,hp,e2,e3,h4⟩,xb]
    ·cases h
   ·cases h
 ·cases h
end
end
section
open Go
theorem Ie (t:Ty):t.zvs.length=t.width:=by
 cases t with
 |st n=>cases n<;>rfl
 | _=>rfl
theorem wq (t:Ty):t.shs.length=t.width:=by
 cases t with
 |st n=>cases n<;>rfl
 | _=>rfl
theorem xd {P:Program} {el:TypeId} {e:Ty} (h1:P.cellsOf el=e.width) (h2:np P 9 el=e.shs) (h3:xY P el=some e.zvs):yc P el=some (List.zipWith zc e.shs e.zvs):=by simp_all [yc,Ie,wq]
section
variable {ρ:Type} {P:Program} {Θ:mN} {S:TS}
theorem Mj (hS:S.ok) {el:Ty} {v:Cl} (hv:v.ok S.gh) {more:List el.D} {κ:List el.D->TS->Option ρ} {r:ρ} (h:Gi S el v more κ=some r):
  ∃l S',iw S.st v.av el.width (more.map el.row)=some (.own ⟨S.gh.length,[]⟩ el.width 0 l.length,{ S'.st with gh:=eT S'.st.gh S.gh.length (some (.sl el.width (l.map el.row))),ng:=S.gh.length+1 })/\
   S'.ok/\iA S.gh S'.gh/\S'.gh.length=S.gh.length/\κ l S'=some r:=by
 unfold Gi at h;split at h
 ·refine⟨more,S,?_,hS,iA.refl _,rfl,h⟩;simp only[Cl.av,iw,aK];rfl
 ·rename_i p sz lo len w;obtain⟨h0,h'⟩:=dX h;clear h;simp only[al] at h0;have hfz:S.fz<=p.r:=ar h0.1;have hsz:el.width=sz:=ao h0.2;split at h'
  ·rename_i hp;obtain⟨t,l,h1,h2,h⟩:=gz h';split at h
   ·rename_i l' hl;obtain⟨e,hl⟩:=gx hl;subst e;simp only at hl;subst hl
    have fin: ∀ (len:Nat),¬l.length<len->iw S.st (.own p sz 0 len) t.width (more.map t.row)=some (.own ⟨S.gh.length,[]⟩ t.width 0 (l.take len++more).length,{ ({ S with gh:=fj S.gh p.r none }:TS).st with gh:=eT ({ S with gh:=fj S.gh p.r none }:TS).st.gh S.gh.length (some (.sl t.width ((l.take len++more).map t.row))),ng:=S.gh.length+1 }):=by
     intro len hlen;simp only[iw];rw[if_pos ⟨hsz.symm,trivial,hfz⟩,kg h1];simp only[ae,aK];rw[if_neg hlen,if_pos hp,xb];have e1: (l.take len++more).length=len+more.length:=by simp; omega
     rw[e1,bT,cq];rfl
    cases w with
    |true=>grind [uk,TS.ok_gh,iA.gone,gF,Cl.av]
    |false=>
     simp only[cond_false] at h
     grind [eY,yu,TS.ok_gh,iA.gone,gF,Cl.av]
   ·cases h
  ·rename_i i j hp;split at h'
   ·rename_i tr htr;split at h'
    ·rename_i hh;obtain⟨t,l,h1,h2,h⟩:=gz h';split at h
     ·rename_i l' hl;obtain⟨e,hl⟩:=gx hl;subst e;simp only at hl;subst hl;obtain⟨h3,h⟩:=eY h;obtain⟨h4,h⟩:=yu h;have hg:=eB.look htr;have hput:iA S.gh (fj S.gh p.r (some (eB.mk tr.t tr.l (some (i,j))))):=iA.put hg rfl;refine⟨_,{ S with gh:=fj S.gh p.r (some (eB.mk tr.t tr.l (some (i,j)))) },?_,TS.ok_gh hS hput,hput,by simp[gF],h⟩;simp only[Cl.av,iw];rw[if_pos ⟨hsz.symm,h3,hfz⟩,kg h1];simp only[ae,aK];rw[if_neg h4,if_neg (by rw[hp]; simp),wo _ _ (te hg)];have e1: (l.take len++more).length=len+more.length:=by simp; omega
      rw[e1,bT,cq]
      have e2:S.st.setAt p .dd= { S.st with gh:=eT S.st.gh p.r (some (eB.tree ⟨tr.t,tr.l,some (i,j)⟩)) } :=by
       unfold St.setAt
       congr 2
       show ((fy S.gh p.r).map eB.tree).map _=_;rw[hg,hp];obtain⟨t0,l0,hole⟩:=tr;simp only at hh;subst hh;rfl
      rw[e2];rfl
     ·cases h
    ·cases h'
   ·cases h'
  ·cases h'
 ·cases h
theorem Ow (hΘ:fS P Θ) (hS:S.ok) {t:TypeId} {s x:Operand} {κ:V->TS->Option ρ} {r:ρ} (h:Of Θ S t (S.opd s) (S.opd x) κ=some r) {dst:Option Tmp} {ty:TypeId} {pos:String} {aft:Array Edge} {gd:Option (Nat×Bool)} {D:rg}:
  ∃v S',step D P S.st ⟨dst, .call { callee:= .builtin .append,args:= #[s,x],argTypes:= #[t,t] },ty,pos,aft,gd⟩=some (V.av v,TS.st S')/\S'.ok/\v.ok S'.gh/\κ v S'=some r:=by
 unfold Of at h;split at h
 ·rename_i ti hti;split at h
  ·rename_i el sv xv he hs hx;obtain⟨elT',g1,g2,g3,g4,g5,g6⟩:=(hΘ _ _ hti).el el he;have hsv:=mO hS s;rw[hs] at hsv;have hxv:=mO hS x;rw[hx] at hxv;obtain⟨more,S1,h1,k1,k2,k3,k4,h⟩:=Ov hS (show xv.ok S.gh from hxv) h;obtain⟨l,S2,h2,m1,m2,m3,h⟩:=Mj k1 (Cl.ok_mono k2 (show sv.ok S.gh from hsv)) h;obtain⟨hb,h⟩:=eY h;have hgl:iA S1.gh (S2.gh++ [some ⟨el,l,none⟩]):=m2.trans (iA.app _ _);refine⟨_,_,?_,TS.ok_gh m1 (iA.app _ _),?_,h⟩
   ·simp only[step];rw[if_pos trivial,g1];simp only[ae,g2,g5,vh,eg,hs,hx];show (ja S.st el.width el.flatB xv.av).bind _=_;rw[h1];simp only[ae];show (iw S1.st sv.av el.width _).bind _=_;rw[h2];simp only[ae];have hlen:l.length<=2 ^ 40:=aO (Nat.le_mul_of_pos_right _ g4) hb;rw[if_pos ⟨by rw[g3]; exact hb,hlen,el.width_pos,by rw[xd g2 g5 g6]; rfl⟩];rw[Bd,m3];rfl
   ·refine⟨by simp,fun _=>⟨rfl,rfl,fun tr htr=> ?_⟩⟩;rw[ky,if_pos rfl] at htr;cases htr;rfl
  ·cases h
 ·cases h
end
end
section
open Go
theorem Ox (a b:Nat): (a==b)=Nat.beq a b:=by
 rw[b8,beq_iff_eq]
 simp_all
theorem Ml (a b:Nat): (a==b)=Nat.beq b a:=by
 rw[b8,beq_iff_eq]
 grind [Nat.beq_refl,Nat.eq_of_beq_eq_true]
theorem Bk (r i j pr i' j':Nat) (l:List (Nat×Nat)):under ⟨r,[(i,j)]⟩ ⟨pr,(i',j')::l⟩=(Nat.beq pr r&&Nat.beq j j'):=by simp only[under,ya,dt];rw[Ml,Ox]
theorem Bl (r i j pr:Nat):under ⟨r,[(i,j)]⟩ ⟨pr,[]⟩=false:=by simp[under,ya]
theorem xe (r i j:Nat) (c:Cl): (pI r j c).av=pG ⟨r,[(i,j)]⟩ c.av:=by
 cases c with
 |own p sz lo len w=>
  obtain⟨pr,pl⟩:=p;cases pl with
  |nil=>simp only[pI,Cl.av,pG,Bl]; rfl
  |cons a l=>obtain⟨i',j'⟩:=a;simp only[pI,Cl.av,pG,Bk];cases (Nat.beq pr r&&Nat.beq j j')<;>rfl
 |ptrT p sz a b=>
  obtain⟨pr,pl⟩:=p;cases pl with
  |nil=>simp only[pI,Cl.av,pG,Bl]; rfl
  |cons a' l=>obtain⟨i',j'⟩:=a';simp only[pI,Cl.av,pG,Bk];cases (Nat.beq pr r&&Nat.beq j j')<;>rfl
 |c x=>cases x<;>rfl
 | _=>rfl
theorem DA (r i j:Nat) (v:V1): (rF r j v).av=rR ⟨r,[(i,j)]⟩ v.av:=by
 cases v with
 |cl c=>
  have :rR ⟨r,[(i,j)]⟩ (V1.cl c).av=pG ⟨r,[(i,j)]⟩ c.av:=by
   cases c with
   |c x=>cases x<;>rfl
   | _=>rfl
  rw[this];exact xe r i j c
 |agg cs=>
  simp only[rF,V1.av,rR,bF]
  congr 1
  grind [List.map_congr_left,xe]
 |fn f cs=>
  simp only[rF,V1.av,rR,bF]
  congr 1
  grind [List.map_congr_left,xe]
theorem Mm (r i j:Nat) (v:V): (Dx r j v).av=kill ⟨r,[(i,j)]⟩ v.av:=by
 cases v with
 |v x=>
  have :kill ⟨r,[(i,j)]⟩ (V.v x).av=rR ⟨r,[(i,j)]⟩ x.av:=by
   cases x with
   |cl c=>cases c with
    |c x=>cases x<;>rfl
    | _=>rfl
   | _=>rfl
  rw[this];exact DA r i j x
 |tup l=>
  simp only[Dx,V.av,kill,bF]
  congr 1
  grind [List.map_congr_left,DA]
theorem Gt (f:V->V) (hf:f V.dead=V.dead): ∀ (l:List (Nat×V)) (t:Nat),iV (l.map fun x=>(x.1,f x.2)) t=f (iV l t)
 | [],t=>hf.symm
 | (u,v)::l,t=>by
   simp only[aV,iV];cases Nat.beq u t with
   |true=>rfl
   |false=>exact Gt f hf l t
theorem Oy (S:TS) (r i j:Nat): (S.kill r j).st=S.st.killU ⟨r,[(i,j)]⟩:=by
 unfold TS.kill TS.st St.killU;simp only[aK]
 congr 1
 ·funext t
  rw[Gt _ rfl];exact Mm r i j _
 ·funext n
  rw[fQ,fQ,ap];cases S.bx[n]? with
  |none=>rfl
  |some cs=>
   simp only[aH,bF]
   congr 1
   grind [List.map_congr_left,xe]
theorem xf {G:List (Option eB)} {r j:Nat} {c:Cl} (h:c.ok G): (pI r j c).ok G:=by
 cases c with
 |own p sz lo len w=>
  simp only[pI];split
  ·cases (Nat.beq p.r r&&Nat.beq j _)<;>first |exact h|trivial
  ·exact h
 |ptrT p sz a b=>
  simp only[pI];split
  ·cases (Nat.beq p.r r&&Nat.beq j _)<;>first |exact h|trivial
  ·exact h
 | _=>exact h
theorem DB {G:List (Option eB)} {r j:Nat} {v:V1} (h:v.ok G): (rF r j v).ok G:=by
 cases v with
 |cl c=>exact xf h
 |agg cs=>intro c hc;obtain⟨x,hx,rfl⟩:=aJ.1 hc;exact xf (h x hx)
 |fn f cs=>intro c hc;obtain⟨x,hx,rfl⟩:=aJ.1 hc;exact xf (h x hx)
theorem JB {S:TS} (hS:S.ok) (r j:Nat): (S.kill r j).ok:=by
 refine⟨fun x hx=> ?_,fun cs hcs c hc=> ?_⟩
 ·obtain⟨y,hy,rfl⟩:=aJ.1 hx;have:=hS.env y hy;obtain⟨t,v⟩:=y;cases v with
  |v x=>exact DB this
  |tup l=>intro c hc;obtain⟨z,hz,rfl⟩:=aJ.1 hc;exact DB (this z hz)
 ·obtain⟨y,hy,rfl⟩:=aJ.1 hcs;obtain⟨z,hz,rfl⟩:=aJ.1 hc;exact xf (hS.bx y hy z hz)
def TS.with (S:TS) (no N w:Nat) (R:List (List T)):St:= { S.st with gh:=eT S.st.gh no (some (.sl w R)),ng:=N }
theorem DC (S:TS) (r i j no N w:Nat) (R:List (List T)): (S.with no N w R).killU ⟨r,[(i,j)]⟩=(S.kill r j).with no N w R:=by
 unfold TS.with
 rw[Oy S r i j];rfl
theorem JC {α:Type} (f:Nat->α) (t:Nat) (x y:α):eT (eT f t x) t y=eT f t y:=by
 funext u
 unfold eT;split<;>rfl
theorem Gu {α:Type} (f:Nat->α) (t:Nat) (x:α):eT f t x t=x:=by unfold eT; rw[if_pos rfl]
theorem Mn {α:Type} (f:Nat->α) {t u:Nat} (h:t≠u) (x y:α):eT (eT f t x) u y=eT (eT f u y) t x:=by
 funext v
 unfold eT
 grind
structure Oz (S S1:TS) (no:Nat):Prop where
 ok:S1.ok
 gle:iA S.gh S1.gh
 len:S1.gh.length=S.gh.length
 fz:S1.fz=S.fz
 nt:S1.nt=S.nt
 no:fy S1.gh no=fy S.gh no
def Gv:Option Ty->Nat|some e=>e.width|none=>0
def Sz (X:St) (no i j:Nat) (c:AV):Option Ty->Option St
 |none=>some X
 |some t=>pH X ⟨no,[]⟩ i j t.width c
def Mo (R:List (List T)) (i j:Nat) (x:C):Option Ty->List (List T)
 |none=>R
 |some _=>R.set i ((R.getD i []).set j x.tree)
theorem Mp {S S1:TS} (hS:S.ok) {no j:Nat} (i N w:Nat) {et:Option Ty} {c:Cl} {x:C} (hc:c.ok S.gh) (h:i9 S no j et c=some (x,S1)) (R:List (List T)):
  Oz S S1 no/\c≠ .dead/\(et=none->T.ofSc c.av=x.tree)/\Sz (S.with no N w R) no i j c.av et=some (S1.with no N w (Mo R i j x et)):=by
 cases c with
 |c y=>
  cases y with
  |sc v=>
   cases et with
   |none=>simp only[i9,af,an] at h;obtain⟨rfl,rfl⟩:=h;exact⟨⟨hS,iA.refl _,rfl,rfl,rfl,rfl⟩,(fun h=>by cases h),fun _=>rfl,rfl⟩
   |some t=>simp[i9] at h
  |ls t l=>cases et<;>simp[i9] at h
 |em=>
  cases et with
  |none=>simp[i9] at h
  |some t=>
   simp only[i9,af,an] at h;obtain⟨rfl,rfl⟩:=h;refine⟨⟨JB hS _ _,iA.refl _,rfl,rfl,rfl,rfl⟩,(fun h=>by cases h),(fun h=>by cases h),?_⟩;simp only[Sz,Cl.av,pH,eK.sub,aY,DC,Mo]
   congr 1
   unfold St.setAt TS.with
   simp only;rw[Gu,JC];rfl
 |own p sz lo len wh=>
  obtain⟨pr,pl⟩:=p;cases wh with
  |false=>cases et<;>simp[i9] at h
  |true=>
   cases et with
   |none=>simp[i9] at h
   |some t=>
    cases pl with
    |cons a l=>simp[i9] at h
    |nil=>
     simp only[i9] at h;obtain⟨h1,h⟩:=dX h;simp only[al,bZ] at h1;obtain⟨⟨h1,h2⟩,h3⟩:=h1;have h1:t.width=sz:=ao h1;have h2:S.fz<=pr:=ar h2;have h3:pr≠no:=by intro e; rw[e,cN] at h3; cases h3
     split at h
     ·rename_i tr htr;split at h
      ·rename_i hh;obtain⟨h4,h⟩:=dX h;have h4':tr.t.width=sz:=ao h4;simp only[af,an] at h;obtain⟨rfl,rfl⟩:=h;have hg:=eB.look htr;obtain⟨tt,l,hole⟩:=tr;simp only at hh h4';subst hh;obtain⟨e1,e2,e3⟩:=uk hc (fun _=>hg);refine⟨⟨JB (TS.ok_gh hS (iA.gone _ _)) _ _,iA.gone _ _,by simp[TS.kill,gF],rfl,rfl,?_⟩,(fun h=>by cases h),(fun h=>by cases h),?_⟩
       ·show fy (fj S.gh pr none) no=_;rw[o9 _ _ (.inr rfl),if_neg (fun e=>h3 e.symm)]
       ·simp only[Sz,Mo,Cl.av,pH]
        have hrows: (S.with no N w R).rows ⟨pr,[]⟩ sz=some (l.map tt.row):=by
         have : (S.with no N w R).look ⟨pr,[]⟩= .sl tt.width (l.map tt.row):=by
          unfold St.look TS.with
          simp only[eT];rw[if_neg h3];show (match (fy S.gh pr).map eB.tree with |some t=>t.go [] |none=> .dd)=_;rw[hg];rfl
         unfold St.rows;rw[this];simp[h4']
        rw[if_pos ⟨trivial,h1.symm,e2,h2,h3⟩,hrows];simp only[ae,aK];rw[if_pos (by omega),e3]
        congr 1
        have e4: (l.map tt.row).take l.length=l.map tt.row:=bJ (by simp);rw[e4];simp only[eK.sub,aY,DC];unfold TS.with
        simp only;rw[Gu,Mn _ (fun e=>h3 e.symm),JC];have e5: ({ S with gh:=fj S.gh pr none }:TS).kill no j= { S.kill no j with gh:=fj (S.kill no j).gh pr none } :=rfl;rw[e5,xb];simp only[C.tree,h4'];rfl
      ·cases h
     ·cases h
 |pro cs=>cases et<;>simp[i9] at h
 |ptrB n j=>cases et<;>simp[i9] at h
 |ptrT p sz a b=>cases et<;>simp[i9] at h
 |dead=>cases et<;>simp[i9] at h
theorem Qy (X:St) (no i j:Nat) (c:AV) (et:Option Ty): (if Gv et=0 then some X else pH X ⟨no,[]⟩ i j (Gv et) c)=Sz X no i j c et:=by
 cases et with
 |none=>rfl
 |some t=>exact if_neg (by show ¬t.width=0; have:=t.width_pos; omega)
theorem Mq {R:List (List T)} {i j:Nat} {x:C} {et:Option Ty} {row:List T} (hr:R[i]? =some row) (hj:j<row.length) (h:et=none->row[j]? =some x.tree):Mo R i j x et=R.set i (row.set j x.tree):=by
 cases et with
 |none=>
  have h:=h rfl
  have e1:row.set j x.tree=row:=by
   apply bA;intro k;rw[bX];split
   ·grind
   ·rfl
  rw[e1];apply bA;intro k;show R[k]? =_
  grind
 |some t=>simp_all [Mo]
theorem Bm (no i N w:Nat): ∀ (ets:List (Option Ty)) (cs:List Cl) (j:Nat) (S S1:TS) (xs:List C) (R:List (List T)) (row:List T),S.ok->(∀c∈cs,c.ok S.gh)->pJ no j S ets cs=some (xs,S1)->R[i]? =some row->
  j+cs.length<=row.length->(∀ (k:Nat) (c:Cl),cs[k]? =some c->row[j+k]? =some (T.ofSc c.av))->
  Oz S S1 no/\ets.length=cs.length/\xs.length=cs.length/\(∀c∈cs,c≠ .dead)/\
   fi (S.with no N w R) ⟨no,[]⟩ i j (ets.map Gv) (cs.map Cl.av)=some (S1.with no N w (R.set i (row.take j++xs.map C.tree++row.drop (j+cs.length)))):=by
 intro ets
 induction ets with
 |nil=>
  intro cs j S S1 xs R row hS hcs h hr hl ho;cases cs with
  |cons c cs=>simp[pJ] at h
  |nil=>
   simp only[pJ,af,an] at h;obtain⟨rfl,rfl⟩:=h;refine⟨⟨hS,iA.refl _,rfl,rfl,rfl,rfl⟩,rfl,rfl,(fun c hc=>by cases hc),?_⟩;simp only[cB,fi,b7,b9,b0,dw]
   congr 2
   apply bA
   grind
 |cons et ets ih=>
  intro cs j S S1 xs R row hS hcs h hr hl ho;cases cs with
  |nil=>simp[pJ] at h
  |cons c cs=>
   simp only[pJ] at h;split at h
   ·rename_i x S2 hx;split at h
    ·rename_i xs' S3 hxs;simp only[af,an] at h;obtain⟨rfl,rfl⟩:=h;obtain⟨k1,k2,k3,k4⟩:=Mp hS i N w (hcs c aL) hx R;have hj:j<row.length:=by simp at hl; omega
     have hput:=Mq (et:=et) hr hj (x:=x) (fun he=>by rw[<-k3 he]; exact ho 0 c rfl);rw[hput] at k4;have hi:i<R.length:=(aj.1 hr).1
     obtain⟨m1,m2,m3,m4,m5⟩:=ih cs (j+1) S2 S3 xs' (R.set i (row.set j x.tree)) (row.set j x.tree) k1.ok (fun y hy=>Cl.ok_mono k1.gle (hcs y (aM _ hy))) hxs (by simp[hi]) (by simp at hl ⊢; omega) (fun k y hy=>by rw[dC (by omega),show j+1+k=j+(k+1) by omega];exact ho (k+1) y (by simpa using hy))
     refine⟨⟨m1.ok,k1.gle.trans m1.gle,m1.len.trans k1.len,m1.fz.trans k1.fz,m1.nt.trans k1.nt,m1.no.trans k1.no⟩,by simp[m2],by simp[m3],fun y hy=> ?_,?_⟩
     ·grind
     ·simp only[aV,fi];rw[Qy,k4];simp only[ae];rw[m5,List.set_set]
      congr 3
      have e2: (row.set j x.tree).take (j+1)=row.take j++ [x.tree] :=by
       rw[List.take_set,bM,ah hj];rw[dL];have hlen: (row.take j).length=j:=by simp; omega
       rw[List.set_append_right _ _ (by omega),hlen,cR];rfl
      grind [List.drop_set_of_lt]
    ·cases h
   ·cases h
end
section
open Go
theorem Gw: ∀ {cs:List Cl} {vs:List C},Qs cs=some vs->cs.map (fun c=>T.ofSc c.av)=vs.map C.tree/\vs.length=cs.length
 | [],vs,h=>by simp_all [Qs]
 |c::cs,vs,h=>by
  cases c with
  |c y=>cases y with
   |sc v=>
    simp only[Qs] at h;split at h
    ·rename_i r hr;simp only[af] at h;subst h;obtain⟨h1,h2⟩:=Gw hr;exact⟨by simp only[aV,h1]; rfl,by simp[h2]⟩
    ·cases h
   |ls t l=>simp[Qs] at h
  | _=>simp[Qs] at h
theorem Bn {x:V1} (h1:x≠ .cl .dead) (h2: ∀f cs,x≠ .fn f cs): (V.v x).av.cells=x.cells.map Cl.av/\(V.v x).av.isDead=false:=by
 cases x with
 |cl c=>cases c with
  |c y=>cases y<;>exact⟨rfl,rfl⟩
  |dead=>exact absurd rfl h1
  | _=>exact⟨rfl,rfl⟩
 |agg cs=>exact⟨rfl,rfl⟩
 |fn f cs=>exact absurd rfl (h2 f cs)
section
variable {ρ:Type} {P:Program} {Θ:mN} {S:TS}
theorem JD (tr:eB) {i j n:Nat} {y:tr.t.D} (hy:tr.l[i]? =some y) (hh:tr.hole=none\/(tr.hole=some (i,j)/\n=1)) (hn:j+n<=tr.t.width):
  ∃Rh rowh,tr.tree= .sl tr.t.width Rh/\Rh[i]? =some rowh/\Rh.length=tr.l.length/\rowh.length=tr.t.width/\rowh.take j=(tr.t.row y).take j/\rowh.drop (j+n)=(tr.t.row y).drop (j+n)/\ ∀X,Rh.set i X=(tr.l.map tr.t.row).set i X:=by
 obtain⟨t,l,hole⟩:=tr;simp only at hy hh hn y;have hi:=(aj.1 hy).1;rcases hh with hh| ⟨hh,rfl⟩
 ·subst hh;exact⟨l.map t.row,t.row y,rfl,by rw[ap,hy]; rfl,by simp,t.row_length y,rfl,rfl,fun _=>rfl⟩
 ·subst hh;have e1: (l.map t.row).getD i [] =t.row y:=by simp[aD,hy]
  refine⟨(l.map t.row).set i ((t.row y).set j .dd),(t.row y).set j .dd,by simp only[eB.tree,e1],by simp[hi],by simp,by simp[t.row_length],?_,?_,fun X=>by rw[List.set_set]⟩
  all_goals grind [List.take_set,List.set_eq_of_length_le,List.drop_set_of_lt]
theorem Mr (hΘ:fS P Θ) (hS:S.ok) {t:TypeId} {a v:V} (ha:a.ok S.gh) (hv:v.ok S.gh) {κ:TS->Option ρ} {r:ρ} (h:H7 Θ S t a v κ=some r): ∃S',store P S.st t a.av v.av=some (TS.st S')/\S'.ok/\iA S.gh S'.gh/\κ S'=some r:=by
 unfold H7 at h;split at h
 ·cases h
 ·rename_i ti hti;have hok:=hΘ _ _ hti;split at h
  ·cases h
  ·cases h
  ·cases h
  ·rename_i x hx1 hx2;obtain⟨hc1,hc2⟩:=Bn (x:=x) (fun e=>hx1 (by rw[e])) (fun f cs e=>hx2 f cs (by rw[e]));obtain⟨h1,h'⟩:=dX h;clear h;have h:=h';clear h';have hlen:x.cells.length=ti.ty.width:=ao h1
   have hcok: ∀c∈x.cells,c.ok S.gh:=by
    cases x with
    |cl c=>intro c' hc'; simp only[V1.cells,aE] at hc'; subst hc'; exact hv
    |agg cs=>exact hv
    |fn f cs=>exact absurd rfl (hx2 f cs)
   have hfst: ¬ ((V.v x).av.cells.length≠P.cellsOf t\/(V.v x).av.isDead=true):=by rw[hc1,hc2,hok.cells];simp[hlen]
   split at h
   ·rename_i b j;split at h
    ·rename_i cs hcs;obtain⟨h2,h⟩:=dX h;have h2:j+x.cells.length<=cs.length:=ar h2;have hcs':S.bx[b]? =some cs:=by rw[<-fQ]; exact hcs
     have hb:b<S.bx.length:=(aj.1 hcs').1;refine⟨{ S with bx:=fj S.bx b (cs.take j++x.cells++cs.drop (j+x.cells.length)) },?_,⟨hS.env,fun cs' hcs'' c hc=> ?_⟩,iA.refl _,h⟩
     ·have e0:store P S.st t (V.v (.cl (.ptrB b j))).av (V.v x).av=(S.st.bx b).bind fun cs=>if j+(V.v x).av.cells.length<=cs.length then some { S.st with bx:=eT S.st.bx b (some (cs.take j++(V.v x).av.cells++cs.drop (j+(V.v x).av.cells.length))) } else none:=by
       unfold store;simp only;rw[if_neg hfst];rfl
      have e1:S.st.bx b=some (cs.map Cl.av):=by show (oo S.bx b).map _=_; rw[hcs]; rfl
      simp_all [KH]
     ·rw[gF] at hcs'';rcases cd hcs'' with h3|h3
      ·exact hS.bx _ h3 c hc
      ·subst h3;simp only[bf] at hc;have hm:=au hcs';rcases hc with (hc|hc)|hc
       ·exact hS.bx _ hm c (bR hc)
       ·exact hcok c hc
       ·exact hS.bx _ hm c (bQ hc)
    ·cases h
   ·rename_i p sz i j;obtain⟨pr,pl⟩:=p;cases pl with
    |cons a l=>cases h
    |nil=>
     simp only at h;split at h
     ·rename_i tr htr;have hg:=eB.look htr;obtain⟨h2,h⟩:=dX h;simp only[al] at h2;have h3:tr.t.width=sz:=ao h2.1.1;have h4:j+ti.ty.width<=sz:=ar h2.1.2;have hgst:S.st.gh pr=some tr.tree:=by show (fy S.gh pr).map _=_; rw[hg]; rfl
      have e2: (V1.av x).cells=x.cells.map Cl.av:=hc1
      have put: ∀ (y:tr.t.D) (hy:tr.l[i]? =some y) (Rh:List (List T)) (rowh:List T),tr.tree= .sl tr.t.width Rh->Rh[i]? =some rowh->rowh.length=tr.t.width->
        store P S.st t (V.v (.cl (.ptrT ⟨pr,[]⟩ sz i j))).av (V.v x).av=(if ti.ty.flatB then some (S.with pr S.gh.length sz (Rh.set i (rowh.take j++x.cells.map (fun c=>T.ofSc c.av)++rowh.drop (j+ti.ty.width)))) else
         if S.fz<=pr then fi (S.with pr S.gh.length sz (Rh.set i (rowh.take j++x.cells.map (fun c=>T.ofSc c.av)++rowh.drop (j+ti.ty.width)))) ⟨pr,[]⟩ i j (ti.ty.csh.map Gv) (x.cells.map Cl.av) else none):=by
       intro y hy Rh rowh g1 g2 g3;have hi:i<Rh.length:=(aj.1 g2).1
       have e0:store P S.st t (V.v (.cl (.ptrT ⟨pr,[]⟩ sz i j))).av (V.v x).av=(mw S.st ⟨pr,[]⟩ sz i j ((V.v x).av.cells.map T.ofSc)).bind fun S'=>if (np P 9 t).all (· ==0) then some S' else if S.st.fz<=pr then fi S' ⟨pr,[]⟩ i j (np P 9 t) (V.v x).av.cells else none:=by unfold store;simp only;rw[if_neg hfst];rfl
       rw[e0,hc1]
       have hrows:S.st.rows ⟨pr,[]⟩ sz=some Rh:=by unfold St.rows St.look;simp only[hgst,g1,T.go,h3,if_true]
       unfold mw;rw[hrows];simp only[aK];have hgd:Rh.getD i [] =rowh:=by simp[aD,g2]
       rw[hgd,if_pos ⟨hi,by rw[g3,hlen,h3]; exact h4⟩];simp only[ae,hok.sh,vh]
       have hset:S.st.setAt ⟨pr,[]⟩ (.sl sz (Rh.set i (rowh.take j++(x.cells.map Cl.av).map T.ofSc++rowh.drop (j+x.cells.length))))=S.with pr S.gh.length sz (Rh.set i (rowh.take j++x.cells.map (fun c=>T.ofSc c.av)++rowh.drop (j+ti.ty.width))):=by
        unfold St.setAt TS.with
        simp only[hgst,aH,T.put,bF,hlen];rfl
       rw[hset];rfl
      have fin: ∀ (S1:TS) (y z:tr.t.D) (vs:List C) (Rh:List (List T)) (rowh:List T),Oz S S1 pr->tr.l[i]? =some y->tr.t.flat z=(tr.t.flat y).take j++vs++(tr.t.flat y).drop (j+ti.ty.width)->
        rowh.take j=(tr.t.row y).take j->rowh.drop (j+ti.ty.width)=(tr.t.row y).drop (j+ti.ty.width)->(∀X,Rh.set i X=(tr.l.map tr.t.row).set i X)->
        S1.with pr S.gh.length sz (Rh.set i (rowh.take j++vs.map C.tree++rowh.drop (j+ti.ty.width)))=({ S1 with gh:=fj S1.gh pr (some ⟨tr.t,tr.l.set i z,none⟩) }:TS).st/\
        ({ S1 with gh:=fj S1.gh pr (some ⟨tr.t,tr.l.set i z,none⟩) }:TS).ok/\iA S.gh (fj S1.gh pr (some ⟨tr.t,tr.l.set i z,none⟩)):=by
       intro S1 y z vs Rh rowh hT hy hz q1 q2 q3;have hg1:fy S1.gh pr=some tr:=hT.no.trans hg;have hgle:iA S1.gh (fj S1.gh pr (some ⟨tr.t,tr.l.set i z,none⟩)):=iA.put hg1 (by simp);refine⟨?_,TS.ok_gh hT.ok hgle,hT.gle.trans hgle⟩;rw[wo _ _ (te hg1)];unfold TS.with
       rw[q1,q2,q3]
       have hrow:tr.t.row z=(tr.t.row y).take j++vs.map C.tree++(tr.t.row y).drop (j+ti.ty.width):=by rw[tr.t.row_flat,hz,tr.t.row_flat];simp[cq,cH]
       have hng:S.gh.length=S1.st.ng:=hT.len.symm;rw[hng]
       congr 3
       simp only[eB.tree,h3];rw[<-hrow,List.map_set]
      cases hfl:ti.ty.flatB with
      |true=>
       rw[hfl] at h;simp only[cond_true] at h;split at h
       ·rename_i vs hh hvs;obtain⟨y,hy,h⟩:=ai.1 h;split at h
        ·rename_i z hz;obtain⟨k1,k2⟩:=Gw hvs;obtain⟨Rh,rowh,g1,g2,g3,g4,g5,g6,g7⟩:=JD tr hy (.inl hh) (by rw[h3]; exact h4);obtain⟨f1,f2,f3⟩:=fin S y z vs Rh rowh ⟨hS,iA.refl _,rfl,rfl,rfl,rfl⟩ hy (Ty.unflat_some _ _ _ hz) g5 g6 g7
         grind
        ·cases h
       ·cases h
      |false=>
       rw[hfl] at h;simp only[cond_false] at h;obtain⟨h5,h⟩:=dX h;have h5:S.fz<=pr:=ar h5;split at h
       ·rename_i vs S1 hvs;obtain⟨y,hy,h⟩:=ai.1 h;split at h
        ·rename_i z hz
         have main: (tr.hole=none\/(tr.hole=some (i,j)/\ti.ty.width=1))->κ { S1 with gh:=fj S1.gh pr (some ⟨tr.t,tr.l.set i z,none⟩) } =some r-> ∃S',store P S.st t (V.v (.cl (.ptrT ⟨pr,[]⟩ sz i j))).av (V.v x).av=some (TS.st S')/\S'.ok/\iA S.gh S'.gh/\κ S'=some r:=by
          intro hh hk;obtain⟨Rh,rowh,g1,g2,g3,g4,g5,g6,g7⟩:=JD tr hy hh (by rw[h3]; exact h4);have hi:i<Rh.length:=(aj.1 g2).1;have htk: (rowh.take j).length=j:=by simp; omega
          have hcl: (x.cells.map fun c=>T.ofSc c.av).length=x.cells.length:=by simp
          obtain⟨m1,m2,m3,m4,m5⟩:=Bm pr i S.gh.length sz ti.ty.csh x.cells j S S1 vs (Rh.set i (rowh.take j++x.cells.map (fun c=>T.ofSc c.av)++rowh.drop (j+ti.ty.width))) (rowh.take j++x.cells.map (fun c=>T.ofSc c.av)++rowh.drop (j+ti.ty.width)) hS hcok hvs (by simp[hi]) (by simp; omega) (fun k c hc=>by grind)
          obtain⟨f1,f2,f3⟩:=fin S1 y z vs Rh rowh m1 hy (Ty.unflat_some _ _ _ hz) g5 g6 g7;refine⟨_,?_,f2,f3,hk⟩;rw[put y hy Rh rowh g1 g2 g4,hfl,if_neg (by simp),if_pos h5,m5,<-f1]
          congr 2
          rw[List.set_set]
          congr 1
          rw[bD,bD,List.take_append_of_le_length (by omega),List.take_take,Nat.min_self,<-bD]
          congr 1
          rw[<-bD,List.drop_append,aA,htk,hcl,hlen,cR,bK,cm (by simp; omega),aY]
         split at h
         ·grind
         ·rename_i i0 j0 hh;obtain⟨h6,h⟩:=dX h;simp only[al] at h6
          grind [eY,Nat.eq_of_beq_eq_true]
        ·cases h
       ·cases h
     ·cases h
   ·cases h
end
end
section
open Go
theorem CL (X:St) (p:eK) (i:Nat): ∀ (ss:List Nat) (vs:List AV) (j:Nat),ss.all (· ==0)=true->fi X p i j ss vs=some X:=by
 intro ss
 induction ss with
 |nil=>intro vs j _; cases vs<;>rfl
 |cons s ss ih=>
  intro vs j h;simp only[co,al,beq_iff_eq] at h;cases vs with
  |nil=>rfl
  |cons v vs=>simp_all [fi]
def uo (no:Nat) (ss:List Nat):Nat->List V->St->Option St
 | _,[],X=>some X
 |k,v::vs,X=>(fi X ⟨no,[]⟩ k 0 ss v.av.cells).bind (uo no ss (k+1) vs)
theorem KL (el:Ty) (no N:Nat): ∀ (vs:List V) (k:Nat) (S S1:TS) (l:List el.D) (R:List (List T)),S.ok->S.gh.length=no->(∀v∈vs,v.ok S.gh)->rG el S vs=some (l,S1)->R.length=k+vs.length->
  (∀ (m:Nat) (v:V),vs[m]? =some v->R[k+m]? =some (v.av.cells.map T.ofSc))->
  Oz S S1 no/\l.length=vs.length/\(∀v∈vs,v.av.cells.length=el.width/\v.av.isDead=false)/\uo no el.shs k vs (S.with no N el.width R)=some (S1.with no N el.width (R.take k++l.map el.row)):=by
 intro vs
 induction vs with
 |nil=>
  intro k S S1 l R hS hno hvs h hl ho;simp only[rG,af,an] at h;obtain⟨rfl,rfl⟩:=h;refine⟨⟨hS,iA.refl _,rfl,rfl,rfl,rfl⟩,rfl,(fun v hv=>by cases hv),?_⟩
  grind [uo,List.take_of_length_le]
 |cons v vs ih=>
  intro k S S1 l R hS hno hvs h hl ho;cases v with
  |tup x=>simp[rG] at h
  |v x=>
   simp only[rG] at h;split at h
   ·rename_i ws S2 hw;split at h
    ·rename_i y ys S3 hy hys;simp only[af,an] at h;obtain⟨rfl,rfl⟩:=h;have hv:=hvs _ aL;have hrow:=ho 0 _ rfl;rw[b0] at hrow;have hk:k<R.length:=(aj.1 hrow).1
     have hcok: ∀c∈x.cells,c.ok S.gh:=by
      cases x with
      |cl c=>intro c' hc'; simp only[V1.cells,aE] at hc'; subst hc'; exact hv
      |agg cs=>exact hv
      |fn f cs=>intro c' hc'; simp only[V1.cells,aE] at hc'; subst hc'; trivial
     rw[hno] at hw
     have hx:x≠ .cl .dead/\(∀f cs,x≠ .fn f cs):=by
      have nd: ∀ (cs:List Cl),cs= [.dead] ->pJ no 0 S el.csh cs=some (ws,S2)->False:=by
       intro cs hcs h;subst hcs;cases hc:el.csh with
       |nil=>rw[hc] at h; simp[pJ] at h
       |cons e es=>grind [pJ,i9]
      constructor
      ·intro e; subst e; exact nd _ rfl hw
      ·intro f cs e; subst e; exact nd _ rfl hw
     obtain⟨hc1,hc2⟩:=Bn hx.1 hx.2
     obtain⟨m1,m2,m3,m4,m5⟩:=Bm no k N el.width el.csh x.cells 0 S S2 ws R ((V.v x).av.cells.map T.ofSc) hS hcok hw hrow (by rw[hc1]; simp) (fun m c hm=>by grind)
     have hwid:x.cells.length=el.width:=by
      rw[<-m2];cases el with
      |st n=>cases n<;>rfl
      | _=>rfl
     obtain⟨g1,g2,g3,g4⟩:=ih (k+1) S2 S3 ys (R.set k (el.row y)) m1.ok (m1.len.trans hno) (fun v hv=>V.ok_mono m1.gle (hvs v (aM _ hv))) hys (by simp at hl ⊢; omega) (fun m v hm=>by rw[dC (by omega),show k+1+m=k+(m+1) by omega];exact ho (m+1) v (by simpa using hm))
     refine⟨⟨g1.ok,m1.gle.trans g1.gle,g1.len.trans m1.len,g1.fz.trans m1.fz,g1.nt.trans m1.nt,g1.no.trans m1.no⟩,by simp[g2],fun v hv=> ?_,?_⟩
     ·grind
     ·simp only[uo];have e1:el.shs=el.csh.map Gv:=rfl;rw[hc1,e1,m5];simp only[ae]
      have e2: ((V.v x).av.cells.map T.ofSc).take 0++ws.map C.tree++((V.v x).av.cells.map T.ofSc).drop (0+x.cells.length)=el.row y:=by rw[hc1,cQ,aY,cm (by simp),b7,el.row_flat,Ty.unflat_some _ _ _ hy]
      rw[e2,<-e1,g4]
      congr 2
      have e3: (R.set k (el.row y)).take (k+1)=R.take k++ [el.row y] :=by
       rw[List.take_set,bM,ah hk,dL];have hlen: (R.take k).length=k:=by simp; omega
       rw[List.set_append_right _ _ (by omega),hlen,cR];rfl
      rw[e3];simp
    ·cases h
   ·cases h
theorem Bo (t:Ty):t.zcs.map C.tree=List.zipWith zc t.shs t.zvs:=by
 cases t with
 |st n=>cases n<;>rfl
 | _=>rfl
theorem Er: ∀ {a b:List Nat},Rr a b=true->a=b
 | [],[],_=>rfl
 |a::l,b::m,h=>by
  simp only[Rr] at h;cases hb:Nat.beq a b with
  |true=>rw[hb] at h;rw[ao hb,Er h]
  |false=>rw[hb] at h; cases h
 | [],_::_,h=>by cases h
 | _::_,[],h=>by cases h
theorem Gx (no:Nat) (ss:List Nat) (e:Operand->AV): ∀ (ps:List (Nat×Operand)) (vs:List V) (k:Nat) (X:St),ps.map (·.1)=List.range' k ps.length->ps.map (fun x=>e x.2)=vs.map V.av->
  ps.foldlM (fun S' x=>fi S' ⟨no,[]⟩ x.1 0 ss (e x.2).cells) X=uo no ss k vs X:=by
 intro ps
 induction ps with
 |nil=>
  intro vs k X _ h;cases vs with
  |nil=>rfl
  |cons v vs=>cases h
 |cons p ps ih=>
  intro vs k X h1 h2;cases vs with
  |nil=>cases h2
  |cons v vs=>
   simp only[aV,bI] at h2;simp only[aV,bz,cz,bI] at h1;simp only[List.foldlM_cons,uo,h1.1,h2.1];cases fi X ⟨no,[]⟩ k 0 ss v.av.cells with
   |none=>rfl
   |some X'=>exact ih vs (k+1) X' h1.2 h2.2
section
variable {ρ:Type} {P:Program} {Θ:mN} {S:TS} {Y:wl}
theorem OA {a:AV} {n:Int} (h:yb a=some n): ∃k,a= .sc (.int k n):=by
 unfold yb at h
 grind
theorem OB (c:Cl):DT c.av=H8 c:=by
 cases c with
 |c x=>cases x<;>rfl
 | _=>rfl
theorem Es (cs:List Cl): (cs.map Cl.av).any DT=cs.any H8:=by
 rw[List.any_map]
 congr 1
 funext c
 exact OB c
theorem zu (c:Cl): (V.v (.cl c)).av.cells= [c.av] :=by
 cases c with
 |c x=>cases x<;>rfl
 | _=>rfl
theorem Ms {v:V} (h:A6 v=true):v.av.cells.any DT=true:=by
 cases v with
 |tup l=>cases h
 |v x=>
  cases x with
  |cl c=>rw[zu];have h: [c].any H8=true:=h;rw[<-Es] at h;exact h
  |agg cs=>have h:cs.any H8=true:=h;rw[<-Es] at h;exact h
  |fn f cs=>cases h
theorem Mt {v:V} (h:v.av.cells.any DT=true):A6 v=true:=by
 cases v with
 |tup l=>cases h
 |v x=>
  cases x with
  |cl c=>rw[zu] at h;show [c].any H8=true;rw[<-Es];exact h
  |agg cs=>show cs.any H8=true;rw[<-Es];exact h
  |fn f cs=>cases h
theorem Bp: ∀ (ets:List (Option Ty)) (cs:List Cl) (xs:List C),nz ets cs=some xs->cs.length=ets.length/\Cx (ets.map fun |some e=>e.width|none=>0) (cs.map Cl.av)=some (xs.map C.tree)
 | [],[],xs,h=>by simp only[nz,af] at h; subst h; exact⟨rfl,rfl⟩
 |et::ets, .c x::cs,xs,h=>by
  have h: (match nz ets cs with |some r=>some (x::r)|none=>none)=some xs:=by cases et<;>exact h
  split at h
  ·rename_i r hr;simp only[af] at h;subst h;obtain⟨h1,h2⟩:=Bp ets cs r hr;refine⟨by simp[h1],?_⟩;simp only[aV,Cx];have : ∀s,Rm s (Cl.av (.c x))=some x.tree:=fun s=>by cases x<;>rfl
   rw[this,h2];rfl
  ·cases h
 |some t::ets, .em::cs,xs,h=>by
  simp only[nz] at h;split at h
  ·rename_i r hr;simp only[af] at h;subst h;obtain⟨h1,h2⟩:=Bp ets cs r hr;refine⟨by simp[h1],?_⟩;simp only[aV,Cx,h2];rfl
  ·cases h
 | [],_::_,xs,h=>by simp[nz] at h
 | _::_,[],xs,h=>by simp[nz] at h
 |none::ets, .em::cs,xs,h=>by simp[nz] at h
 | _::ets, .own _ _ _ _ _::cs,xs,h=>by simp[nz] at h
 | _::ets, .pro _::cs,xs,h=>by simp[nz] at h
 | _::ets, .ptrB _ _::cs,xs,h=>by simp[nz] at h
 | _::ets, .ptrT _ _ _ _::cs,xs,h=>by simp[nz] at h
 | _::ets, .dead::cs,xs,h=>by simp[nz] at h
theorem zw (el:Ty): ∀ (vs:List V) (l:List el.D),rU el vs=some l->l.length=vs.length/\t5 el.shs (vs.map fun v=>v.av.cells)=some (l.map el.row)/\ ∀v∈vs,v.av.cells.length=el.width/\v.av.isDead=false
 | [],l,h=>by simp only[rU,af] at h; subst h; exact⟨rfl,rfl,fun v hv=>by cases hv⟩
 | .v x::vs,l,h=>by
   simp only[rU] at h;split at h
   ·rename_i xs hx;split at h
    ·rename_i y ys hy hys;simp only[af] at h;subst h;obtain⟨h1,h2,h3⟩:=zw el vs ys hys;obtain⟨g1,g2⟩:=Bp _ _ _ hx
     have n1:x≠ .cl .dead:=fun e=>by
      subst e;have hx:nz el.csh [Cl.dead] =some xs:=hx
      grind [nz]
     have n2: ∀f cs,x≠ .fn f cs:=fun f cs e=>by
      subst e;have hx:nz el.csh [Cl.dead] =some xs:=hx
      grind [nz]
     obtain⟨hc,hd⟩:=Bn n1 n2
     have hw:el.csh.length=el.width:=by have:=wq el;unfold Ty.shs at this;simpa using this
     refine⟨by simp[h1],?_,fun v hv=> ?_⟩
     ·simp only[aV,t5,hc];rw[show el.shs=el.csh.map fun |some e=>e.width|none=>0 from rfl,g2];simp only[ae];rw[show (el.csh.map fun |some e=>e.width|none=>0)=el.shs from rfl,h2,el.row_flat,Ty.unflat_some _ _ _ hy];rfl
     grind
    ·cases h
   ·cases h
 | .tup _::vs,l,h=>by simp[rU] at h
theorem uq [dP] (hΘ:fS P Θ) (hY:kz P Y) (hS:S.ok) {o:Oper} {κ:V->TS->Option ρ} {r:ρ} (h:tM Θ Y S o κ=some r):
  ∃D v S',kv P D/\step D P S.st o=some (V.av v,TS.st S')/\S'.ok/\v.ok S'.gh/\κ v S'=some r:=by
 have ok: ∀x,(S.opd x).ok S.gh:=fun x=>mO hS x
 have vals:wk Θ S o κ=some r->(∀D:rg,step D P S.st o=(dZ D P S.st o).map fun v=>(v,S.st))-> ∃D v S',kv P D/\step D P S.st o=some (V.av v,TS.st S')/\S'.ok/\v.ok S'.gh/\κ v S'=some r:=by intro h he;obtain⟨v,S1,h1,h2,h3,h4,h5,h6⟩:=yx (D:=Ep) hΘ hS h;exact⟨Ep,v,S1,ik,by rw[he,h1,aH,h2],h3,by rw[h4]; exact h5,h6⟩
 obtain⟨dst,op,ty,pos,aft,gd⟩:=o;unfold tM at h;cases op with
 |alloc t=>
  simp only at h;split at h
  ·rename_i ti hti;refine⟨Ep,_,{ S with bx:=S.bx++ [ti.ty.zvs.map cC] },ik,?_,⟨hS.env,fun cs hcs c hc=> ?_⟩,?_,h⟩
   ·simp only[step,(hΘ _ _ hti).ze,aH];rw[Ic,Md];rfl
   ·rcases bf.1 hcs with h1|h1
    ·exact hS.bx cs h1 c hc
    grind [Me]
   ·trivial
  ·cases h
 |box t x=>
  have fin: ∀ (cs:List Cl),(∀c∈cs,c.ok S.gh)->step Ep P S.st ⟨dst, .box t x,ty,pos,aft,gd⟩=some (.ptrB S.bx.length 0,{ S.st with bx:=eT S.st.bx S.bx.length (some (cs.map Cl.av)),nb:=S.bx.length+1 })->κ (.v (.cl (.ptrB S.bx.length 0))) { S with bx:=S.bx++ [cs] } =some r->
    ∃D v S',kv P D/\step D P S.st ⟨dst, .box t x,ty,pos,aft,gd⟩=some (V.av v,TS.st S')/\S'.ok/\v.ok S'.gh/\κ v S'=some r:=by
   intro cs hcs h1 h2;refine⟨Ep, .v (.cl (.ptrB S.bx.length 0)),{ S with bx:=S.bx++ [cs] },ik,?_,⟨hS.env,fun cs' hcs' c hc=> ?_⟩,trivial,h2⟩
   ·rw[h1,Ic]; rfl
   ·rcases bf.1 hcs' with h3|h3
    ·exact hS.bx cs' h3 c hc
    grind
  simp only at h;split at h
  ·cases h
  ·rename_i c hnd hx;have hc:=ok x;rw[hx] at hc;refine fin [c] (fun c' hc'=>by simp only[aE] at hc'; subst hc'; exact hc) ?_ h;simp only[step,eg,hx];cases c with
   |dead=>exact absurd rfl hnd
   |c y=>cases y<;>rfl
   | _=>rfl
  ·rename_i cs hx;have hc:=ok x;rw[hx] at hc;refine fin cs hc ?_ h;simp only[step,eg,hx];rfl
  ·cases h
 |store t a x=>simp only at h;obtain⟨S1,h1,h2,h3,h⟩:=Mr hΘ hS (ok a) (ok x) h;refine⟨Ep,_,S1,ik,?_,h2,V.ok_dead _,h⟩;simp only[step,eg,h1,aH];rfl
 |makeSlice t l c=>
  simp only at h;split at h
  ·rename_i ti hti;split at h
   ·rename_i el he;obtain⟨elT',g1,g2,g3,g4,g5,g6⟩:=(hΘ _ _ hti).el el he;obtain⟨n,h1,h⟩:=td h;obtain⟨m,h2,h⟩:=td h;split at h
    ·rename_i z hz;obtain⟨hb,h⟩:=eY h;have hz':=Ty.unflat_some _ _ _ hz
     have hzr:el.row z=List.zipWith zc el.shs el.zvs:=by rw[el.row_flat,hz',Bo]
     refine⟨Ep,_,{ S with gh:=S.gh++ [some ⟨el,List.replicate n.toNat z,none⟩] },ik,?_,TS.ok_gh hS (iA.app _ _),?_,h⟩
     ·simp only[step,g1,ae,eg,h1,h2];rw[xd g2 g5 g6];simp only[ae]
      have hn:n<=n*(ti.el:Int):=by
       have h1e: (1:Int)<=ti.el:=by omega
       have:=cP h1e hb.1
       rwa [Int.mul_one] at this
      rw[if_pos ⟨hb.1,hb.2.1,by rw[g3,Int.mul_comm]; exact hb.2.2,Int.le_trans hn hb.2.2⟩];rw[Bd,g2];simp only[eB.tree,List.map_replicate,hzr];rfl
     ·refine⟨by simp,fun _=>⟨rfl,rfl,fun tr htr=> ?_⟩⟩;rw[ky,if_pos rfl] at htr;cases htr;simp
    ·cases h
   ·cases h
  ·cases h
 |buildSlice t len parts=>
  simp only at h;split at h
  ·rename_i ti hti;split at h
   ·rename_i el he;obtain⟨elT',g1,g2,g3,g4,g5,g6⟩:=(hΘ _ _ hti).el el he;obtain⟨hb,h⟩:=dX h;simp only[al] at hb;have hb1:len*el.width<=1048576:=ar hb.1;have hb2:=Er hb.2
    have hpl:parts.toList.length=len:=by have:=congrArg List.length hb2;simpa using this
    cases hro: (parts.toList.map fun x=>S.opd x.2).any A6 with
    |true=>
     rw[hro] at h;simp only[cond_true] at h;split at h
     ·rename_i l hl;obtain⟨m1,m2,m3⟩:=zw el _ l hl;refine⟨Ep, .v (.cl (.c (.ls el l))),S,ik,?_,hS,trivial,h⟩;simp only[step,g1,ae]
      rw[if_pos ⟨by rw[g2]; exact hb1,hb2,by rw[g2]; exact el.width_pos,by rw[g6]; rfl,by
       rw[ax];intro y hy;obtain⟨q1,q2⟩:=m3 (S.opd y.2) (aJ.2 ⟨y,hy,rfl⟩)
       simp_all [eg]⟩]
      have e1: (parts.toList.any fun x=>(opd S.st x.2).cells.any DT)=true:=by rw[cb] at hro ⊢;obtain⟨v,hv,hr⟩:=hro;obtain⟨x,hx,rfl⟩:=aJ.1 hv;exact⟨x,hx,by rw[eg]; exact Ms hr⟩
      have e2: (parts.toList.map fun x=>(opd S.st x.2).cells)=(parts.toList.map fun x=>S.opd x.2).map fun v=>v.av.cells:=by rw[bF];exact aI fun x _=>by simp only[Function.comp,eg]
      rw[if_pos e1,e2,g5,m2,g2];rfl
     ·cases h
    |false=>
    rw[hro] at h;simp only[cond_false] at h;split at h
    ·rename_i l S1 hp
     have hvok: ∀v∈parts.toList.map (fun x=>S.opd x.2),v.ok S.gh:=fun v hv=>by grind
     have hR: ∀ (m:Nat) (v:V),(parts.toList.map fun x=>S.opd x.2)[m]? =some v->(parts.toList.map fun x=>(opd S.st x.2).cells.map T.ofSc)[0+m]? =some (v.av.cells.map T.ofSc):=by intro m v hm;rw[aR,ap];rw[ap] at hm;simp only[ak] at hm;obtain⟨y,hy,rfl⟩:=hm;rw[hy];simp only[aH,eg]
     obtain⟨m1,m2,m3,m4⟩:=KL el S.gh.length (S.gh.length+1) _ 0 S S1 l _ hS rfl hvok hp (by simp) hR;have hlen:l.length=len:=by rw[m2]; simp[hpl]
     refine⟨Ep,_,{ S1 with gh:=S1.gh++ [some ⟨el,l,none⟩] },ik,?_,TS.ok_gh m1.ok (iA.app _ _),?_,h⟩
     ·simp only[step,g1,ae]
      rw[if_pos ⟨by rw[g2]; exact hb1,hb2,by rw[g2]; exact el.width_pos,by rw[g6]; rfl,by
       rw[ax];intro y hy;obtain⟨q1,q2⟩:=m3 (S.opd y.2) (aJ.2 ⟨y,hy,rfl⟩)
       simp_all [eg]⟩]
      have hfold:=Gx S.gh.length el.shs (opd S.st) parts.toList (parts.toList.map fun x=>S.opd x.2) 0 (S.with S.gh.length (S.gh.length+1) el.width (parts.toList.map fun x=>(opd S.st x.2).cells.map T.ofSc)) (by rw[hb2,hpl,ci]) (by grind [List.map_congr_left,eg])
      have e0: (parts.toList.any fun x=>(opd S.st x.2).cells.any DT)=false:=by rw[List.any_eq_false] at hro ⊢;intro x hx;have:=hro (S.opd x.2) (aJ.2 ⟨x,hx,rfl⟩);rw[eg];exact fun hc=>this (Mt hc)
      rw[if_neg (by rw[e0]; decide)]
      have hX: ({ S.st with gh:=eT S.st.gh S.st.ng (some (.sl (P.cellsOf elT') (parts.toList.map fun x=>(opd S.st x.2).cells.map T.ofSc))),ng:=S.st.ng+1 }:St)=S.with S.gh.length (S.gh.length+1) el.width (parts.toList.map fun x=>(opd S.st x.2).cells.map T.ofSc):=by rw[g2]; rfl
      rw[hX,g5];have hng:S.st.ng=S.gh.length:=rfl;rw[hng]
      have hres: (if (el.shs.all (· ==0))=true then some (S.with S.gh.length (S.gh.length+1) el.width (parts.toList.map fun x=>(opd S.st x.2).cells.map T.ofSc)) else
        parts.toList.foldlM (fun S' x=>fi S' ⟨S.gh.length,[]⟩ x.1 0 el.shs (opd S.st x.2).cells) (S.with S.gh.length (S.gh.length+1) el.width (parts.toList.map fun x=>(opd S.st x.2).cells.map T.ofSc)))=some (S1.with S.gh.length (S.gh.length+1) el.width (l.map el.row)):=by
       rw[hfold];simp only[cQ,aY] at m4;rw[m4];split
       ·rename_i hfl
        have : ∀ (vs:List V) (k:Nat) (X:St),uo S.gh.length el.shs k vs X=some X:=by
         intro vs
         induction vs with
         |nil=>intro k X; rfl
         |cons v vs ih=>grind [uo,CL]
        rw[this] at m4;exact m4
       ·rfl
      rw[hres];simp only[aH];rw[Bd,m1.len,g2];simp only[V.av,V1.av,Cl.av,hlen];rfl
     ·refine⟨by simp,fun _=>⟨rfl,rfl,fun tr htr=> ?_⟩⟩;rw[ky,if_pos rfl] at htr;cases htr;rfl
    ·cases h
   ·cases h
  ·cases h
 |call c=>
  obtain⟨cl,as,ts⟩:=c;cases cl with
  |value f=>simp only at h;exact Mi hΘ hY hS h
  |invoke a b=>exact vals h (fun D=>rfl)
  |builtin b=>
   cases b with
   |append=>
    simp only at h;split at h
    ·rename_i s x t t' e1 e2;cases htb:Nat.beq t t' with
     |false=>
      rw[htb] at h;simp only[cond_false] at h;have hne: ¬t=t':=fun e=>by rw[e,cN] at htb; cases htb
      unfold PM at h;split at h
      ·rename_i ti hti;split at h
       ·rename_i el he hs;obtain⟨elT',g1,g2,g3,g4,g5,g6⟩:=(hΘ _ _ hti).el el he;obtain⟨n,h1,h⟩:=td h;split at h
        ·rename_i z hz;obtain⟨hb,h⟩:=eY h;have hz':=Ty.unflat_some _ _ _ hz
         have hzr:el.row z=List.zipWith zc el.shs el.zvs:=by rw[el.row_flat,hz',Bo]
         obtain⟨kk,hkk⟩:=OA h1;refine⟨Ep,_,{ S with gh:=S.gh++ [some ⟨el,List.replicate n.toNat z,none⟩] },ik,?_,TS.ok_gh hS (iA.app _ _),?_,h⟩
         ·simp only[step,e1,e2,if_neg hne,g1,ae];rw[xd g2 g5 g6];simp only[ae,eg,hs,hkk]
          have hn:n<=n*(ti.el:Int):=by
           have h1e: (1:Int)<=ti.el:=by omega
           have:=cP h1e (Int.le_of_lt hb.1)
           rwa [Int.mul_one] at this
          show (if 0<n/\_ then _ else _)=_;rw[if_pos ⟨hb.1,by rw[g3,Int.mul_comm]; exact hb.2,Int.le_trans hn hb.2,by rw[g2]; exact el.width_pos⟩];rw[Bd,g2];simp only[eB.tree,List.map_replicate,hzr];rfl
         ·refine⟨by simp,fun _=>⟨rfl,rfl,fun tr htr=> ?_⟩⟩;rw[ky,if_pos rfl] at htr;cases htr;simp
        ·cases h
       ·cases h
      ·cases h
     |true=>
     rw[htb] at h;simp only[cond_true] at h;have h':=h;have ht:t=t':=ao htb;clear h;subst ht;have e1:as= #[s,x] :=by apply Array.ext'; simpa using e1
     have e2:ts= #[t,t] :=by apply Array.ext'; simpa using e2
     subst e1 e2;obtain⟨v,S1,h1,h2,h3,h4⟩:=Ow (D:=Ep) (dst:=dst) (ty:=ty) (pos:=pos) (aft:=aft) (gd:=gd) hΘ hS h'
     grind [ik]
    ·cases h
   | _=>exact vals h (fun D=>rfl)
 |convert s d x=>
  simp only at h;split at h
  ·rename_i p sz lo len wh hx;split at h
   ·rename_i si di hsi hdi;split at h
    ·rename_i hs8 hds;obtain⟨t,l,g1,g0,h⟩:=gz h;clear g0;unfold Rs at h;split at h
     ·rename_i l;obtain⟨hb,h⟩:=dX h;have hb:sz=1:=ao hb;subst hb;unfold iteP at h;split at h
      ·rename_i hc;obtain⟨u,u1,u2,_⟩:=(hΘ _ _ hsi).el _ hs8;have u8:=(hΘ _ _ hsi).el8 _ _ hs8 u1;have hd:x0 P d=true:=by rw[(hΘ _ _ hdi).str,hds]
       refine⟨Ep,_,S,ik,?_,hS,V.ok_sc _ _,h⟩
       have hrows:S.st.rows p 1=some (l.map (Ty.row (.i .u8))):=by unfold St.rows;rw[g1];rfl
       have hbt:t6 (((l.map (Ty.row (.i .u8))).drop lo).take len)=some ((l.drop lo).take len):=by
        rw[<-cH,<-cq];generalize (l.drop lo).take len=m
        induction m with
        |nil=>rfl
        |cons n m ih=>simp_all [t6,Ty.row]
       have ex:opd S.st x= .own p 1 lo len:=by rw[eg,hx]; rfl
       simp only[step,ex,u1,ae];rw[if_pos ⟨by unfold P9; rw[u8],hd,by first |exact trivial|exact rfl,hc.1⟩,hrows];simp only[ae];rw[if_pos (by rw[aK]; exact hc.2),hbt];rfl
      ·cases h
     ·cases h
    ·cases h
   ·cases h
  ·rename_i hno;refine vals h (fun D=> ?_);simp only[step];split
   ·rename_i p sz lo len he;exfalso;rw[eg] at he;cases hv:S.opd x with
    |v y=>
     cases y with
     |cl c=>
      cases c with
      |own p' sz' lo' len' w=>exact hno _ _ _ _ _ hv
      |c y=>rw[hv] at he; cases y<;>cases he
      | _=>rw[hv] at he; cases he
     | _=>rw[hv] at he; cases he
    | _=>rw[hv] at he; cases he
   ·rfl
 | _=>exact vals h (fun D=>rfl)
end
end
end Go.Proofs.YtadabkgmdllbfaaGreat.En
