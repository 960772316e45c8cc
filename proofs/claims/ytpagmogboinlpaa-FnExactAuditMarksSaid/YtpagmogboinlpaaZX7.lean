import Derived.Test.YtpagmogboinlpaaZX6
namespace Go.Proofs.Ytpagmogboinlpaa.En
section
open Go
theorem dz {α β:Type} {P:Program} (s:Sem α) (f:α->Sem β):dA P (s >>=f)=(dA P s).bind fun a=>dA P (f a):=by
 show dA P (s.bind f)=_
 induction s with
 |pure a=>rfl
 |program k ih=>exact ih P
 | _=>rfl
theorem dG {α:Type} {P:Program} (a:α):dA P (pure a)=some a:=rfl
theorem lE: ∀ {zs:List Value} {a:List Cl},fP zs a=true-> ∃xs:List Value,a=xs.map (fun x=>Cl.c (.sc x))
 | [],[],_=>⟨[],rfl⟩
 | .int k n::zs,a,h=>by
   unfold fP at h;split at h
   ·rename_i heq;cases heq
   ·rename_i k1 n1 zs1 k2 n2 cs h1;have hd:=h;cases hk:decide (k1=k2) with
    |false=>rw[hk] at h; cases h
    |true=>rw[hk] at h;obtain⟨xs,hx⟩:=lE (zs:=zs1) (a:=cs) h;exact⟨.int k2 n2::xs,by rw[hx]; rfl⟩
   ·rename_i b1 zs1 b2 cs h1;cases h1
   ·cases h
 | .bool b::zs,a,h=>by
   unfold fP at h;split at h
   ·rename_i heq;cases heq
   ·rename_i h1;cases h1
   ·rename_i b1 zs1 b2 cs h1;obtain⟨xs,hx⟩:=lE (zs:=zs1) (a:=cs) h;exact⟨.bool b2::xs,by rw[hx]; rfl⟩
   ·cases h
 | .float _ _::_,_,h=>by simp[fP] at h
 | .complex _ _ _::_,_,h=>by simp[fP] at h
 | .string _::_,_,h=>by simp[fP] at h
 | .pointer _::_,_,h=>by simp[fP] at h
 | .slice _ _ _::_,_,h=>by simp[fP] at h
 | .map _::_,_,h=>by simp[fP] at h
 | .chan _::_,_,h=>by simp[fP] at h
 | .func _ _ _::_,_,h=>by simp[fP] at h
 | .nilFunc::_,_,h=>by simp[fP] at h
 | .iface _ _::_,_,h=>by simp[fP] at h
 | .nilIface::_,_,h=>by simp[fP] at h
 | .agg _::_,_,h=>by simp[fP] at h
 | .tuple _::_,_,h=>by simp[fP] at h
 | [],_::_,h=>by simp[fP] at h
theorem wq (f:AV->Option Value) (hf: ∀v,f (.sc v)=some v): ∀xs:List Value,((xs.map fun x=>Cl.c (.sc x)).map Cl.av).mapM f=some xs
 | [] =>rfl
 |x::xs=>by simp only[aL,cG,wq f hf xs];show (f (.sc x)).bind _=_;rw[hf];rfl
theorem wr (xs:List Value):km (V.v (.agg (xs.map fun x=>Cl.c (.sc x)))).av=some (.agg xs.toArray):=by simp only[V.av,V1.av,km];rw[wq _ (fun _=>rfl)];rfl
theorem dV {P:Program} {t:TypeId} {d:TypeDesc} (h:P.underlying t=some d):dA P (underlying t)=some d:=by simp only[underlying,dz,program,dA,ai,h];rfl
section
variable {ρ:Type} {P:Program} {Θ:iC} {S:TS}
theorem yG (hΘ:en P Θ) {t:TypeId} {x y:V} {κ:Bool->Option ρ} {r:ρ} (h:CA Θ t x y κ=some r):
  ∃b,κ b=some r/\((∃k a c,x.av= .sc (.int k a)/\y.av= .sc (.int k c)/\b=(a==c))\/
   ((∀k a k' c,¬ (x.av= .sc (.int k a)/\y.av= .sc (.int k' c)))/\ ∃xv yv,km x.av=some xv/\km y.av=some yv/\(∀op xo yo,dA P (eqGuard op t xo yo xv yv)=some ())/\dA P (binOp .eql t xv yv)=some (.bool b)/\dA P (binOp .neq t xv yv)=some (.bool (!b)))):=by
 unfold CA at h;split at h
 ·rename_i k a k' c;split at h
  ·rename_i hk;subst hk;exact⟨_,h, .inl ⟨k,a,c,rfl,rfl,rfl⟩⟩
  ·cases h
 ·rename_i a c;split at h
  ·rename_i ti hti;split at h
   ·rename_i hb;have hu:=(hΘ _ _ hti).bool hb
    have hE:dA P (Op.equal t (.bool a) (.bool c))=some (a==c):=by show dA P (Op.equalIn (9999+1) t (.bool a) (.bool c))=_;rw[Op.equalIn];simp only[dz,dV hu,ai,dG]
    refine⟨_,h, .inr ⟨fun k a k' c hc=>by simp[V.av,V1.av,Cl.av,C.av] at hc, .bool a, .bool c,rfl,rfl,fun op xo yo=> ?_,?_,?_⟩⟩
    ·cases op<;>simp[eqGuard,dG]<;>rfl
    ·simp only[binOp,dz,hE,ai,dG]
    ·simp only[binOp,dz,hE,ai,dG]
   ·cases h
  ·cases h
 ·rename_i a c;split at h
  ·rename_i ti hti;obtain⟨h1,h'⟩:=dt h;simp only[an] at h1;obtain⟨⟨⟨h1,hfl⟩,h2⟩,h3⟩:=h1;split at h'
   ·rename_i b hb;obtain⟨xs,hx⟩:=lE h2;obtain⟨ys,hy⟩:=lE h3;have hok:=hΘ _ _ hti;have hE:=hok.eq h1 a c b xs ys h2 h3 hb hx hy;have hg:=hok.gu h1 hfl;refine⟨_,h', .inr ⟨fun k a k' c hc=>by simp[V.av,V1.av] at hc, .agg xs.toArray, .agg ys.toArray,by rw[hx]; exact wr xs,by rw[hy]; exact wr ys,fun op xo yo=> ?_,?_,?_⟩⟩
    ·cases op<;>simp[eqGuard,dz,dG,program,dA,hg]
    ·simp only[binOp,dz,hE,ai,dG]
    ·simp only[binOp,dz,hE,ai,dG]
   ·cases h'
  ·cases h
 ·cases h
theorem gT {f:IntKind->Int->Int->Option ρ} {x y:V} {r:ρ} (h:V.ints f x y=some r): ∃k a b,x.av= .sc (.int k a)/\y.av= .sc (.int k b)/\f k a b=some r:=by
 unfold V.ints at h;split at h
 ·split at h
  ·rename_i k a k' b hk;subst hk;exact⟨k,a,b,rfl,rfl,h⟩
  ·cases h
 ·cases h
theorem AD (hΘ:en P Θ) {D:ju} {op:BinOp} {t t':TypeId} {x y:Operand} {κ:V->Option ρ} {r:ρ} (h:B6 Θ op t (S.opd x) (S.opd y) κ=some r) {dst:Option Tmp} {ty:TypeId} {pos:String} {aft:Array Edge} {gd:Option (Nat×Bool)}:
  ∃v:V,du D P S.st ⟨dst, .binOp op t x y t',ty,pos,aft,gd⟩=some v.av/\(∀G,v.ok G)/\κ v=some r:=by
 have eqs: ∀ (b:Bool) (xv yv:Value),km (opd S.st x)=some xv->km (opd S.st y)=some yv->dA P (eqGuard op t x y xv yv)=some ()->dA P (binOp op t xv yv)=some (.bool b)->
   dE P S.st ⟨dst, .binOp op t x y t',ty,pos,aft,gd⟩=some (.sc (.bool b)):=by
  intro b xv yv h1 h2 h3 h4;unfold dE;rw[if_pos (by simp[Op.operands,h1,h2])];simp only[execOp,h1,h2,aJ,dz,h3,h4,ai,dG,Dp,it,if_true]
 cases op with
 |lss=>obtain⟨k,a,b,h1,h2,h3⟩:=gT h; exact⟨_,by simp only[du,dw,h1,h2,if_true]; rfl,fun G=>V.ok_sc G _,h3⟩
 |leq=>obtain⟨k,a,b,h1,h2,h3⟩:=gT h; exact⟨_,by simp only[du,dw,h1,h2,if_true]; rfl,fun G=>V.ok_sc G _,h3⟩
 |gtr=>obtain⟨k,a,b,h1,h2,h3⟩:=gT h; exact⟨_,by simp only[du,dw,h1,h2,if_true]; rfl,fun G=>V.ok_sc G _,h3⟩
 |geq=>obtain⟨k,a,b,h1,h2,h3⟩:=gT h; exact⟨_,by simp only[du,dw,h1,h2,if_true]; rfl,fun G=>V.ok_sc G _,h3⟩
 |add=>obtain⟨k,a,b,h1,h2,h3⟩:=gT h; exact⟨_,by simp only[du,dw,h1,h2,if_true]; rfl,fun G=>V.ok_sc G _,h3⟩
 |sub=>obtain⟨k,a,b,h1,h2,h3⟩:=gT h; exact⟨_,by simp only[du,dw,h1,h2,if_true]; rfl,fun G=>V.ok_sc G _,h3⟩
 |mul=>obtain⟨k,a,b,h1,h2,h3⟩:=gT h; exact⟨_,by simp only[du,dw,h1,h2,if_true]; rfl,fun G=>V.ok_sc G _,h3⟩
 |eql=>
  have h':CA Θ t (S.opd x) (S.opd y) (fun r=>κ (V.sc (.bool r)))=some r:=h;obtain⟨b,h1,h2⟩:=yG hΘ h';refine⟨_,?_,fun G=>V.ok_sc G _,h1⟩;rcases h2 with ⟨k,a,c,e1,e2,rfl⟩| ⟨hn,xv,yv,e1,e2,e3,e4,e5⟩
  ·simp only[du,dw,e1,e2,if_true]; rfl
  ·simp only[du];split
   ·rename_i k a k' c g1 g2;exact absurd ⟨by rw[<-dw]; exact g1,by rw[<-dw]; exact g2⟩ (hn k a k' c)
   ·exact eqs b xv yv (by rw[dw]; exact e1) (by rw[dw]; exact e2) (e3 _ _ _) e4
 |neq=>
  have h':CA Θ t (S.opd x) (S.opd y) (fun r=>κ (V.sc (.bool (!r))))=some r:=h;obtain⟨b,h1,h2⟩:=yG hΘ h';refine⟨_,?_,fun G=>V.ok_sc G _,h1⟩;rcases h2 with ⟨k,a,c,e1,e2,rfl⟩| ⟨hn,xv,yv,e1,e2,e3,e4,e5⟩
  ·simp only[du,dw,e1,e2,if_true]; rfl
  ·simp only[du];split
   ·rename_i k a k' c g1 g2;exact absurd ⟨by rw[<-dw]; exact g1,by rw[<-dw]; exact g2⟩ (hn k a k' c)
   ·exact eqs (!b) xv yv (by rw[dw]; exact e1) (by rw[dw]; exact e2) (e3 _ _ _) e5
 |quo=>
  have h':V.ints (fun k a b=>if b=0 then none else κ (V.sc (.int k (k.wrap (a.tdiv b))))) (S.opd x) (S.opd y)=some r:=h;obtain⟨k,a,b,h1,h2,h3⟩:=gT h';split at h3
  ·cases h3
  ·rename_i hb;refine⟨_,?_,fun G=>V.ok_sc G _,h3⟩;have hx:km (opd S.st x)=some (.int k a):=by rw[dw,h1]; rfl
   have hy:km (opd S.st y)=some (.int k b):=by rw[dw,h2]; rfl
   simp only[du];unfold dE;rw[if_pos (by simp[Op.operands,hx,hy])]
   have e:dA P (binOp .quo t (.int k a) (.int k b))=some (.int k (k.wrap (a.tdiv b))):=by simp only[binOp,ne_eq,not_true,if_false,Op.intDiv,if_neg hb,dG]
   have e2:dA P (execOp (fun x=>(km (opd S.st x)).getD undef) ⟨dst, .binOp .quo t x y t',ty,pos,aft,gd⟩)=some (.value (.int k (k.wrap (a.tdiv b)))):=by show dA P (do pure (Next.value (<-(do eqGuard .quo t x y ((km (opd S.st x)).getD undef) ((km (opd S.st y)).getD undef); binOp .quo t ((km (opd S.st x)).getD undef) ((km (opd S.st y)).getD undef)))))=_;rw[hx,hy];have g:dA P (eqGuard .quo t x y (.int k a) (.int k b))=some ():=rfl;simp only[dz,aJ,g,e,ai,dG]
   rw[e2];rfl
 |rem=>
  have h':V.ints (fun k a b=>if b=0 then none else κ (V.sc (.int k (a.tmod b)))) (S.opd x) (S.opd y)=some r:=h;obtain⟨k,a,b,h1,h2,h3⟩:=gT h';split at h3
  ·cases h3
  ·rename_i hb;refine⟨_,?_,fun G=>V.ok_sc G _,h3⟩;have hx:km (opd S.st x)=some (.int k a):=by rw[dw,h1]; rfl
   have hy:km (opd S.st y)=some (.int k b):=by rw[dw,h2]; rfl
   simp only[du];unfold dE;rw[if_pos (by simp[Op.operands,hx,hy])]
   have e:dA P (binOp .rem t (.int k a) (.int k b))=some (.int k (a.tmod b)):=by simp only[binOp,ne_eq,not_true,if_false,Op.intDiv,if_neg hb,dG]
   have e2:dA P (execOp (fun x=>(km (opd S.st x)).getD undef) ⟨dst, .binOp .rem t x y t',ty,pos,aft,gd⟩)=some (.value (.int k (a.tmod b))):=by show dA P (do pure (Next.value (<-(do eqGuard .rem t x y ((km (opd S.st x)).getD undef) ((km (opd S.st y)).getD undef); binOp .rem t ((km (opd S.st x)).getD undef) ((km (opd S.st y)).getD undef)))))=_;rw[hx,hy];have g:dA P (eqGuard .rem t x y (.int k a) (.int k b))=some ():=rfl;simp only[dz,aJ,g,e,ai,dG]
   rw[e2];rfl
 | _=>simp[B6] at h
end
end
section
open Go
theorem um {G:List (Option dI)}: ∀ (l:List V) (cs:List Cl),(∀v∈l,v.ok G)->t8 l=some cs->l.map V.av=cs.map Cl.av/\ ∀c∈cs,c.ok G
 | [],cs,_,h=>by simp only[t8,ae] at h;subst h;exact⟨rfl,fun c hc=>by cases hc⟩
 |v::l,cs,hl,h=>by
  unfold t8 at h;split at h
  ·rename_i heq; cases heq
  ·rename_i c l' heq;cases heq;split at h
   ·rename_i r hr;simp only[ae] at h;subst h;obtain⟨h1,h2⟩:=um l r (fun v hv=>hl v (aA _ hv)) hr;refine⟨by simp only[aL,h1]; rfl,fun x hx=> ?_⟩;rcases aV.1 hx with rfl|hx
    ·exact hl _ aD
    ·exact h2 x hx
   ·cases h
  ·cases h
section
variable {ρ:Type} {P:Program} {Θ:iC} {S:TS} {D:ju}
theorem qV (hΘ:en P Θ) (hS:S.ok) {o:Oper} {κ:V->TS->Option ρ} {r:ρ} (h:pA Θ S o κ=some r):
  ∃v S',du D P S.st o=some v.av/\S'.st=S.st/\S'.ok/\S'.gh=S.gh/\v.ok S.gh/\κ v S'=some r:=by
 have ok: ∀x,(S.opd x).ok S.gh:=fun x=>fW hS x;have done: ∀ {v:V},du D P S.st o=some v.av->v.ok S.gh->κ v S=some r-> ∃v S',du D P S.st o=some v.av/\S'.st=S.st/\S'.ok/\S'.gh=S.gh/\v.ok S.gh/\κ v S'=some r:=fun h1 h2 h3=>⟨_,S,h1,rfl,hS,rfl,h2,h3⟩
 obtain⟨dst,op,ty,pos,aft,gd⟩:=o;unfold pA at h;cases op with
 |move x=>exact done (by simp only[du,dw]) (ok x) h
 |assign x=>exact done (by simp only[du,dw]) (ok x) h
 |pick c a b=>
  simp only at h;obtain⟨t,S1,h1,h2,h3,h4,h⟩:=pG hS h;cases t with
  |true=>exact⟨_,S1,by simp only[du,h1,if_true]; rw[<-h2,dw],h2,h3,h4,by rw[<-h4]; exact fW h3 _,h⟩
  |false=>exact⟨_,S1,by simp only[du,h1,aO,if_false]; rw[<-h2,dw],h2,h3,h4,by rw[<-h4]; exact fW h3 _,h⟩
 |load t a=>simp only at h;obtain⟨u,h1,h2,h⟩:=ul hΘ hS (ok a) h;exact done (by simp only[du,dw]; exact h1) h2 h
 |nilCheck x=>
  simp only at h;split at h<;>rename_i hx
  ·exact done (by simp only[du,dw,hx]; rfl) (by rw[<-hx]; exact ok x) h
  ·exact done (by simp only[du,dw,hx]; rfl) (by rw[<-hx]; exact ok x) h
  ·exact done (by simp only[du,dw,hx]; rfl) (by rw[<-hx]; exact ok x) h
  ·exact done (by simp only[du,dw,hx]; rfl) (by rw[<-hx]; exact ok x) h
  ·exact done (by simp only[du,dw,hx]; rfl) (by rw[<-hx]; exact ok x) h
  ·cases h
 |fieldAddr t x k=>
  simp only at h;split at h
  ·rename_i ti hti;split at h
   ·rename_i off n ag hk;have hfd:=(hΘ _ _ hti).fd k;rw[hk] at hfd;cases hn:Nat.beq n 0 with
    |true=>rw[hn] at h; cases h
    |false=>
     rw[hn] at h;have hn': ¬n=0:=by intro h0; subst h0; cases hn
     simp only[cond_false] at h;split at h<;>rename_i hx
     ·refine done ?_ ?_ h
      ·simp only[du,hfd,ai,dw,hx];rw[if_neg hn'];rfl
      ·trivial
     ·refine done ?_ ?_ h
      ·simp only[du,hfd,ai,dw,hx];rw[if_neg hn'];rfl
      ·have:=ok x;rw[hx] at this;exact this
     ·refine done ?_ ?_ h
      ·simp only[du,hfd,ai,dw,hx];rw[if_neg hn'];simp[V.av,V1.av,Cl.av,bJ]
      ·trivial
     ·cases h
   ·cases h
  ·cases h
 |field t x k=>
  simp only at h;split at h
  ·rename_i ti hti;split at h
   ·rename_i off n ag hk;have hfd:=(hΘ _ _ hti).fd k;rw[hk] at hfd;split at h
    ·rename_i cs hx;obtain⟨h1,h⟩:=dt h;simp only[an] at h1;have h2:off+n<=cs.length:=aw h1.1;have h3:0<n:=aw h1.2;have hcs:=ok x;rw[hx] at hcs;obtain⟨v,h4,h5,h⟩:=yE (G:=S.gh) (fun c hc=>hcs c (bg (bI hc))) h;refine done ?_ h5 h;simp only[du,hfd,ai,dw,hx,V.av,V1.av,ax];rw[if_pos ⟨h2,h3⟩,<-bJ,<-bC];exact h4
    ·cases h
   ·cases h
  ·cases h
 |indexAddr t x ix=>
  simp only at h;split at h
  ·rename_i ti hti;split at h
   ·rename_i e he;obtain⟨el,g1,g2,_⟩:=(hΘ _ _ hti).el e he;obtain⟨i,h1,h⟩:=m0 h;split at h
    ·rename_i a hx;have ha:=ok x;rw[hx] at ha;obtain⟨c,h2,h3,h⟩:=Az ha h;refine done ?_ ?_ h
     ·simp only[du,g1,ai,dw,h1,hx,g2];exact h2
     ·exact h3
    ·cases h
   ·cases h
  ·cases h
 |build t parts=>
  simp only at h;split at h
  ·rename_i ti hti;obtain⟨h1,h⟩:=dt h;split at h
   ·rename_i cs hcs;have hok:=hΘ _ _ hti
    obtain⟨g1,g2⟩:=AB (G:=S.gh) _ _ _ _ (fun c hc=>by
     obtain⟨v,_,rfl⟩:=aG.1 hc;exact wn _ _) (fun y hy=>by
     obtain⟨z,_,rfl⟩:=aG.1 hy;exact ok z.2) hcs
    refine done ?_ ?_ h
    ·simp only[du,hok.pl h1,hok.ze,ai]
     have e1:ti.ty.zvs.map oL=(ti.ty.zvs.map cC).map Cl.av:=by rw[be];exact aF fun v _=>(iL v).symm
     have e2:parts.toList.map (fun x=>(x.1,opd S.st x.2))=(parts.toList.map fun x=>(x.1,S.opd x.2)).map fun x=>(x.1,x.2.av):=by rw[be];exact aF fun x _=>by simp[dw]
     rw[e1,e2,g1];rfl
    ·exact g2
   ·cases h
  ·cases h
 |slice t x lo hi mx=>
  cases mx with
  |some m=>simp at h
  |none=>
   simp only at h;split at h
   ·rename_i ti hti;split at h
    ·rename_i e he;obtain⟨el,g1,g2,_⟩:=(hΘ _ _ hti).el e he;split at h
     ·rename_i a hx;have ha:=ok x;rw[hx] at ha;obtain⟨n,h1,h⟩:=wo ha h;obtain⟨l,h2,h⟩:=qU h;obtain⟨m,h3,h⟩:=qU h;obtain⟨c,h4,h5,h⟩:=AA ha h;refine done ?_ ?_ h
      ·simp only[du,dw,hx];split
       ·rename_i s hs;have hs':a.av= .sc (.string s):=hs;rw[hs'] at h1;cases h1
       ·show (lQ P t).bind _=_;rw[g1];simp only[ai];show (kJ a.av).bind _=_;rw[h1];simp only[ai,h2,h3,g2];exact h4
      ·exact h5
     ·cases h
    ·cases h
   ·cases h
 |extract x k=>
  simp only at h;split at h
  ·rename_i vs hx;split at h
   ·rename_i v hv;have hvs:=ok x;rw[hx] at hvs;rw[ec] at hv;refine done ?_ ?_ h
    ·simp only[du,dw,hx,V.av,al,hv,ay]
    ·exact hvs v (ap hv)
   ·cases h
  ·cases h
 |makeFunc fn first caps=>
  cases fn with
  |func f=>
   simp only at h;obtain⟨h1,h⟩:=dt h;split at h
   ·rename_i cs hcs
    obtain⟨g1,g2⟩:=um (G:=S.gh) _ _ (fun v hv=>by obtain⟨y,_,rfl⟩:=aG.1 hv;exact ok y) hcs
    refine done ?_ ?_ h
    ·simp only[du,h1,if_true]
     have e:caps.toList.map (opd S.st)=(caps.toList.map S.opd).map V.av:=by rw[be];exact aF fun x _=>dw x
     rw[e,g1];rfl
    ·exact g2
   ·cases h
  | _=>simp at h
 |unOp op t x=>
  cases op with
  |not=>
   simp only at h;split at h
   ·rename_i b hx;refine done ?_ ?_ h
    ·simp only[du,dw,hx]; rfl
    ·trivial
   ·cases h
  | _=>simp at h
 |binOp op t x y t'=>simp only at h;obtain⟨v,h1,h2,h⟩:=AD (D:=D) (t':=t') (dst:=dst) (ty:=ty) (pos:=pos) (aft:=aft) (gd:=gd) hΘ h;exact done h1 (h2 _) h
 |call c=>
  obtain⟨cl,as,ts⟩:=c;cases cl with
  |value f=>simp at h
  |invoke a b=>simp at h
  |builtin b=>
   cases b with
   |cap=>
    simp only at h;split at h
    ·rename_i x t e1 e2;split at h
     ·rename_i ti hti;split at h
      ·rename_i e he;obtain⟨el,g1,g2,_⟩:=(hΘ _ _ hti).el e he;split at h
       ·rename_i hx;refine done ?_ ?_ h
        ·simp only[du,e1,e2,g1,Option.isSome_some,if_true,dw,hx];rfl
        ·trivial
       ·cases h
      ·cases h
     ·cases h
    ·cases h
   |len=>
    simp only at h;split at h
    ·rename_i x t e1 e2;split at h
     ·rename_i ti hti;split at h
      ·rename_i e he;obtain⟨el,g1,g2,_⟩:=(hΘ _ _ hti).el e he;split at h
       ·rename_i a hx;have ha:=ok x;rw[hx] at ha;obtain⟨n,h1,h⟩:=wo ha h;refine done ?_ ?_ h
        ·simp only[du,e1,e2,g1,Option.isSome_some,if_true,dw,hx];show (kJ a.av).map _=_;rw[h1];rfl
        ·trivial
       ·cases h
      ·cases h
     ·cases h
    ·cases h
   |max=>
    simp only at h;split at h
    ·rename_i x y e1;obtain⟨k,a,b,h1,h2,h⟩:=gT h;refine done ?_ (V.ok_sc _ _) h;simp only[du,e1,aL,bW,dw,h1,h2];rfl
    ·cases h
   |min=>
    simp only at h;split at h
    ·rename_i x y e1;obtain⟨k,a,b,h1,h2,h⟩:=gT h;refine done ?_ (V.ok_sc _ _) h;simp only[du,e1,aL,bW,dw,h1,h2];rfl
    ·cases h
   | _=>simp at h
 |convert s d x=>
  simp only at h;split at h
  ·rename_i si di hs hd;split at h
   ·rename_i k' hk;split at h
    ·rename_i k n hx;refine done ?_ (V.ok_sc _ _) h;have hud:=(hΘ _ _ hd).int _ hk
     obtain⟨ds,hus⟩: ∃ds,P.underlying s=some ds:=by
      have:=(hΘ _ _ hs).ag;unfold qd at this;cases hu:P.underlying s with
      |none=>rw[hu] at this; cases this
      |some ds=>exact⟨ds,rfl⟩
     have hxv:km (opd S.st x)=some (.int k n):=by rw[dw,hx]; rfl
     simp only[du];unfold dE;rw[if_pos (by simp[Op.operands,hxv])]
     have e:dA P (Go.convert s d (.int k n))=some (.int k' (k'.wrap n)):=by unfold Go.convert;simp only[dz,dV hus,dV hud,ai];cases ds<;>rfl
     have e2:dA P (execOp (fun x=>(km (opd S.st x)).getD undef) ⟨dst, .convert s d x,ty,pos,aft,gd⟩)=some (.value (.int k' (k'.wrap n))):=by show dA P (do pure (Next.value (<-Go.convert s d ((km (opd S.st x)).getD undef))))=_;rw[hxv];simp only[dz,aJ,e,ai,dG]
     rw[e2];rfl
    ·cases h
   ·cases h
  ·cases h
 |index t x ix=>
  simp only at h;split at h
  ·rename_i ti hti;split at h
   ·rename_i hs;split at h
    ·rename_i s k i hx hi;unfold dy at h;split at h
     ·rename_i h0;obtain⟨b,hb,h⟩:=aj.1 h;refine done ?_ (V.ok_sc _ _) h
      have hus:P.underlying t=some .string:=by
       have:=(hΘ _ _ hti).str;rw[hs] at this;unfold ry at this;split at this
       ·assumption
       ·cases this
      have hxv:km (opd S.st x)=some (.string s):=by rw[dw,hx]; rfl
      have hiv:km (opd S.st ix)=some (.int k i):=by rw[dw,hi]; rfl
      have hxa:opd S.st x= .sc (.string s):=by rw[dw,hx]; rfl
      simp only[du,hxa];unfold dE;rw[if_pos (by simp[Op.operands,hxv,hiv])]
      have e:dA P (Instr.index t (.string s) (.int k i))=some (.int .u8 b.toNat):=by unfold Instr.index;simp only[dz,asIntOf,dG,ai,dV hus];rw[if_pos h0,hb];rfl
      have e2:dA P (execOp (fun x=>(km (opd S.st x)).getD undef) ⟨dst, .index t x ix,ty,pos,aft,gd⟩)=some (.value (.int .u8 b.toNat)):=by show dA P (do pure (Next.value (<-Instr.index t ((km (opd S.st x)).getD undef) ((km (opd S.st ix)).getD undef))))=_;rw[hxv,hiv];simp only[dz,aJ,e,ai,dG]
      rw[e2];rfl
     ·cases h
    ·cases h
   ·cases h
  ·cases h
 | _=>simp at h
end
end
section
open Go
theorem fX {G:List (Option dI)} {x:Option dI} (r:Nat):ea (G++ [x]) r=if r=G.length then x else ea G r:=by
 unfold ea;rw[ec,ec];by_cases h:r=G.length
 ·subst h; simp
 ·rw[if_neg h];rcases b0 r G.length with h'|h'
  ·rw[az h']
  ·rw[bR (by simp; omega),bR h']
theorem nN {G:List (Option dI)} (l:List dI) (r:Nat):ea (G++l.map some) r=if G.length<=r then l[r-G.length]? else ea G r:=by
 unfold ea;rw[ec,ec];by_cases h:G.length<=r
 ·rw[if_pos h,aH h,al];cases l[r-G.length]?<;>rfl
 ·rw[if_neg h,az (by omega)]
theorem lF {G:List (Option dI)} {r:Nat} (h:G.length<=r):ea G r=none:=by unfold ea;rw[ec,bR h];rfl
theorem lG {G:List (Option dI)} {r:Nat} {tr:dI} (h:ea G r=some tr):r<G.length:=by
 rcases b0 r G.length with h'|h'
 ·exact h'
 ·rw[lF h'] at h; cases h
theorem iy {G:List (Option dI)} {x:Option dI} (q r:Nat) (hq:q<G.length\/x=none):ea (dR G q x) r=if r=q then x else ea G r:=by
 unfold ea;rw[ec,ec,ex,bw];by_cases h:q=r
 ·subst h;simp only[if_true];rcases hq with hq|rfl
  ·rw[if_pos hq]; rfl
  ·split<;>rfl
 ·rw[if_neg h,if_neg (fun e=>h e.symm)]
theorem eK.app (G:List (Option dI)) (x:Option dI):eK G (G++ [x]):=⟨by simp,fun r tr hr h=>by rw[fX,if_neg (by omega)] at h;exact⟨tr,h,rfl⟩⟩
theorem eK.apps (G:List (Option dI)) (l:List dI):eK G (G++l.map some):=⟨by simp,fun r tr hr h=>by rw[nN,if_neg (by omega)] at h;exact⟨tr,h,rfl⟩⟩
theorem eK.gone (G:List (Option dI)) (q:Nat):eK G (dR G q none):=⟨by rw[ex]; simp,fun r tr hr h=>by
 rw[iy q r (.inr rfl)] at h;split at h
 ·cases h
 ·exact⟨tr,h,rfl⟩⟩
theorem eK.put {G:List (Option dI)} {q:Nat} {tr tr':dI} (h:ea G q=some tr) (hl:tr'.l.length=tr.l.length):eK G (dR G q (some tr')):=⟨by rw[ex]; simp,fun r t hr h'=>by
 rw[iy q r (.inl (lG h))] at h';split at h'
 ·rename_i hq;subst hq;cases h';exact⟨tr,h,hl.symm⟩
 ·exact⟨t,h',rfl⟩⟩
theorem TS.ok_gh {S:TS} (hS:S.ok) {G:List (Option dI)} (hG:eK S.gh G): ({ S with gh:=G }:TS).ok:=
 ⟨fun x hx=>V.ok_mono hG (hS.env x hx),fun cs hcs c hc=>Cl.ok_mono hG (hS.bx cs hcs c hc)⟩
theorem pH (S:TS) (x:dI): ({ S with gh:=S.gh++ [some x] }:TS).st= { S.st with gh:=dD S.st.gh S.gh.length (some x.tree),ng:=S.gh.length+1 } :=by
 unfold TS.st;simp only[aP,cH]
 congr 1
 funext r
 rw[fX];unfold dD;split<;>rfl
theorem m8 (S:TS) (q:Nat): ({ S with gh:=dR S.gh q none }:TS).st= { S.st with gh:=dD S.st.gh q none } :=by
 unfold TS.st;simp only;have : (dR S.gh q none).length=S.gh.length:=by rw[ex]; simp
 rw[this]
 congr 1
 funext r
 rw[iy q r (.inr rfl)];unfold dD;split<;>rfl
theorem nP (S:TS) {q:Nat} (x:dI) (hq:q<S.gh.length): ({ S with gh:=dR S.gh q (some x) }:TS).st= { S.st with gh:=dD S.st.gh q (some x.tree) } :=by
 unfold TS.st;simp only;have : (dR S.gh q (some x)).length=S.gh.length:=by rw[ex]; simp
 rw[this]
 congr 1
 funext r
 rw[iy q r (.inl hq)];unfold dD;split<;>rfl
theorem vK (S:TS) (cs:List Cl): ({ S with bx:=S.bx++ [cs] }:TS).st= { S.st with bx:=dD S.st.bx S.bx.length (some (cs.map Cl.av)),nb:=S.bx.length+1 } :=by
 unfold TS.st;simp only[aP,cH]
 congr 1
 funext n
 unfold dD;simp only[ec];by_cases h:n=S.bx.length
 ·subst h; simp
 ·rw[if_neg h];rcases b0 n S.bx.length with h'|h'
  ·rw[az h']
  ·rw[bR (by simp; omega),bR h']
theorem xk (S:TS) {b:Nat} (cs:List Cl) (hb:b<S.bx.length): ({ S with bx:=dR S.bx b cs }:TS).st= { S.st with bx:=dD S.st.bx b (some (cs.map Cl.av)) } :=by
 unfold TS.st;have : (dR S.bx b cs).length=S.bx.length:=by rw[ex]; simp
 simp only;rw[this]
 congr 1
 funext n
 unfold dD;simp only[ec];rw[ex,bw];by_cases h:b=n
 ·subst h; simp[hb]
 ·rw[if_neg h,if_neg (fun e=>h e.symm)]
theorem yH (t:Ty): (t.zvs.map cC).map Cl.av=t.zvs.map qe:=by
 cases t with
 |st n=>cases n<;>rfl
 | _=>rfl
theorem yI (G:List (Option dI)) (t:Ty): ∀c∈t.zvs.map cC,c.ok G:=fun c hc=>by obtain⟨v,_,rfl⟩:=aG.1 hc;exact wn _ _
def mq (P:Program) (g:FuncId) (args:List V1) (b:Bool) (res:V) (out:List dI):Prop:=
 ∃ (t:Ty) (x:t.D) (as:List V1),args=ug t x::as/\iE P g ((Ax t x 0).av::as.map V1.av) ((jO (t.flat x)).map dI.tree) (bif b then (jO (t.flat x)).length else 0) res.av (out.map dI.tree)
structure qW (P:Program) (f:Nat) (args:List V1) (res:V) (out:List dI):Prop where
 fn:f<ft->jH P f (args.map V1.av) [] res.av (out.map dI.tree)
 io: ∀g,f=t9 g->g<ft->mq P g args true res out
 mv: ∀g,f=vD g->mq P g args false res out
theorem Cd (g:Nat): ¬t9 g<ft:=Nat.not_lt.2 (db ft g)
theorem wt (g:Nat): ¬vD g<ft:=Nat.not_lt.2 (bA (db ft ft) (db qR g))
theorem Ce {g g':Nat} (hg:g<ft):t9 g≠vD g':=fun h=>by have h1:t9 g<qR:=Nat.add_lt_add_right hg ft;rw[h] at h1;exact Nat.not_lt.2 (db qR g') h1
theorem qW.of_fn {P:Program} {f:Nat} {args:List V1} {res:V} {out:List dI} (h:jH P f (args.map V1.av) [] res.av (out.map dI.tree)) (hf:f<ft):qW P f args res out:=
 ⟨fun _=>h,fun g e _=>absurd (e ▸ hf) (Cd g),fun g e=>absurd (e ▸ hf) (wt g)⟩
theorem qW.of_mv {P:Program} {g:Nat} {args:List V1} {res:V} {out:List dI} (h:mq P g args false res out):qW P (vD g) args res out:=
 ⟨fun h'=>absurd h' (wt g),fun g' e hg=>absurd e.symm (Ce hg),fun g' e=>by rw[<-Nat.add_right_cancel (e:g+qR=g'+qR)]; exact h⟩
theorem mq.get {P:Program} {g:FuncId} {el:Ty} {l:List el.D} {as:List V1} {b:Bool} {res:V} {out:List dI} (h:mq P g (.cl (.c (.ls el l))::as) b res out):iE P g (.own ⟨0,[]⟩ el.width 0 l.length::as.map V1.av) [.sl el.width (l.map el.row)] (bif b then 1 else 0) res.av (out.map dI.tree):=by
 obtain⟨t,x,as',he,h⟩:=h;simp only[bm] at he;obtain⟨he,rfl⟩:=he;cases t with
 |ls el'=>have he':V1.cl (.c (.ls el l))= .cl (.c (.ls el' x)):=he;cases he';exact h
 |st n=>cases n<;>cases he
 | _=>cases he
theorem mq.getA {P:Program} {g:FuncId} {ys:List C} {as:List V1} {res:V} {out:List dI} (h:mq P g (.agg (ys.map .c)::as) true res out):iE P g (.agg ((mp ys 0).map Cl.av)::as.map V1.av) ((jO ys).map dI.tree) (jO ys).length res.av (out.map dI.tree):=by
 obtain⟨t,x,as',he,h⟩:=h;simp only[bm] at he;obtain⟨he,rfl⟩:=he;cases t with
 |st n=>
  have he':V1.agg (ys.map Cl.c)= .agg ((n.flat x).map Cl.c):=he;simp only[V1.agg.injEq] at he'
  have :ys=n.flat x:=by
   have hi: ∀ (l m:List C),l.map Cl.c=m.map Cl.c->l=m:=by
    intro l
    induction l with
    |nil=>intro m hm; cases m with |nil=>rfl|cons a m=>cases hm
    |cons a l ih=>
     intro m hm;cases m with
     |nil=>cases hm
     |cons b m=>simp only[aL,bm,Cl.c.injEq] at hm;rw[hm.1,ih m hm.2]
   exact hi _ _ he'
  subst this;exact h
 | _=>cases he
def ib (P:Program) (Y:oP):Prop:= ∀f args ρ κ r,Y f args ρ κ=some r-> ∃res out,qW P f args res out/\res.ok (out.map some)/\κ res out=some r
section
variable {ρ:Type} {P:Program} {Θ:iC} {S:TS}
theorem so {α β:Type} {f:α->(β->Option ρ)->Option ρ} {R:α->β->Prop} (hf: ∀a κ r,f a κ=some r-> ∃b,R a b/\κ b=some r):
  ∀ (l:List α) (κ:List β->Option ρ) (r:ρ),pB f l κ=some r-> ∃bs,l.length=bs.length/\(∀ (k:Nat) (a:α) (b:β),l[k]? =some a->bs[k]? =some b->R a b)/\κ bs=some r:=by
 intro l
 induction l with
 |nil=>intro κ r h; exact⟨[],rfl,fun k a b ha=>by simp at ha,h⟩
 |cons a l ih=>
  intro κ r h;obtain⟨b,h1,h⟩:=hf a _ r h;obtain⟨bs,h2,h3,h⟩:=ih _ r h;refine⟨b::bs,by simp[h2],fun k x y hx hy=> ?_,h⟩;cases k with
  |zero=>simp at hx hy; subst hx hy; exact h1
  |succ k=>exact h3 k x y (by simpa using hx) (by simpa using hy)
theorem yJ {α β γ:Type} {f:α->γ} {g:β->γ} {l:List α} {bs:List β} (h1:l.length=bs.length) (h2: ∀ (k:Nat) (a:α) (b:β),l[k]? =some a->bs[k]? =some b->f a=g b):l.map f=bs.map g:=by
 apply bO;intro k;rw[al,al];cases ha:l[k]? with
 |none=>rw[List.getElem?_eq_none_iff] at ha;rw[bR (by omega)];rfl
 |some a=>have:=(ah.1 ha).1;rw[af (by omega:k<bs.length)];simp only[ay];rw[h2 k a _ ha (af (by omega))]
theorem kX {p:dC} {sz lo len:Nat} {t:Ty} {l:List t.D} (hc: (Cl.own p sz lo len true).ok S.gh) (h:p.l= [] ->ea S.gh p.r=some ⟨t,l,none⟩):p.l= [] /\lo=0/\len=l.length:=by obtain⟨_,h2⟩:=hc;obtain⟨a,b,c⟩:=h2 rfl;exact⟨a,b,c _ (h a)⟩
theorem pI (hS:S.ok) {et:Option Ty} {c:Cl} (hc:c.ok S.gh) {κ:Cl->Option ρ} {r:ρ} (h:xh S et c κ=some r): ∃c',(∀sz,(∀t,et=some t->sz=t.width)->eb S.st sz c.av=c'.av)/\κ c'=some r:=by
 unfold xh at h;split at h
 ·rename_i x;exact⟨_,fun sz _=>by cases x<;>rfl,h⟩
 ·split at h
  ·rename_i t;exact⟨_,fun sz hsz=>by rw[hsz t rfl]; rfl,h⟩
  ·cases h
 ·rename_i p sz lo len;obtain⟨t,l,h1,h2,h⟩:=ez h;obtain⟨h3,h⟩:=dt h;have h3:t.width=sz:=ao h3;obtain⟨h4,h5,h6⟩:=kX hc h2;refine⟨_,fun sz' _=> ?_,h⟩;simp only[Cl.av,eb,<-h3,fL h1,h5,h6,aN,ax,au,if_true,bQ,C.av];rw[bN (by simp)]
 ·rename_i p sz lo len;obtain⟨t,l,h1,h2,h⟩:=ez h;obtain⟨h3,h⟩:=dt h;have h3:t.width=sz:=ao h3;obtain⟨h4,h⟩:=dN h;refine⟨_,fun sz' _=> ?_,h⟩;simp only[Cl.av,eb,<-h3,fL h1,ax,h4,if_true,C.av];simp[bC,bJ]
 ·exact⟨_,fun _ _=>rfl,h⟩
 ·rename_i p sz i j;obtain⟨t,l,h1,h2,h⟩:=ez h;obtain⟨h3,h⟩:=dt h;have h3:t.width=sz:=ao h3;obtain⟨x,hx,h⟩:=aj.1 h;refine⟨_,fun sz' _=> ?_,h⟩;simp only[Cl.av,eb,<-h3,fL h1];have e1: (l.map t.row).getD i [] =t.row x:=by simp[aq,hx]
  rw[e1,t.row_flat,bJ]
 ·rename_i b j;split at h
  ·rename_i cs hcs
   obtain⟨bs,h1,h2,h⟩:=so (R:=fun (c:Cl) (x:C)=>c.ok S.gh->T.ofAV S.st 0 c.av=x.tree) (fun c κ r h=>by
    split at h
    ·rename_i x;exact⟨x,fun _=>by cases x<;>rfl,h⟩
    ·rename_i p sz lo len;obtain⟨t,l,h1,h2,h⟩:=ez h;obtain⟨h3,h⟩:=dt h;have h3:t.width=sz:=ao h3;refine⟨_,fun hc=> ?_,h⟩;obtain⟨h4,h5,h6⟩:=kX hc h2;simp only[Cl.av,T.ofAV,<-h3,fL h1,h5,h6,aN,ax,au,if_true,bQ,C.tree];rw[bN (by simp)]
    ·cases h) _ _ _ h
   refine⟨_,fun sz _=> ?_,h⟩;simp only[Cl.av,eb,TS.st,hcs,ay];rw[<-bJ,be]
   congr 1
   refine yJ h1 (fun k a b ha hb=>h2 k a b ha hb ?_);rw[ec] at hcs;exact hS.bx cs (ap hcs) a (bg (ap ha))
  ·cases h
 ·exact⟨_,fun _ _=>rfl,h⟩
theorem AE (hS:S.ok): ∀ (ets:List (Option Ty)) (cs:List Cl) (κ:List Cl->Option ρ) (r:ρ),(∀c∈cs,c.ok S.gh)->Ar S ets cs κ=some r->
  ∃cs',ets.length=cs.length/\List.zipWith (eb S.st) (ets.map fun |some e=>e.width|none=>0) (cs.map Cl.av)=cs'.map Cl.av/\κ cs'=some r:=by
 intro ets
 induction ets with
 |nil=>
  intro cs κ r hcs h;cases cs with
  |nil=>exact⟨[],rfl,rfl,h⟩
  |cons c cs=>cases h
 |cons et ets ih=>
  intro cs κ r hcs h;cases cs with
  |nil=>cases h
  |cons c cs=>unfold Ar at h;obtain⟨c',h1,h⟩:=pI hS (hcs c aD) h;obtain⟨cs',h2,h3,h⟩:=ih cs _ r (fun x hx=>hcs x (aA _ hx)) h;refine⟨c'::cs',by simp[h2],?_,h⟩;simp only[aL,List.zipWith_cons_cons,h3];rw[h1];intro t ht;subst ht;rfl
theorem yK (hΘ:en P Θ) (hS:S.ok) {t:TypeId} {v:V} (hv:v.ok S.gh) {κ:V1->Option ρ} {r:ρ} (h:DC Θ S t v κ=some r): ∃v1:V1,fo S.st (hO P 9 t) v.av=v1.av/\κ v1=some r:=by
 unfold DC at h;split at h
 ·cases h
 ·rename_i f cs
  obtain⟨bs,h1,h2,h⟩:=so (R:=fun (c c':Cl)=>c.ok S.gh->eb S.st 0 c.av=c'.av) (fun c κ r h=>by
   by_cases hc:c.ok S.gh
   ·obtain⟨c',h1,h⟩:=pI hS hc h;exact⟨c',fun _=>h1 0 (fun t ht=>by cases ht),h⟩
   ·have : ∃c',κ c'=some r:=by
     unfold xh at h;split at h
     ·exact⟨_,h⟩
     ·cases h
     ·obtain⟨t,l,_,_,h⟩:=ez h; exact⟨_,(dt h).2⟩
     ·obtain⟨t,l,_,_,h⟩:=ez h; exact⟨_,(dN (dt h).2).2⟩
     ·exact⟨_,h⟩
     ·obtain⟨t,l,_,_,h⟩:=ez h; obtain⟨x,_,h⟩:=aj.1 (dt h).2; exact⟨_,h⟩
     ·split at h
      ·obtain⟨bs,_,_,h⟩:=so (R:=fun _ _=>True) (fun c κ r h=>by
        split at h
        ·exact⟨_,trivial,h⟩
        ·obtain⟨t,l,_,_,h⟩:=ez h; exact⟨_,trivial,(dt h).2⟩
        ·cases h) _ _ _ h
       exact⟨_,h⟩
      ·cases h
     ·exact⟨_,h⟩
    obtain⟨c',h⟩:=this;exact⟨c',fun hc'=>absurd hc' hc,h⟩) _ _ _ h
  refine⟨_,?_,h⟩;simp only[V.av,V1.av,fo,be]
  congr 1
  exact yJ h1 (fun k a b ha hb=>h2 k a b ha hb (hv a (ap ha)))
 ·rename_i cs;split at h
  ·rename_i ti hti;obtain⟨cs',h1,h2,h⟩:=AE hS _ _ _ _ hv h;refine⟨_,?_,h⟩;have e: (ti.ty.csh.map fun |some e=>e.width|none=>0)=ti.ty.shs:=rfl;simp only[V.av,V1.av,fo,(hΘ _ _ hti).sh];rw[if_pos (by rw[<-e]; simpa using h1),<-e,h2]
  ·cases h
 ·exact⟨_,rfl,h⟩
 ·rename_i c hne
  have eD: ∀ (szs:List Nat),fo S.st szs (V.v (.cl c)).av=eb S.st (szs.headD 0) c.av:=by
   intro szs;cases c with
   |c x=>cases x<;>rfl
   |em=>exact absurd rfl hne
   | _=>rfl
  split at h
  ·rename_i ti hti;obtain⟨c',h1,h⟩:=pI hS hv h;refine⟨_,?_,h⟩;rw[eD];refine h1 _ (fun t ht=> ?_);rw[(hΘ _ _ hti).sh];unfold Ty.shs;cases hc:ti.ty.csh with
   |nil=>rw[hc] at ht; cases ht
   |cons a l=>rw[hc] at ht;simp only[List.headD_cons] at ht;subst ht;rfl
  ·obtain⟨c',h1,h⟩:=pI hS hv h;exact⟨_,by rw[eD]; exact h1 _ (fun t ht=>by cases ht),h⟩
theorem j7 (hΘ:en P Θ) (hS:S.ok): ∀ (ts:List TypeId) (as:List Operand) (κ:List V1->Option ρ) (r:ρ),j4 Θ S ts as κ=some r->
  ∃vs:List V1,List.zipWith (fun t a=>fo S.st (hO P 9 t) (opd S.st a)) ts as=vs.map V1.av/\κ vs=some r:=by
 intro ts
 induction ts with
 |nil=>
  intro as κ r h;cases as with
  |nil=>exact⟨[],rfl,h⟩
  |cons a as=>cases h
 |cons t ts ih=>
  intro as κ r h;cases as with
  |nil=>cases h
  |cons a as=>unfold j4 at h;obtain⟨v,h1,h⟩:=yK hΘ hS (fW hS a) h;obtain⟨vs,h2,h⟩:=ih as _ r h;exact⟨v::vs,by rw[List.zipWith_cons_cons,h2,dw,h1,aL],h⟩
end
end
section
open Go
open Classical in
noncomputable def xm (d:Option Tmp) (g:FuncId) (args:List AV) (res:AV×List T):ju:=fun d' g' a' gs'=>if d'=d/\g'=g/\a'=args/\gs'= [] then some res else none
theorem pJ {P:Program} {d:Option Tmp} {g:FuncId} {args:List AV} {res:AV} {out:List T} (h:jH P g args [] res out):gQ P (xm d g args (res,out)):=by
 intro d' g' a' gs' r' o' h';unfold xm at h';split at h'
 ·rename_i hc;obtain⟨rfl,rfl,rfl,rfl⟩:=hc;simp only[ae,am] at h';obtain⟨rfl,rfl⟩:=h';exact h
 ·cases h'
theorem wu (d:Option Tmp) (g:FuncId) (args:List AV) (res:AV×List T):xm d g args res d g args [] =some res:=by unfold xm;rw[if_pos ⟨rfl,rfl,rfl,rfl⟩]
def tc:ju:=fun _ _ _ _=>none
theorem eW {P:Program}:gQ P tc:=fun _ _ _ _ _ _ h=>by cases h
theorem xn (n:Nat) (c:Cl): (sf n c).av=ic n c.av:=by
 cases c with
 |c x=>cases x<;>rfl
 | _=>rfl
theorem pK (n:Nat) (v:V1): (lC n v).av=gk n v.av:=by
 cases v with
 |cl c=>cases c with
  |c x=>cases x<;>rfl
  | _=>rfl
 |agg cs=>
  simp only[lC,V1.av,gk,be]
  congr 1
  exact aF fun c _=>xn n c
 |fn f cs=>rfl
theorem nQ (n:Nat) (v:V): (kA n v).av=shift n v.av:=by
 cases v with
 |v x=>
  have :shift n x.av=gk n x.av:=by
   cases x with
   |cl c=>cases c with
    |c x=>cases x<;>rfl
    | _=>rfl
   | _=>rfl
  show (lC n x).av=shift n x.av;rw[this,pK]
 |tup l=>
  simp only[kA,V.av,shift,be]
  congr 1
  exact aF fun c _=>pK n c
theorem qX {G:List (Option dI)} {out:List dI} {c:Cl} (h:c.ok (out.map some)): (sf G.length c).ok (G++out.map some):=by
 cases c with
 |own p sz lo len w=>obtain⟨h1,h2⟩:=h;refine⟨by simp at h1 ⊢; omega,fun hw=> ?_⟩;obtain⟨a,b,c⟩:=h2 hw;refine⟨a,b,fun tr htr=>c tr ?_⟩;rw[nN,if_pos (by simp)] at htr;simp only[ck] at htr;unfold ea;rw[ec,al,htr];rfl
 |c x=>cases x<;>trivial
 | _=>trivial
theorem pL {G:List (Option dI)} {out:List dI} {v:V1} (h:v.ok (out.map some)): (lC G.length v).ok (G++out.map some):=by
 cases v with
 |cl c=>exact qX h
 |agg cs=>intro c hc;obtain⟨x,hx,rfl⟩:=aG.1 hc;exact qX (h x hx)
 |fn f cs=>trivial
theorem nR {G:List (Option dI)} {out:List dI} {v:V} (h:v.ok (out.map some)): (kA G.length v).ok (G++out.map some):=by
 cases v with
 |v x=>exact pL h
 |tup l=>intro c hc;obtain⟨x,hx,rfl⟩:=aG.1 hc;exact pL (h x hx)
theorem mr (S:TS) (v:AV) (out:List dI): ({ S with gh:=S.gh++out.map some }:TS).st=(gO S.st (v,out.map dI.tree)).2:=by
 unfold TS.st gO;simp only[aP,ax]
 congr 1
 funext r
 rw[nN];by_cases h:S.gh.length<=r
 ·rw[if_pos h];by_cases h2:r<S.gh.length+out.length
  ·rw[if_pos ⟨h,h2⟩,al]
  ·rw[if_neg (fun hh=>h2 hh.2),bR (by omega),lF h]
 ·rw[if_neg h,if_neg (fun hh=>h hh.1)]
section
variable {ρ:Type} {P:Program} {Θ:iC} {S:TS} {Y:oP}
theorem m9 (hS:S.ok): ∀ (caps:List Cl) (κ':List Cl->Option ρ) (r:ρ),(∀c∈caps,c.ok S.gh)->pB (xh S none) caps κ'=some r-> ∃cs,(caps.map Cl.av).map (eb S.st 0)=cs.map Cl.av/\κ' cs=some r:=by
 intro caps
 induction caps with
 |nil=>intro κ' r _ h; exact⟨[],rfl,h⟩
 |cons c caps ih=>intro κ' r hc h;unfold pB at h;obtain⟨c',g1,h⟩:=pI hS (hc c aD) h;obtain⟨cs,g2,h⟩:=ih _ r (fun x hx=>hc x (aA _ hx)) h;exact⟨c'::cs,by rw[aL,aL,g2,g1 0 (fun t ht=>by cases ht),aL],h⟩
theorem yL (hΘ:en P Θ) (hY:ib P Y) (hS:S.ok) {f:Operand} {ts:Array TypeId} {as:Array Operand} {κ:V->TS->Option ρ} {r:ρ} (h:wj Θ Y S f ts.toList as.toList κ=some r) {dst:Option Tmp} {ty:TypeId} {pos:String} {aft:Array Edge} {gd:Option (Nat×Bool)}:
  ∃D v S',gQ P D/\eX D P S.st ⟨dst, .call { callee:= .value f,args:=as,argTypes:=ts },ty,pos,aft,gd⟩=some (V.av v,TS.st S')/\S'.ok/\v.ok S'.gh/\κ v S'=some r:=by
 have fin: ∀ (g:FuncId) (caps:List AV) (vs:List V1),g<ft->callee S.st f=some (g,caps)->args P S.st ts as caps=vs.map V1.av->Y g vs ρ (fun res out=>κ (kA S.gh.length res) { S with gh:=S.gh++out.map some })=some r->
   ∃D v S',gQ P D/\eX D P S.st ⟨dst, .call { callee:= .value f,args:=as,argTypes:=ts },ty,pos,aft,gd⟩=some (V.av v,TS.st S')/\S'.ok/\v.ok S'.gh/\κ v S'=some r:=by
  intro g caps vs hg h1 h2 h3;obtain⟨res,out,h4,h5,h6⟩:=hY _ _ _ _ _ h3;have h4:=h4.fn hg;refine⟨xm dst g (vs.map V1.av) (res.av,out.map dI.tree),_,_,pJ h4,?_,TS.ok_gh hS (eK.apps _ _),nR h5,h6⟩;simp only[eX,h1,ai,h2];rw[wu];simp only[ay];rw[mr S res.av out,nQ];rfl
 unfold wj at h;split at h
 ·rename_i g x y hf;obtain⟨hg,h⟩:=dt h;have hg:g<ft:=aw hg;obtain⟨vs,h1,h⟩:=j7 hΘ hS _ _ _ _ h;refine fin g [] vs hg ?_ ?_ h
  ·unfold callee;rw[dw,hf];rfl
  ·unfold args;simp only[bW,bz];exact h1
 ·rename_i g caps hf;obtain⟨hg,h⟩:=dt h;have hg:g<ft:=aw hg;obtain⟨vs,h1,h⟩:=j7 hΘ hS _ _ _ _ h
  have hcaps: ∀c∈caps,c.ok S.gh:=by have:=fW hS f;rw[hf] at this;exact this
  obtain⟨cs,h2,h⟩:=m9 hS _ _ _ hcaps h;refine fin g (caps.map Cl.av) (vs++cs.map .cl) hg ?_ ?_ h
  ·unfold callee;rw[dw,hf];rfl
  ·unfold args;rw[h1,h2,bM,be];rfl
 ·cases h
theorem eH {t t':Ty} {l:List t.D} {l':List t'.D} (h:lX t t' l=some l'): ∃e:t=t',e ▸ l=l':=by
 unfold lX at h;split at h
 ·rename_i e;exact⟨e,Option.some.inj h⟩
 ·cases h
theorem xp {t:Ty} (h:t.flatB=true) (x:t.D): (t.row x).all T.flat=true:=by
 cases t with
 |st n=>cases n<;>first |rfl|cases h
 |ls t=>cases h
 | _=>rfl
theorem nS (t:Ty): (t.shs.all (· ==0))=t.flatB:=by
 cases t with
 |st n=>cases n<;>rfl
 |ls t=>
  show ((t.width==0)&&true)=false;have:=t.width_pos;cases hw:t.width with
  |zero=>omega
  |succ n=>rfl
 | _=>rfl
theorem lH {t:Ty} (h:t.flatB=true) (l:List t.D): (l.map t.row).all (fun r=>r.all T.flat)=true:=by rw[ar];intro x hx;obtain⟨y,_,rfl⟩:=aG.1 hx;exact xp h y
theorem AF (hS:S.ok) {el:Ty} {v:Cl} (hv:v.ok S.gh) {κ:List el.D->TS->Option ρ} {r:ρ} (h:yx S el v κ=some r):
  ∃more S',gl S.st el.width el.flatB v.av=some (more.map el.row,S'.st)/\S'.ok/\eK S.gh S'.gh/\S'.gh.length=S.gh.length/\S'.fz=S.fz/\κ more S'=some r:=by
 unfold yx at h;split at h
 ·exact⟨[],S,rfl,hS,eK.refl _,rfl,rfl,h⟩
 ·rename_i t l;obtain⟨h1,h⟩:=dt h;split at h
  ·rename_i l' hl;obtain⟨e,hl⟩:=eH hl;subst e;simp only at hl;subst hl;refine⟨l,S,?_,hS,eK.refl _,rfl,rfl,h⟩;simp only[Cl.av,C.av,gl];rw[if_pos ⟨trivial,lH h1 l⟩]
  ·cases h
 ·rename_i p sz lo len w;obtain⟨h0,h⟩:=dt h;have h0:el.width=sz:=ao h0;cases hfl:el.flatB with
  |true=>
   rw[hfl] at h;simp only[cond_true] at h;obtain⟨t,l,h1,h2,h⟩:=ez h;split at h
   ·rename_i l' hl;obtain⟨e,hl⟩:=eH hl;subst e;simp only at hl;subst hl
    have src: ∀ (lo len:Nat),lo+len<=l.length->gl S.st t.width true (.own p sz lo len)=some (((l.drop lo).take len).map t.row,S.st):=by intro lo len hle;simp only[gl];rw[if_pos h0.symm,fL h1];simp only[ai,Bool.true_eq_false,false_and,if_false,ax];rw[if_pos ⟨hle,by rw[<-bJ,<-bC]; exact lH hfl _⟩];simp[bC,bJ]
    cases w with
    |true=>obtain⟨e1,e2,e3⟩:=kX hv h2;refine⟨l,S,?_,hS,eK.refl _,rfl,rfl,h⟩;have:=src lo len (by omega);rw[e2,e3,bQ,b6] at this;simp only[Cl.av];rw[e2,e3];exact this
    |false=>simp only[cond_false] at h;obtain⟨h3,h⟩:=dN h;exact⟨_,S,src lo len h3,hS,eK.refl _,rfl,rfl,h⟩
   ·cases h
  |false=>
   rw[hfl] at h;simp only[cond_false] at h;split at h
   ·rename_i hp;obtain⟨h3,h6⟩:=dt h;clear h;simp only[an] at h3;obtain⟨hw,h4⟩:=h3;have h4:S.fz<=p.r:=aw h4;subst hw;obtain⟨t,l,h1,h2,h⟩:=ez h6;split at h
    ·rename_i l' hl;obtain⟨e,hl⟩:=eH hl;subst e;simp only at hl;subst hl;obtain⟨e1,e2,e3⟩:=kX hv h2;refine⟨l,_,?_,TS.ok_gh hS (eK.gone _ _),eK.gone _ _,by simp[ex],rfl,h⟩;simp only[Cl.av,gl];rw[if_pos h0.symm,fL h1];simp only[ai,ax];rw[if_pos ⟨trivial,hp,e2,e3,h4⟩,m8]
    ·cases h
   ·cases h
 ·cases h
end
end
section
open Go
theorem vL (t:Ty):t.zvs.length=t.width:=by
 cases t with
 |st n=>cases n<;>rfl
 | _=>rfl
theorem mt (t:Ty):t.shs.length=t.width:=by
 cases t with
 |st n=>cases n<;>rfl
 | _=>rfl
theorem oT {P:Program} {el:TypeId} {e:Ty} (h1:P.cellsOf el=e.width) (h2:hO P 9 el=e.shs) (h3:nu P el=some e.zvs):oF P el=some (List.zipWith zc e.shs e.zvs):=by unfold oF;rw[h3];simp only[ai];rw[if_pos ⟨by rw[h1,vL],by rw[h2,h1,mt]⟩,h2]
section
variable {ρ:Type} {P:Program} {Θ:iC} {S:TS}
theorem yM (hS:S.ok) {el:Ty} {v:Cl} (hv:v.ok S.gh) {more:List el.D} {κ:List el.D->TS->Option ρ} {r:ρ} (h:ua S el v more κ=some r):
  ∃l S',fQ S.st v.av el.width (more.map el.row)=some (.own ⟨S.gh.length,[]⟩ el.width 0 l.length,{ S'.st with gh:=dD S'.st.gh S.gh.length (some (.sl el.width (l.map el.row))),ng:=S.gh.length+1 })/\
   S'.ok/\eK S.gh S'.gh/\S'.gh.length=S.gh.length/\κ l S'=some r:=by
 unfold ua at h;split at h
 ·refine⟨more,S,?_,hS,eK.refl _,rfl,h⟩;simp only[Cl.av,fQ,ax];rfl
 ·rename_i p sz lo len w;obtain⟨h0,h'⟩:=dt h;clear h;simp only[an] at h0;have hfz:S.fz<=p.r:=aw h0.1;have hsz:el.width=sz:=ao h0.2;split at h'
  ·rename_i hp;obtain⟨t,l,h1,h2,h⟩:=ez h';split at h
   ·rename_i l' hl;obtain⟨e,hl⟩:=eH hl;subst e;simp only at hl;subst hl
    have fin: ∀ (len:Nat),¬l.length<len->fQ S.st (.own p sz 0 len) t.width (more.map t.row)=some (.own ⟨S.gh.length,[]⟩ t.width 0 (l.take len++more).length,{ ({ S with gh:=dR S.gh p.r none }:TS).st with gh:=dD ({ S with gh:=dR S.gh p.r none }:TS).st.gh S.gh.length (some (.sl t.width ((l.take len++more).map t.row))),ng:=S.gh.length+1 }):=by
     intro len hlen;simp only[fQ];rw[if_pos ⟨hsz.symm,trivial,hfz⟩,fL h1];simp only[ai,ax];rw[if_neg hlen,if_pos hp,m8];have e1: (l.take len++more).length=len+more.length:=by simp; omega
     rw[e1,bM,bC];rfl
    cases w with
    |true=>obtain⟨e1,e2,e3⟩:=kX hv h2;refine⟨_,_,?_,TS.ok_gh hS (eK.gone _ _),eK.gone _ _,by simp[ex],h⟩;have:=fin l.length (by omega);rw[b6] at this;simp only[Cl.av];rw[e2,e3];exact this
    |false=>simp only[cond_false] at h;obtain⟨h3,h⟩:=dN h;obtain⟨h4,h⟩:=nL h;refine⟨_,_,?_,TS.ok_gh hS (eK.gone _ _),eK.gone _ _,by simp[ex],h⟩;simp only[Cl.av];rw[h3];exact fin len h4
   ·cases h
  ·rename_i i j hp;split at h'
   ·rename_i tr htr;split at h'
    ·rename_i hh;obtain⟨t,l,h1,h2,h⟩:=ez h';split at h
     ·rename_i l' hl;obtain⟨e,hl⟩:=eH hl;subst e;simp only at hl;subst hl;obtain⟨h3,h⟩:=dN h;obtain⟨h4,h⟩:=nL h;have hg:=dI.look htr;have hput:eK S.gh (dR S.gh p.r (some (dI.mk tr.t tr.l (some (i,j))))):=eK.put hg rfl;refine⟨_,{ S with gh:=dR S.gh p.r (some (dI.mk tr.t tr.l (some (i,j)))) },?_,TS.ok_gh hS hput,hput,by simp[ex],h⟩;simp only[Cl.av,fQ];rw[if_pos ⟨hsz.symm,h3,hfz⟩,fL h1];simp only[ai,ax];rw[if_neg h4,if_neg (by rw[hp]; simp),nP _ _ (lG hg)];have e1: (l.take len++more).length=len+more.length:=by simp; omega
      rw[e1,bM,bC]
      have e2:S.st.setAt p .dd= { S.st with gh:=dD S.st.gh p.r (some (dI.tree ⟨tr.t,tr.l,some (i,j)⟩)) } :=by
       unfold St.setAt
       congr 2
       show ((ea S.gh p.r).map dI.tree).map _=_;rw[hg,hp];obtain⟨t0,l0,hole⟩:=tr;simp only at hh;subst hh;rfl
      rw[e2];rfl
     ·cases h
    ·cases h'
   ·cases h'
  ·cases h'
 ·cases h
theorem AG (hΘ:en P Θ) (hS:S.ok) {t:TypeId} {s x:Operand} {κ:V->TS->Option ρ} {r:ρ} (h:Au Θ S t (S.opd s) (S.opd x) κ=some r) {dst:Option Tmp} {ty:TypeId} {pos:String} {aft:Array Edge} {gd:Option (Nat×Bool)} {D:ju}:
  ∃v S',eX D P S.st ⟨dst, .call { callee:= .builtin .append,args:= #[s,x],argTypes:= #[t,t] },ty,pos,aft,gd⟩=some (V.av v,TS.st S')/\S'.ok/\v.ok S'.gh/\κ v S'=some r:=by
 unfold Au at h;split at h
 ·rename_i ti hti;split at h
  ·rename_i el sv xv he hs hx;obtain⟨elT',g1,g2,g3,g4,g5,g6⟩:=(hΘ _ _ hti).el el he;have hsv:=fW hS s;rw[hs] at hsv;have hxv:=fW hS x;rw[hx] at hxv;obtain⟨more,S1,h1,k1,k2,k3,k4,h⟩:=AF hS (show xv.ok S.gh from hxv) h;obtain⟨l,S2,h2,m1,m2,m3,h⟩:=yM k1 (Cl.ok_mono k2 (show sv.ok S.gh from hsv)) h;obtain⟨hb,h⟩:=dN h;have hgl:eK S1.gh (S2.gh++ [some ⟨el,l,none⟩]):=m2.trans (eK.app _ _);refine⟨_,_,?_,TS.ok_gh m1 (eK.app _ _),?_,h⟩
   ·simp only[eX];rw[if_pos trivial,g1];simp only[ai,g2,g5,nS,dw,hs,hx];show (gl S.st el.width el.flatB xv.av).bind _=_;rw[h1];simp only[ai];show (fQ S1.st sv.av el.width _).bind _=_;rw[h2];simp only[ai];have hlen:l.length<=2 ^ 40:=bA (cS _ g4) hb;rw[if_pos ⟨by rw[g3]; exact hb,hlen,el.width_pos,by rw[oT g2 g5 g6]; rfl⟩];rw[pH,m3];rfl
   ·refine⟨by simp,fun _=>⟨rfl,rfl,fun tr htr=> ?_⟩⟩;rw[fX,if_pos rfl] at htr;cases htr;rfl
  ·cases h
 ·cases h
end
end
section
open Go
theorem AH (a b:Nat): (a==b)=Nat.beq a b:=by rw[bZ,beq_iff_eq];exact⟨fun h=>by rw[h]; exact ch _,fun h=>ao h⟩
theorem yN (a b:Nat): (a==b)=Nat.beq b a:=by rw[bZ,beq_iff_eq];exact⟨fun h=>by rw[h]; exact ch _,fun h=>(ao h).symm⟩
theorem pM (r i j pr i' j':Nat) (l:List (Nat×Nat)):under ⟨r,[(i,j)]⟩ ⟨pr,(i',j')::l⟩=(Nat.beq pr r&&Nat.beq j j'):=by simp only[under,nw,cU];rw[yN,AH]
theorem pN (r i j pr:Nat):under ⟨r,[(i,j)]⟩ ⟨pr,[]⟩=false:=by simp[under,nw]
theorem na (r i j:Nat) (c:Cl): (iJ r j c).av=iG ⟨r,[(i,j)]⟩ c.av:=by
 cases c with
 |own p sz lo len w=>
  obtain⟨pr,pl⟩:=p;cases pl with
  |nil=>simp only[iJ,Cl.av,iG,pN]; rfl
  |cons a l=>obtain⟨i',j'⟩:=a;simp only[iJ,Cl.av,iG,pM];cases (Nat.beq pr r&&Nat.beq j j')<;>rfl
 |ptrT p sz a b=>
  obtain⟨pr,pl⟩:=p;cases pl with
  |nil=>simp only[iJ,Cl.av,iG,pN]; rfl
  |cons a' l=>obtain⟨i',j'⟩:=a';simp only[iJ,Cl.av,iG,pM];cases (Nat.beq pr r&&Nat.beq j j')<;>rfl
 |c x=>cases x<;>rfl
 | _=>rfl
theorem qY (r i j:Nat) (v:V1): (jL r j v).av=jU ⟨r,[(i,j)]⟩ v.av:=by
 cases v with
 |cl c=>
  have :jU ⟨r,[(i,j)]⟩ (V1.cl c).av=iG ⟨r,[(i,j)]⟩ c.av:=by
   cases c with
   |c x=>cases x<;>rfl
   | _=>rfl
  rw[this];exact na r i j c
 |agg cs=>
  simp only[jL,V1.av,jU,be]
  congr 1
  exact aF fun c _=>na r i j c
 |fn f cs=>
  simp only[jL,V1.av,jU,be]
  congr 1
  exact aF fun c _=>na r i j c
theorem yO (r i j:Nat) (v:V): (qS r j v).av=kill ⟨r,[(i,j)]⟩ v.av:=by
 cases v with
 |v x=>
  have :kill ⟨r,[(i,j)]⟩ (V.v x).av=jU ⟨r,[(i,j)]⟩ x.av:=by
   cases x with
   |cl c=>cases c with
    |c x=>cases x<;>rfl
    | _=>rfl
   | _=>rfl
  rw[this];exact qY r i j x
 |tup l=>
  simp only[qS,V.av,kill,be]
  congr 1
  exact aF fun c _=>qY r i j c
theorem uo (f:V->V) (hf:f V.dead=V.dead): ∀ (l:List (Nat×V)) (t:Nat),eT (l.map fun x=>(x.1,f x.2)) t=f (eT l t)
 | [],t=>hf.symm
 | (u,v)::l,t=>by
   simp only[aL,eT];cases Nat.beq u t with
   |true=>rfl
   |false=>exact uo f hf l t
theorem AI (S:TS) (r i j:Nat): (S.kill r j).st=S.st.killU ⟨r,[(i,j)]⟩:=by
 unfold TS.kill TS.st St.killU;simp only[ax]
 congr 1
 ·funext t
  rw[uo _ rfl];exact yO r i j _
 ·funext n
  rw[ec,ec,al];cases S.bx[n]? with
  |none=>rfl
  |some cs=>
   simp only[ay,be]
   congr 1
   exact aF fun c _=>na r i j c
theorem nc {G:List (Option dI)} {r j:Nat} {c:Cl} (h:c.ok G): (iJ r j c).ok G:=by
 cases c with
 |own p sz lo len w=>
  simp only[iJ];split
  ·cases (Nat.beq p.r r&&Nat.beq j _)<;>first |exact h|trivial
  ·exact h
 |ptrT p sz a b=>
  simp only[iJ];split
  ·cases (Nat.beq p.r r&&Nat.beq j _)<;>first |exact h|trivial
  ·exact h
 | _=>exact h
theorem qZ {G:List (Option dI)} {r j:Nat} {v:V1} (h:v.ok G): (jL r j v).ok G:=by
 cases v with
 |cl c=>exact nc h
 |agg cs=>intro c hc;obtain⟨x,hx,rfl⟩:=aG.1 hc;exact nc (h x hx)
 |fn f cs=>intro c hc;obtain⟨x,hx,rfl⟩:=aG.1 hc;exact nc (h x hx)
theorem wv {S:TS} (hS:S.ok) (r j:Nat): (S.kill r j).ok:=by
 refine⟨fun x hx=> ?_,fun cs hcs c hc=> ?_⟩
 ·obtain⟨y,hy,rfl⟩:=aG.1 hx;have:=hS.env y hy;obtain⟨t,v⟩:=y;cases v with
  |v x=>exact qZ this
  |tup l=>intro c hc;obtain⟨z,hz,rfl⟩:=aG.1 hc;exact qZ (this z hz)
 ·obtain⟨y,hy,rfl⟩:=aG.1 hcs;obtain⟨z,hz,rfl⟩:=aG.1 hc;exact nc (hS.bx y hy z hz)
def TS.with (S:TS) (no N w:Nat) (R:List (List T)):St:= { S.st with gh:=dD S.st.gh no (some (.sl w R)),ng:=N }
theorem q8 (S:TS) (r i j no N w:Nat) (R:List (List T)): (S.with no N w R).killU ⟨r,[(i,j)]⟩=(S.kill r j).with no N w R:=by
 unfold TS.with
 rw[AI S r i j];rfl
theorem ww {α:Type} (f:Nat->α) (t:Nat) (x y:α):dD (dD f t x) t y=dD f t y:=by
 funext u
 unfold dD;split<;>rfl
theorem uq {α:Type} (f:Nat->α) (t:Nat) (x:α):dD f t x t=x:=by unfold dD; rw[if_pos rfl]
theorem yP {α:Type} (f:Nat->α) {t u:Nat} (h:t≠u) (x y:α):dD (dD f t x) u y=dD (dD f u y) t x:=by
 funext v
 unfold dD;by_cases h1:v=u
 ·subst h1; rw[if_pos rfl,if_neg (fun e=>h e.symm)]; rw[if_pos rfl]
 ·rw[if_neg h1];by_cases h2:v=t
  ·rw[if_pos h2,if_pos h2]
  ·rw[if_neg h2,if_neg h2,if_neg h1]
structure AJ (S S1:TS) (no:Nat):Prop where
 ok:S1.ok
 gle:eK S.gh S1.gh
 len:S1.gh.length=S.gh.length
 fz:S1.fz=S.fz
 nt:S1.nt=S.nt
 no:ea S1.gh no=ea S.gh no
def u5:Option Ty->Nat|some e=>e.width|none=>0
def Du (X:St) (no i j:Nat) (c:AV):Option Ty->Option St
 |none=>some X
 |some t=>iH X ⟨no,[]⟩ i j t.width c
def yQ (R:List (List T)) (i j:Nat) (x:C):Option Ty->List (List T)
 |none=>R
 |some _=>R.set i ((R.getD i []).set j x.tree)
theorem yR {S S1:TS} (hS:S.ok) {no j:Nat} (i N w:Nat) {et:Option Ty} {c:Cl} {x:C} (hc:c.ok S.gh) (h:eU S no j et c=some (x,S1)) (R:List (List T)):
  AJ S S1 no/\c≠ .dead/\(et=none->T.ofSc c.av=x.tree)/\Du (S.with no N w R) no i j c.av et=some (S1.with no N w (yQ R i j x et)):=by
 cases c with
 |c y=>
  cases y with
  |sc v=>
   cases et with
   |none=>simp only[eU,ae,am] at h;obtain⟨rfl,rfl⟩:=h;exact⟨⟨hS,eK.refl _,rfl,rfl,rfl,rfl⟩,(fun h=>by cases h),fun _=>rfl,rfl⟩
   |some t=>simp[eU] at h
  |ls t l=>cases et<;>simp[eU] at h
 |em=>
  cases et with
  |none=>simp[eU] at h
  |some t=>
   simp only[eU,ae,am] at h;obtain⟨rfl,rfl⟩:=h;refine⟨⟨wv hS _ _,eK.refl _,rfl,rfl,rfl,rfl⟩,(fun h=>by cases h),(fun h=>by cases h),?_⟩;simp only[Du,Cl.av,iH,dC.sub,bB,q8,yQ]
   congr 1
   unfold St.setAt TS.with
   simp only;rw[uq,ww];rfl
 |own p sz lo len wh=>
  obtain⟨pr,pl⟩:=p;cases wh with
  |false=>cases et<;>simp[eU] at h
  |true=>
   cases et with
   |none=>simp[eU] at h
   |some t=>
    cases pl with
    |cons a l=>simp[eU] at h
    |nil=>
     simp only[eU] at h;obtain⟨h1,h⟩:=dt h;simp only[an,b8] at h1;obtain⟨⟨h1,h2⟩,h3⟩:=h1;have h1:t.width=sz:=ao h1;have h2:S.fz<=pr:=aw h2;have h3:pr≠no:=by intro e; rw[e,ch] at h3; cases h3
     split at h
     ·rename_i tr htr;split at h
      ·rename_i hh;obtain⟨h4,h⟩:=dt h;have h4':tr.t.width=sz:=ao h4;simp only[ae,am] at h;obtain⟨rfl,rfl⟩:=h;have hg:=dI.look htr;obtain⟨tt,l,hole⟩:=tr;simp only at hh h4';subst hh;obtain⟨e1,e2,e3⟩:=kX hc (fun _=>hg);refine⟨⟨wv (TS.ok_gh hS (eK.gone _ _)) _ _,eK.gone _ _,by simp[TS.kill,ex],rfl,rfl,?_⟩,(fun h=>by cases h),(fun h=>by cases h),?_⟩
       ·show ea (dR S.gh pr none) no=_;rw[iy _ _ (.inr rfl),if_neg (fun e=>h3 e.symm)]
       ·simp only[Du,yQ,Cl.av,iH]
        have hrows: (S.with no N w R).rows ⟨pr,[]⟩ sz=some (l.map tt.row):=by
         have : (S.with no N w R).look ⟨pr,[]⟩= .sl tt.width (l.map tt.row):=by
          unfold St.look TS.with
          simp only[dD];rw[if_neg h3];show (match (ea S.gh pr).map dI.tree with |some t=>t.go [] |none=> .dd)=_;rw[hg];rfl
         unfold St.rows;rw[this];simp[h4']
        rw[if_pos ⟨trivial,h1.symm,e2,h2,h3⟩,hrows];simp only[ai,ax];rw[if_pos (by omega),e3]
        congr 1
        have e4: (l.map tt.row).take l.length=l.map tt.row:=bN (by simp);rw[e4];simp only[dC.sub,bB,q8];unfold TS.with
        simp only;rw[uq,yP _ (fun e=>h3 e.symm),ww];have e5: ({ S with gh:=dR S.gh pr none }:TS).kill no j= { S.kill no j with gh:=dR (S.kill no j).gh pr none } :=rfl;rw[e5,m8];simp only[C.tree,h4'];rfl
      ·cases h
     ·cases h
 |pro cs=>cases et<;>simp[eU] at h
 |ptrB n j=>cases et<;>simp[eU] at h
 |ptrT p sz a b=>cases et<;>simp[eU] at h
 |dead=>cases et<;>simp[eU] at h
theorem Cf (X:St) (no i j:Nat) (c:AV) (et:Option Ty): (if u5 et=0 then some X else iH X ⟨no,[]⟩ i j (u5 et) c)=Du X no i j c et:=by
 cases et with
 |none=>rfl
 |some t=>exact if_neg (by show ¬t.width=0; have:=t.width_pos; omega)
theorem yS {R:List (List T)} {i j:Nat} {x:C} {et:Option Ty} {row:List T} (hr:R[i]? =some row) (hj:j<row.length) (h:et=none->row[j]? =some x.tree):yQ R i j x et=R.set i (row.set j x.tree):=by
 cases et with
 |none=>
  have h:=h rfl
  have e1:row.set j x.tree=row:=by
   apply bO;intro k;rw[bw];split
   ·rename_i hk; subst hk; first |rw[if_pos hj,h] |rw[h]
   ·rfl
  rw[e1];apply bO;intro k;show R[k]? =_;rw[bw];split
  ·rename_i hk; subst hk; rw[if_pos (ah.1 hr).1,hr]
  ·rfl
 |some t=>simp only[yQ];rw[aq,hr];rfl
theorem pO (no i N w:Nat): ∀ (ets:List (Option Ty)) (cs:List Cl) (j:Nat) (S S1:TS) (xs:List C) (R:List (List T)) (row:List T),S.ok->(∀c∈cs,c.ok S.gh)->iK no j S ets cs=some (xs,S1)->R[i]? =some row->
  j+cs.length<=row.length->(∀ (k:Nat) (c:Cl),cs[k]? =some c->row[j+k]? =some (T.ofSc c.av))->
  AJ S S1 no/\ets.length=cs.length/\xs.length=cs.length/\(∀c∈cs,c≠ .dead)/\
   dP (S.with no N w R) ⟨no,[]⟩ i j (ets.map u5) (cs.map Cl.av)=some (S1.with no N w (R.set i (row.take j++xs.map C.tree++row.drop (j+cs.length)))):=by
 intro ets
 induction ets with
 |nil=>
  intro cs j S S1 xs R row hS hcs h hr hl ho;cases cs with
  |cons c cs=>simp[iK] at h
  |nil=>
   simp only[iK,ae,am] at h;obtain⟨rfl,rfl⟩:=h;refine⟨⟨hS,eK.refl _,rfl,rfl,rfl,rfl⟩,rfl,rfl,(fun c hc=>by cases hc),?_⟩;simp only[bW,dP,bz,b9,cc,c7]
   congr 2
   apply bO;intro k;rw[bw];split
   ·rename_i hk; subst hk; rw[if_pos (ah.1 hr).1,hr]
   ·rfl
 |cons et ets ih=>
  intro cs j S S1 xs R row hS hcs h hr hl ho;cases cs with
  |nil=>simp[iK] at h
  |cons c cs=>
   simp only[iK] at h;split at h
   ·rename_i x S2 hx;split at h
    ·rename_i xs' S3 hxs;simp only[ae,am] at h;obtain⟨rfl,rfl⟩:=h;obtain⟨k1,k2,k3,k4⟩:=yR hS i N w (hcs c aD) hx R;have hj:j<row.length:=by simp at hl; omega
     have hput:=yS (et:=et) hr hj (x:=x) (fun he=>by rw[<-k3 he]; exact ho 0 c rfl);rw[hput] at k4;have hi:i<R.length:=(ah.1 hr).1
     obtain⟨m1,m2,m3,m4,m5⟩:=ih cs (j+1) S2 S3 xs' (R.set i (row.set j x.tree)) (row.set j x.tree) k1.ok (fun y hy=>Cl.ok_mono k1.gle (hcs y (aA _ hy))) hxs (by simp[hi]) (by simp at hl ⊢; omega) (fun k y hy=>by rw[List.getElem?_set_ne (by omega),show j+1+k=j+(k+1) by omega];exact ho (k+1) y (by simpa using hy))
     refine⟨⟨m1.ok,k1.gle.trans m1.gle,m1.len.trans k1.len,m1.fz.trans k1.fz,m1.nt.trans k1.nt,m1.no.trans k1.no⟩,by simp[m2],by simp[m3],fun y hy=> ?_,?_⟩
     ·rcases aV.1 hy with rfl|hy
      ·exact k2
      ·exact m4 y hy
     ·simp only[aL,dP];rw[Cf,k4];simp only[ai];rw[m5,List.set_set]
      congr 3
      have e2: (row.set j x.tree).take (j+1)=row.take j++ [x.tree] :=by
       rw[List.take_set,List.take_add_one,af hj];rw[Option.toList_some];have hlen: (row.take j).length=j:=by simp; omega
       rw[c8 _ _ (by omega),hlen,c9];rfl
      have e3: (row.set j x.tree).drop (j+1+cs.length)=row.drop (j+(cs.length+1)):=by rw[List.drop_set_of_lt (by omega),show j+1+cs.length=j+(cs.length+1) by omega]
      rw[e2,e3];simp
    ·cases h
   ·cases h
end
section
open Go
theorem ur: ∀ {cs:List Cl} {vs:List C},B7 cs=some vs->cs.map (fun c=>T.ofSc c.av)=vs.map C.tree/\vs.length=cs.length
 | [],vs,h=>by simp only[B7,ae] at h; subst h; exact⟨rfl,rfl⟩
 |c::cs,vs,h=>by
  cases c with
  |c y=>cases y with
   |sc v=>
    simp only[B7] at h;split at h
    ·rename_i r hr;simp only[ae] at h;subst h;obtain⟨h1,h2⟩:=ur hr;exact⟨by simp only[aL,h1]; rfl,by simp[h2]⟩
    ·cases h
   |ls t l=>simp[B7] at h
  | _=>simp[B7] at h
theorem pP {x:V1} (h1:x≠ .cl .dead) (h2: ∀f cs,x≠ .fn f cs): (V.v x).av.cells=x.cells.map Cl.av/\(V.v x).av.isDead=false:=by
 cases x with
 |cl c=>cases c with
  |c y=>cases y<;>exact⟨rfl,rfl⟩
  |dead=>exact absurd rfl h1
  | _=>exact⟨rfl,rfl⟩
 |agg cs=>exact⟨rfl,rfl⟩
 |fn f cs=>exact absurd rfl (h2 f cs)
section
variable {ρ:Type} {P:Program} {Θ:iC} {S:TS}
theorem wx (tr:dI) {i j n:Nat} {y:tr.t.D} (hy:tr.l[i]? =some y) (hh:tr.hole=none\/(tr.hole=some (i,j)/\n=1)) (hn:j+n<=tr.t.width):
  ∃Rh rowh,tr.tree= .sl tr.t.width Rh/\Rh[i]? =some rowh/\Rh.length=tr.l.length/\rowh.length=tr.t.width/\rowh.take j=(tr.t.row y).take j/\rowh.drop (j+n)=(tr.t.row y).drop (j+n)/\ ∀X,Rh.set i X=(tr.l.map tr.t.row).set i X:=by
 obtain⟨t,l,hole⟩:=tr;simp only at hy hh hn y;have hi:=(ah.1 hy).1;rcases hh with hh| ⟨hh,rfl⟩
 ·subst hh;exact⟨l.map t.row,t.row y,rfl,by rw[al,hy]; rfl,by simp,t.row_length y,rfl,rfl,fun _=>rfl⟩
 ·subst hh;have e1: (l.map t.row).getD i [] =t.row y:=by simp[aq,hy]
  refine⟨(l.map t.row).set i ((t.row y).set j .dd),(t.row y).set j .dd,by simp only[dI.tree,e1],by simp[hi],by simp,by simp[t.row_length],?_,?_,fun X=>by rw[List.set_set]⟩
  ·rw[List.take_set,List.set_eq_of_length_le (by simp; omega)]
  ·rw[List.drop_set_of_lt (by omega)]
theorem yT (hΘ:en P Θ) (hS:S.ok) {t:TypeId} {a v:V} (ha:a.ok S.gh) (hv:v.ok S.gh) {κ:TS->Option ρ} {r:ρ} (h:vE Θ S t a v κ=some r): ∃S',store P S.st t a.av v.av=some (TS.st S')/\S'.ok/\eK S.gh S'.gh/\κ S'=some r:=by
 unfold vE at h;split at h
 ·cases h
 ·rename_i ti hti;have hok:=hΘ _ _ hti;split at h
  ·cases h
  ·cases h
  ·cases h
  ·rename_i x hx1 hx2;obtain⟨hc1,hc2⟩:=pP (x:=x) (fun e=>hx1 (by rw[e])) (fun f cs e=>hx2 f cs (by rw[e]));obtain⟨h1,h'⟩:=dt h;clear h;have h:=h';clear h';have hlen:x.cells.length=ti.ty.width:=ao h1
   have hcok: ∀c∈x.cells,c.ok S.gh:=by
    cases x with
    |cl c=>intro c' hc'; simp only[V1.cells,aE] at hc'; subst hc'; exact hv
    |agg cs=>exact hv
    |fn f cs=>exact absurd rfl (hx2 f cs)
   have hfst: ¬ ((V.v x).av.cells.length≠P.cellsOf t\/(V.v x).av.isDead=true):=by rw[hc1,hc2,hok.cells];simp[hlen]
   split at h
   ·rename_i b j;split at h
    ·rename_i cs hcs;obtain⟨h2,h⟩:=dt h;have h2:j+x.cells.length<=cs.length:=aw h2;have hcs':S.bx[b]? =some cs:=by rw[<-ec]; exact hcs
     have hb:b<S.bx.length:=(ah.1 hcs').1;refine⟨{ S with bx:=dR S.bx b (cs.take j++x.cells++cs.drop (j+x.cells.length)) },?_,⟨hS.env,fun cs' hcs'' c hc=> ?_⟩,eK.refl _,h⟩
     ·have e0:store P S.st t (V.v (.cl (.ptrB b j))).av (V.v x).av=(S.st.bx b).bind fun cs=>if j+(V.v x).av.cells.length<=cs.length then some { S.st with bx:=dD S.st.bx b (some (cs.take j++(V.v x).av.cells++cs.drop (j+(V.v x).av.cells.length))) } else none:=by
       unfold store;simp only;rw[if_neg hfst];rfl
      have e1:S.st.bx b=some (cs.map Cl.av):=by show (hQ S.bx b).map _=_; rw[hcs]; rfl
      rw[e0,e1,hc1];simp only[ai,ax];rw[if_pos h2,xk _ _ hb];simp[bC,bJ]
     ·rw[ex] at hcs'';rcases cu hcs'' with h3|h3
      ·exact hS.bx _ h3 c hc
      ·subst h3;simp only[aZ] at hc;have hm:=ap hcs';rcases hc with (hc|hc)|hc
       ·exact hS.bx _ hm c (bI hc)
       ·exact hcok c hc
       ·exact hS.bx _ hm c (bg hc)
    ·cases h
   ·rename_i p sz i j;obtain⟨pr,pl⟩:=p;cases pl with
    |cons a l=>cases h
    |nil=>
     simp only at h;split at h
     ·rename_i tr htr;have hg:=dI.look htr;obtain⟨h2,h⟩:=dt h;simp only[an] at h2;have h3:tr.t.width=sz:=ao h2.1.1;have h4:j+ti.ty.width<=sz:=aw h2.1.2;have hgst:S.st.gh pr=some tr.tree:=by show (ea S.gh pr).map _=_; rw[hg]; rfl
      have e2: (V1.av x).cells=x.cells.map Cl.av:=hc1
      have put: ∀ (y:tr.t.D) (hy:tr.l[i]? =some y) (Rh:List (List T)) (rowh:List T),tr.tree= .sl tr.t.width Rh->Rh[i]? =some rowh->rowh.length=tr.t.width->
        store P S.st t (V.v (.cl (.ptrT ⟨pr,[]⟩ sz i j))).av (V.v x).av=(if ti.ty.flatB then some (S.with pr S.gh.length sz (Rh.set i (rowh.take j++x.cells.map (fun c=>T.ofSc c.av)++rowh.drop (j+ti.ty.width)))) else
         if S.fz<=pr then dP (S.with pr S.gh.length sz (Rh.set i (rowh.take j++x.cells.map (fun c=>T.ofSc c.av)++rowh.drop (j+ti.ty.width)))) ⟨pr,[]⟩ i j (ti.ty.csh.map u5) (x.cells.map Cl.av) else none):=by
       intro y hy Rh rowh g1 g2 g3;have hi:i<Rh.length:=(ah.1 g2).1
       have e0:store P S.st t (V.v (.cl (.ptrT ⟨pr,[]⟩ sz i j))).av (V.v x).av=(iq S.st ⟨pr,[]⟩ sz i j ((V.v x).av.cells.map T.ofSc)).bind fun S'=>if (hO P 9 t).all (· ==0) then some S' else if S.st.fz<=pr then dP S' ⟨pr,[]⟩ i j (hO P 9 t) (V.v x).av.cells else none:=by unfold store;simp only;rw[if_neg hfst];rfl
       rw[e0,hc1]
       have hrows:S.st.rows ⟨pr,[]⟩ sz=some Rh:=by unfold St.rows St.look;simp only[hgst,g1,T.go,h3,if_true]
       unfold iq;rw[hrows];simp only[ax];have hgd:Rh.getD i [] =rowh:=by simp[aq,g2]
       rw[hgd,if_pos ⟨hi,by rw[g3,hlen,h3]; exact h4⟩];simp only[ai,hok.sh,nS]
       have hset:S.st.setAt ⟨pr,[]⟩ (.sl sz (Rh.set i (rowh.take j++(x.cells.map Cl.av).map T.ofSc++rowh.drop (j+x.cells.length))))=S.with pr S.gh.length sz (Rh.set i (rowh.take j++x.cells.map (fun c=>T.ofSc c.av)++rowh.drop (j+ti.ty.width))):=by
        unfold St.setAt TS.with
        simp only[hgst,ay,T.put,be,hlen];rfl
       rw[hset];rfl
      have fin: ∀ (S1:TS) (y z:tr.t.D) (vs:List C) (Rh:List (List T)) (rowh:List T),AJ S S1 pr->tr.l[i]? =some y->tr.t.flat z=(tr.t.flat y).take j++vs++(tr.t.flat y).drop (j+ti.ty.width)->
        rowh.take j=(tr.t.row y).take j->rowh.drop (j+ti.ty.width)=(tr.t.row y).drop (j+ti.ty.width)->(∀X,Rh.set i X=(tr.l.map tr.t.row).set i X)->
        S1.with pr S.gh.length sz (Rh.set i (rowh.take j++vs.map C.tree++rowh.drop (j+ti.ty.width)))=({ S1 with gh:=dR S1.gh pr (some ⟨tr.t,tr.l.set i z,none⟩) }:TS).st/\
        ({ S1 with gh:=dR S1.gh pr (some ⟨tr.t,tr.l.set i z,none⟩) }:TS).ok/\eK S.gh (dR S1.gh pr (some ⟨tr.t,tr.l.set i z,none⟩)):=by
       intro S1 y z vs Rh rowh hT hy hz q1 q2 q3;have hg1:ea S1.gh pr=some tr:=hT.no.trans hg;have hgle:eK S1.gh (dR S1.gh pr (some ⟨tr.t,tr.l.set i z,none⟩)):=eK.put hg1 (by simp);refine⟨?_,TS.ok_gh hT.ok hgle,hT.gle.trans hgle⟩;rw[nP _ _ (lG hg1)];unfold TS.with
       rw[q1,q2,q3]
       have hrow:tr.t.row z=(tr.t.row y).take j++vs.map C.tree++(tr.t.row y).drop (j+ti.ty.width):=by rw[tr.t.row_flat,hz,tr.t.row_flat];simp[bC,bJ]
       have hng:S.gh.length=S1.st.ng:=hT.len.symm;rw[hng]
       congr 3
       simp only[dI.tree,h3];rw[<-hrow,List.map_set]
      cases hfl:ti.ty.flatB with
      |true=>
       rw[hfl] at h;simp only[cond_true] at h;split at h
       ·rename_i vs hh hvs;obtain⟨y,hy,h⟩:=aj.1 h;split at h
        ·rename_i z hz;obtain⟨k1,k2⟩:=ur hvs;obtain⟨Rh,rowh,g1,g2,g3,g4,g5,g6,g7⟩:=wx tr hy (.inl hh) (by rw[h3]; exact h4);obtain⟨f1,f2,f3⟩:=fin S y z vs Rh rowh ⟨hS,eK.refl _,rfl,rfl,rfl,rfl⟩ hy (Ty.unflat_some _ _ _ hz) g5 g6 g7;refine⟨_,?_,f2,f3,h⟩;rw[put y hy Rh rowh g1 g2 g4,hfl,if_pos rfl,k1,f1]
        ·cases h
       ·cases h
      |false=>
       rw[hfl] at h;simp only[cond_false] at h;obtain⟨h5,h⟩:=dt h;have h5:S.fz<=pr:=aw h5;split at h
       ·rename_i vs S1 hvs;obtain⟨y,hy,h⟩:=aj.1 h;split at h
        ·rename_i z hz
         have main: (tr.hole=none\/(tr.hole=some (i,j)/\ti.ty.width=1))->κ { S1 with gh:=dR S1.gh pr (some ⟨tr.t,tr.l.set i z,none⟩) } =some r-> ∃S',store P S.st t (V.v (.cl (.ptrT ⟨pr,[]⟩ sz i j))).av (V.v x).av=some (TS.st S')/\S'.ok/\eK S.gh S'.gh/\κ S'=some r:=by
          intro hh hk;obtain⟨Rh,rowh,g1,g2,g3,g4,g5,g6,g7⟩:=wx tr hy hh (by rw[h3]; exact h4);have hi:i<Rh.length:=(ah.1 g2).1;have htk: (rowh.take j).length=j:=by simp; omega
          have hcl: (x.cells.map fun c=>T.ofSc c.av).length=x.cells.length:=by simp
          obtain⟨m1,m2,m3,m4,m5⟩:=pO pr i S.gh.length sz ti.ty.csh x.cells j S S1 vs (Rh.set i (rowh.take j++x.cells.map (fun c=>T.ofSc c.av)++rowh.drop (j+ti.ty.width))) (rowh.take j++x.cells.map (fun c=>T.ofSc c.av)++rowh.drop (j+ti.ty.width)) hS hcok hvs (by simp[hi]) (by simp; omega) (fun k c hc=>by have hk:=(ah.1 hc).1;rw[aK,aH (by omega),htk,Nat.add_sub_cancel_left,az (by omega),al,hc];rfl)
          obtain⟨f1,f2,f3⟩:=fin S1 y z vs Rh rowh m1 hy (Ty.unflat_some _ _ _ hz) g5 g6 g7;refine⟨_,?_,f2,f3,hk⟩;rw[put y hy Rh rowh g1 g2 g4,hfl,if_neg (by simp),if_pos h5,m5,<-f1]
          congr 2
          rw[List.set_set]
          congr 1
          rw[aK,aK,List.take_append_of_le_length (by omega),List.take_take,Nat.min_self,<-aK]
          congr 1
          rw[<-aK,List.drop_append,aP,htk,hcl,hlen,c9,bQ,bX (by simp; omega),bB]
         split at h
         ·rename_i hh;exact main (.inl hh) h
         ·rename_i i0 j0 hh;obtain⟨h6,h⟩:=dt h;simp only[an] at h6;obtain⟨h7,h⟩:=dN h;have h8:j=j0:=ao h6.1;have h9:ti.ty.width=1:=ao h6.2;exact main (.inr ⟨by rw[hh,h7,h8],h9⟩) h
        ·cases h
       ·cases h
     ·cases h
   ·cases h
end
end
section
open Go
theorem qt (X:St) (p:dC) (i:Nat): ∀ (ss:List Nat) (vs:List AV) (j:Nat),ss.all (· ==0)=true->dP X p i j ss vs=some X:=by
 intro ss
 induction ss with
 |nil=>intro vs j _; cases vs<;>rfl
 |cons s ss ih=>
  intro vs j h;simp only[cq,an,beq_iff_eq] at h;cases vs with
  |nil=>rfl
  |cons v vs=>simp only[dP];rw[if_pos h.1];exact ih vs (j+1) h.2
def kY (no:Nat) (ss:List Nat):Nat->List V->St->Option St
 | _,[],X=>some X
 |k,v::vs,X=>(dP X ⟨no,[]⟩ k 0 ss v.av.cells).bind (kY no ss (k+1) vs)
theorem xq (el:Ty) (no N:Nat): ∀ (vs:List V) (k:Nat) (S S1:TS) (l:List el.D) (R:List (List T)),S.ok->S.gh.length=no->(∀v∈vs,v.ok S.gh)->jM el S vs=some (l,S1)->R.length=k+vs.length->
  (∀ (m:Nat) (v:V),vs[m]? =some v->R[k+m]? =some (v.av.cells.map T.ofSc))->
  AJ S S1 no/\l.length=vs.length/\(∀v∈vs,v.av.cells.length=el.width/\v.av.isDead=false)/\kY no el.shs k vs (S.with no N el.width R)=some (S1.with no N el.width (R.take k++l.map el.row)):=by
 intro vs
 induction vs with
 |nil=>intro k S S1 l R hS hno hvs h hl ho;simp only[jM,ae,am] at h;obtain⟨rfl,rfl⟩:=h;refine⟨⟨hS,eK.refl _,rfl,rfl,rfl,rfl⟩,rfl,(fun v hv=>by cases hv),?_⟩;simp only[kY,bW,bz];rw[bN (by simp at hl; omega)]
 |cons v vs ih=>
  intro k S S1 l R hS hno hvs h hl ho;cases v with
  |tup x=>simp[jM] at h
  |v x=>
   simp only[jM] at h;split at h
   ·rename_i ws S2 hw;split at h
    ·rename_i y ys S3 hy hys;simp only[ae,am] at h;obtain⟨rfl,rfl⟩:=h;have hv:=hvs _ aD;have hrow:=ho 0 _ rfl;rw[cc] at hrow;have hk:k<R.length:=(ah.1 hrow).1
     have hcok: ∀c∈x.cells,c.ok S.gh:=by
      cases x with
      |cl c=>intro c' hc'; simp only[V1.cells,aE] at hc'; subst hc'; exact hv
      |agg cs=>exact hv
      |fn f cs=>intro c' hc'; simp only[V1.cells,aE] at hc'; subst hc'; trivial
     rw[hno] at hw
     have hx:x≠ .cl .dead/\(∀f cs,x≠ .fn f cs):=by
      have nd: ∀ (cs:List Cl),cs= [.dead] ->iK no 0 S el.csh cs=some (ws,S2)->False:=by
       intro cs hcs h;subst hcs;cases hc:el.csh with
       |nil=>rw[hc] at h; simp[iK] at h
       |cons e es=>rw[hc] at h;cases e<;>simp[iK,eU] at h
      constructor
      ·intro e; subst e; exact nd _ rfl hw
      ·intro f cs e; subst e; exact nd _ rfl hw
     obtain⟨hc1,hc2⟩:=pP hx.1 hx.2
     obtain⟨m1,m2,m3,m4,m5⟩:=pO no k N el.width el.csh x.cells 0 S S2 ws R ((V.v x).av.cells.map T.ofSc) hS hcok hw hrow (by rw[hc1]; simp) (fun m c hm=>by rw[hc1,aN,al,al,hm];rfl)
     have hwid:x.cells.length=el.width:=by
      rw[<-m2];cases el with
      |st n=>cases n<;>rfl
      | _=>rfl
     obtain⟨g1,g2,g3,g4⟩:=ih (k+1) S2 S3 ys (R.set k (el.row y)) m1.ok (m1.len.trans hno) (fun v hv=>V.ok_mono m1.gle (hvs v (aA _ hv))) hys (by simp at hl ⊢; omega) (fun m v hm=>by rw[List.getElem?_set_ne (by omega),show k+1+m=k+(m+1) by omega];exact ho (m+1) v (by simpa using hm))
     refine⟨⟨g1.ok,m1.gle.trans g1.gle,g1.len.trans m1.len,g1.fz.trans m1.fz,g1.nt.trans m1.nt,g1.no.trans m1.no⟩,by simp[g2],fun v hv=> ?_,?_⟩
     ·rcases aV.1 hv with rfl|hv
      ·exact⟨by rw[hc1]; simpa using hwid,hc2⟩
      ·exact g3 v hv
     ·simp only[kY];have e1:el.shs=el.csh.map u5:=rfl;rw[hc1,e1,m5];simp only[ai]
      have e2: ((V.v x).av.cells.map T.ofSc).take 0++ws.map C.tree++((V.v x).av.cells.map T.ofSc).drop (0+x.cells.length)=el.row y:=by rw[hc1,df,bB,bX (by simp),bz,el.row_flat,Ty.unflat_some _ _ _ hy]
      rw[e2,<-e1,g4]
      congr 2
      have e3: (R.set k (el.row y)).take (k+1)=R.take k++ [el.row y] :=by
       rw[List.take_set,List.take_add_one,af hk,Option.toList_some];have hlen: (R.take k).length=k:=by simp; omega
       rw[c8 _ _ (by omega),hlen,c9];rfl
      rw[e3];simp
    ·cases h
   ·cases h
theorem ut (t:Ty):t.zcs.map C.tree=List.zipWith zc t.shs t.zvs:=by
 cases t with
 |st n=>cases n<;>rfl
 | _=>rfl
theorem sq: ∀ {a b:List Nat},CJ a b=true->a=b
 | [],[],_=>rfl
 |a::l,b::m,h=>by
  simp only[CJ] at h;cases hb:Nat.beq a b with
  |true=>rw[hb] at h;rw[ao hb,sq h]
  |false=>rw[hb] at h; cases h
 | [],_::_,h=>by cases h
 | _::_,[],h=>by cases h
theorem uu (no:Nat) (ss:List Nat) (e:Operand->AV): ∀ (ps:List (Nat×Operand)) (vs:List V) (k:Nat) (X:St),ps.map (·.1)=List.range' k ps.length->ps.map (fun x=>e x.2)=vs.map V.av->
  ps.foldlM (fun S' x=>dP S' ⟨no,[]⟩ x.1 0 ss (e x.2).cells) X=kY no ss k vs X:=by
 intro ps
 induction ps with
 |nil=>
  intro vs k X _ h;cases vs with
  |nil=>rfl
  |cons v vs=>cases h
 |cons p ps ih=>
  intro vs k X h1 h2;cases vs with
  |nil=>cases h2
  |cons v vs=>
   simp only[aL,bm] at h2;simp only[aL,aY,ce,bm] at h1;simp only[List.foldlM_cons,kY,h1.1,h2.1];cases dP X ⟨no,[]⟩ k 0 ss v.av.cells with
   |none=>rfl
   |some X'=>exact ih vs (k+1) X' h1.2 h2.2
section
variable {ρ:Type} {P:Program} {Θ:iC} {S:TS} {Y:oP}
theorem AK {a:AV} {n:Int} (h:oY a=some n): ∃k,a= .sc (.int k n):=by
 unfold oY at h;split at h
 ·rename_i k m;simp only[ae] at h;subst h;exact⟨k,rfl⟩
 ·cases h
theorem AL (c:Cl):u6 c.av=vF c:=by
 cases c with
 |c x=>cases x<;>rfl
 | _=>rfl
theorem sr (cs:List Cl): (cs.map Cl.av).any u6=cs.any vF:=by
 rw[List.any_map]
 congr 1
 funext c
 exact AL c
theorem oo (c:Cl): (V.v (.cl c)).av.cells= [c.av] :=by
 cases c with
 |c x=>cases x<;>rfl
 | _=>rfl
theorem yU {v:V} (h:pC v=true):v.av.cells.any u6=true:=by
 cases v with
 |tup l=>cases h
 |v x=>
  cases x with
  |cl c=>rw[oo];have h: [c].any vF=true:=h;rw[<-sr] at h;exact h
  |agg cs=>have h:cs.any vF=true:=h;rw[<-sr] at h;exact h
  |fn f cs=>cases h
theorem yV {v:V} (h:v.av.cells.any u6=true):pC v=true:=by
 cases v with
 |tup l=>cases h
 |v x=>
  cases x with
  |cl c=>rw[oo] at h;show [c].any vF=true;rw[<-sr];exact h
  |agg cs=>show cs.any vF=true;rw[<-sr];exact h
  |fn f cs=>cases h
theorem pQ: ∀ (ets:List (Option Ty)) (cs:List Cl) (xs:List C),gr ets cs=some xs->cs.length=ets.length/\qg (ets.map fun |some e=>e.width|none=>0) (cs.map Cl.av)=some (xs.map C.tree)
 | [],[],xs,h=>by simp only[gr,ae] at h; subst h; exact⟨rfl,rfl⟩
 |et::ets, .c x::cs,xs,h=>by
  have h: (match gr ets cs with |some r=>some (x::r)|none=>none)=some xs:=by cases et<;>exact h
  split at h
  ·rename_i r hr;simp only[ae] at h;subst h;obtain⟨h1,h2⟩:=pQ ets cs r hr;refine⟨by simp[h1],?_⟩;simp only[aL,qg];have : ∀s,CE s (Cl.av (.c x))=some x.tree:=fun s=>by cases x<;>rfl
   rw[this,h2];rfl
  ·cases h
 |some t::ets, .em::cs,xs,h=>by
  simp only[gr] at h;split at h
  ·rename_i r hr;simp only[ae] at h;subst h;obtain⟨h1,h2⟩:=pQ ets cs r hr;refine⟨by simp[h1],?_⟩;simp only[aL,qg,h2];rfl
  ·cases h
 | [],_::_,xs,h=>by simp[gr] at h
 | _::_,[],xs,h=>by simp[gr] at h
 |none::ets, .em::cs,xs,h=>by simp[gr] at h
 | _::ets, .own _ _ _ _ _::cs,xs,h=>by simp[gr] at h
 | _::ets, .pro _::cs,xs,h=>by simp[gr] at h
 | _::ets, .ptrB _ _::cs,xs,h=>by simp[gr] at h
 | _::ets, .ptrT _ _ _ _::cs,xs,h=>by simp[gr] at h
 | _::ets, .dead::cs,xs,h=>by simp[gr] at h
theorem oq (el:Ty): ∀ (vs:List V) (l:List el.D),j5 el vs=some l->l.length=vs.length/\kO el.shs (vs.map fun v=>v.av.cells)=some (l.map el.row)/\ ∀v∈vs,v.av.cells.length=el.width/\v.av.isDead=false
 | [],l,h=>by simp only[j5,ae] at h; subst h; exact⟨rfl,rfl,fun v hv=>by cases hv⟩
 | .v x::vs,l,h=>by
   simp only[j5] at h;split at h
   ·rename_i xs hx;split at h
    ·rename_i y ys hy hys;simp only[ae] at h;subst h;obtain⟨h1,h2,h3⟩:=oq el vs ys hys;obtain⟨g1,g2⟩:=pQ _ _ _ hx
     have n1:x≠ .cl .dead:=fun e=>by
      subst e;have hx:gr el.csh [Cl.dead] =some xs:=hx;cases hc:el.csh with
      |nil=>rw[hc] at hx; simp[gr] at hx
      |cons a b=>rw[hc] at hx; simp[gr] at hx
     have n2: ∀f cs,x≠ .fn f cs:=fun f cs e=>by
      subst e;have hx:gr el.csh [Cl.dead] =some xs:=hx;cases hc:el.csh with
      |nil=>rw[hc] at hx; simp[gr] at hx
      |cons a b=>rw[hc] at hx; simp[gr] at hx
     obtain⟨hc,hd⟩:=pP n1 n2
     have hw:el.csh.length=el.width:=by have:=mt el;unfold Ty.shs at this;simpa using this
     refine⟨by simp[h1],?_,fun v hv=> ?_⟩
     ·simp only[aL,kO,hc];rw[show el.shs=el.csh.map fun |some e=>e.width|none=>0 from rfl,g2];simp only[ai];rw[show (el.csh.map fun |some e=>e.width|none=>0)=el.shs from rfl,h2,el.row_flat,Ty.unflat_some _ _ _ hy];rfl
     ·rcases aV.1 hv with rfl|hv
      ·exact⟨by rw[hc,ax,g1,hw],hd⟩
      ·exact h3 v hv
    ·cases h
   ·cases h
 | .tup _::vs,l,h=>by simp[j5] at h
theorem uv (hΘ:en P Θ) (hY:ib P Y) (hS:S.ok) {o:Oper} {κ:V->TS->Option ρ} {r:ρ} (h:mZ Θ Y S o κ=some r):
  ∃D v S',gQ P D/\eX D P S.st o=some (V.av v,TS.st S')/\S'.ok/\v.ok S'.gh/\κ v S'=some r:=by
 have ok: ∀x,(S.opd x).ok S.gh:=fun x=>fW hS x
 have vals:pA Θ S o κ=some r->(∀D:ju,eX D P S.st o=(du D P S.st o).map fun v=>(v,S.st))-> ∃D v S',gQ P D/\eX D P S.st o=some (V.av v,TS.st S')/\S'.ok/\v.ok S'.gh/\κ v S'=some r:=by intro h he;obtain⟨v,S1,h1,h2,h3,h4,h5,h6⟩:=qV (D:=tc) hΘ hS h;exact⟨tc,v,S1,eW,by rw[he,h1,ay,h2],h3,by rw[h4]; exact h5,h6⟩
 obtain⟨dst,op,ty,pos,aft,gd⟩:=o;unfold mZ at h;cases op with
 |alloc t=>
  simp only at h;split at h
  ·rename_i ti hti;refine⟨tc,_,{ S with bx:=S.bx++ [ti.ty.zvs.map cC] },eW,?_,⟨hS.env,fun cs hcs c hc=> ?_⟩,?_,h⟩
   ·simp only[eX,(hΘ _ _ hti).ze,ay];rw[vK,yH];rfl
   ·rcases aZ.1 hcs with h1|h1
    ·exact hS.bx cs h1 c hc
    ·simp only[aE] at h1;subst h1;exact yI _ _ c hc
   ·trivial
  ·cases h
 |box t x=>
  have fin: ∀ (cs:List Cl),(∀c∈cs,c.ok S.gh)->eX tc P S.st ⟨dst, .box t x,ty,pos,aft,gd⟩=some (.ptrB S.bx.length 0,{ S.st with bx:=dD S.st.bx S.bx.length (some (cs.map Cl.av)),nb:=S.bx.length+1 })->κ (.v (.cl (.ptrB S.bx.length 0))) { S with bx:=S.bx++ [cs] } =some r->
    ∃D v S',gQ P D/\eX D P S.st ⟨dst, .box t x,ty,pos,aft,gd⟩=some (V.av v,TS.st S')/\S'.ok/\v.ok S'.gh/\κ v S'=some r:=by
   intro cs hcs h1 h2;refine⟨tc, .v (.cl (.ptrB S.bx.length 0)),{ S with bx:=S.bx++ [cs] },eW,?_,⟨hS.env,fun cs' hcs' c hc=> ?_⟩,trivial,h2⟩
   ·rw[h1,vK]; rfl
   ·rcases aZ.1 hcs' with h3|h3
    ·exact hS.bx cs' h3 c hc
    ·simp only[aE] at h3;subst h3;exact hcs c hc
  simp only at h;split at h
  ·cases h
  ·rename_i c hnd hx;have hc:=ok x;rw[hx] at hc;refine fin [c] (fun c' hc'=>by simp only[aE] at hc'; subst hc'; exact hc) ?_ h;simp only[eX,dw,hx];cases c with
   |dead=>exact absurd rfl hnd
   |c y=>cases y<;>rfl
   | _=>rfl
  ·rename_i cs hx;have hc:=ok x;rw[hx] at hc;refine fin cs hc ?_ h;simp only[eX,dw,hx];rfl
  ·cases h
 |store t a x=>simp only at h;obtain⟨S1,h1,h2,h3,h⟩:=yT hΘ hS (ok a) (ok x) h;refine⟨tc,_,S1,eW,?_,h2,V.ok_dead _,h⟩;simp only[eX,dw,h1,ay];rfl
 |makeSlice t l c=>
  simp only at h;split at h
  ·rename_i ti hti;split at h
   ·rename_i el he;obtain⟨elT',g1,g2,g3,g4,g5,g6⟩:=(hΘ _ _ hti).el el he;obtain⟨n,h1,h⟩:=m0 h;obtain⟨m,h2,h⟩:=m0 h;split at h
    ·rename_i z hz;obtain⟨hb,h⟩:=dN h;have hz':=Ty.unflat_some _ _ _ hz
     have hzr:el.row z=List.zipWith zc el.shs el.zvs:=by rw[el.row_flat,hz',ut]
     refine⟨tc,_,{ S with gh:=S.gh++ [some ⟨el,List.replicate n.toNat z,none⟩] },eW,?_,TS.ok_gh hS (eK.app _ _),?_,h⟩
     ·simp only[eX,g1,ai,dw,h1,h2];rw[oT g2 g5 g6];simp only[ai]
      have hn:n<=n*(ti.el:Int):=by
       have h1e: (1:Int)<=ti.el:=by omega
       have:=Int.mul_le_mul_of_nonneg_left h1e hb.1
       rwa [Int.mul_one] at this
      rw[if_pos ⟨hb.1,hb.2.1,by rw[g3,Int.mul_comm]; exact hb.2.2,Int.le_trans hn hb.2.2⟩];rw[pH,g2];simp only[dI.tree,dj,hzr];rfl
     ·refine⟨by simp,fun _=>⟨rfl,rfl,fun tr htr=> ?_⟩⟩;rw[fX,if_pos rfl] at htr;cases htr;simp
    ·cases h
   ·cases h
  ·cases h
 |buildSlice t len parts=>
  simp only at h;split at h
  ·rename_i ti hti;split at h
   ·rename_i el he;obtain⟨elT',g1,g2,g3,g4,g5,g6⟩:=(hΘ _ _ hti).el el he;obtain⟨hb,h⟩:=dt h;simp only[an] at hb;have hb1:len*el.width<=1048576:=aw hb.1;have hb2:=sq hb.2
    have hpl:parts.toList.length=len:=by have:=congrArg List.length hb2;simpa using this
    cases hro: (parts.toList.map fun x=>S.opd x.2).any pC with
    |true=>
     rw[hro] at h;simp only[cond_true] at h;split at h
     ·rename_i l hl;obtain⟨m1,m2,m3⟩:=oq el _ l hl;refine⟨tc, .v (.cl (.c (.ls el l))),S,eW,?_,hS,trivial,h⟩;simp only[eX,g1,ai]
      rw[if_pos ⟨by rw[g2]; exact hb1,hb2,by rw[g2]; exact el.width_pos,by rw[g6]; rfl,by rw[ar];intro y hy;obtain⟨q1,q2⟩:=m3 (S.opd y.2) (aG.2 ⟨y,hy,rfl⟩);simp only[dw,q1,q2,g2];rfl⟩]
      have e1: (parts.toList.any fun x=>(opd S.st x.2).cells.any u6)=true:=by rw[bH] at hro ⊢;obtain⟨v,hv,hr⟩:=hro;obtain⟨x,hx,rfl⟩:=aG.1 hv;exact⟨x,hx,by rw[dw]; exact yU hr⟩
      have e2: (parts.toList.map fun x=>(opd S.st x.2).cells)=(parts.toList.map fun x=>S.opd x.2).map fun v=>v.av.cells:=by rw[be];exact aF fun x _=>by simp only[Function.comp,dw]
      rw[if_pos e1,e2,g5,m2,g2];rfl
     ·cases h
    |false=>
    rw[hro] at h;simp only[cond_false] at h;split at h
    ·rename_i l S1 hp
     have hvok: ∀v∈parts.toList.map (fun x=>S.opd x.2),v.ok S.gh:=fun v hv=>by obtain⟨y,_,rfl⟩:=aG.1 hv;exact ok _
     have hR: ∀ (m:Nat) (v:V),(parts.toList.map fun x=>S.opd x.2)[m]? =some v->(parts.toList.map fun x=>(opd S.st x.2).cells.map T.ofSc)[0+m]? =some (v.av.cells.map T.ofSc):=by intro m v hm;rw[aN,al];rw[al] at hm;simp only[ak] at hm;obtain⟨y,hy,rfl⟩:=hm;rw[hy];simp only[ay,dw]
     obtain⟨m1,m2,m3,m4⟩:=xq el S.gh.length (S.gh.length+1) _ 0 S S1 l _ hS rfl hvok hp (by simp) hR;have hlen:l.length=len:=by rw[m2]; simp[hpl]
     refine⟨tc,_,{ S1 with gh:=S1.gh++ [some ⟨el,l,none⟩] },eW,?_,TS.ok_gh m1.ok (eK.app _ _),?_,h⟩
     ·simp only[eX,g1,ai]
      rw[if_pos ⟨by rw[g2]; exact hb1,hb2,by rw[g2]; exact el.width_pos,by rw[g6]; rfl,by rw[ar];intro y hy;obtain⟨q1,q2⟩:=m3 (S.opd y.2) (aG.2 ⟨y,hy,rfl⟩);simp only[dw,q1,q2,g2];rfl⟩]
      have hfold:=uu S.gh.length el.shs (opd S.st) parts.toList (parts.toList.map fun x=>S.opd x.2) 0 (S.with S.gh.length (S.gh.length+1) el.width (parts.toList.map fun x=>(opd S.st x.2).cells.map T.ofSc)) (by rw[hb2,hpl,cg]) (by rw[be];exact aF fun y _=>dw _)
      have e0: (parts.toList.any fun x=>(opd S.st x.2).cells.any u6)=false:=by rw[List.any_eq_false] at hro ⊢;intro x hx;have:=hro (S.opd x.2) (aG.2 ⟨x,hx,rfl⟩);rw[dw];exact fun hc=>this (yV hc)
      rw[if_neg (by rw[e0]; decide)]
      have hX: ({ S.st with gh:=dD S.st.gh S.st.ng (some (.sl (P.cellsOf elT') (parts.toList.map fun x=>(opd S.st x.2).cells.map T.ofSc))),ng:=S.st.ng+1 }:St)=S.with S.gh.length (S.gh.length+1) el.width (parts.toList.map fun x=>(opd S.st x.2).cells.map T.ofSc):=by rw[g2]; rfl
      rw[hX,g5];have hng:S.st.ng=S.gh.length:=rfl;rw[hng]
      have hres: (if (el.shs.all (· ==0))=true then some (S.with S.gh.length (S.gh.length+1) el.width (parts.toList.map fun x=>(opd S.st x.2).cells.map T.ofSc)) else
        parts.toList.foldlM (fun S' x=>dP S' ⟨S.gh.length,[]⟩ x.1 0 el.shs (opd S.st x.2).cells) (S.with S.gh.length (S.gh.length+1) el.width (parts.toList.map fun x=>(opd S.st x.2).cells.map T.ofSc)))=some (S1.with S.gh.length (S.gh.length+1) el.width (l.map el.row)):=by
       rw[hfold];simp only[df,bB] at m4;rw[m4];split
       ·rename_i hfl
        have : ∀ (vs:List V) (k:Nat) (X:St),kY S.gh.length el.shs k vs X=some X:=by
         intro vs
         induction vs with
         |nil=>intro k X; rfl
         |cons v vs ih=>intro k X; simp only[kY]; rw[qt _ _ _ _ _ _ hfl]; exact ih _ _
        rw[this] at m4;exact m4
       ·rfl
      rw[hres];simp only[ay];rw[pH,m1.len,g2];simp only[V.av,V1.av,Cl.av,hlen];rfl
     ·refine⟨by simp,fun _=>⟨rfl,rfl,fun tr htr=> ?_⟩⟩;rw[fX,if_pos rfl] at htr;cases htr;rfl
    ·cases h
   ·cases h
  ·cases h
 |call c=>
  obtain⟨cl,as,ts⟩:=c;cases cl with
  |value f=>simp only at h;exact yL hΘ hY hS h
  |invoke a b=>exact vals h (fun D=>rfl)
  |builtin b=>
   cases b with
   |append=>
    simp only at h;split at h
    ·rename_i s x t t' e1 e2;cases htb:Nat.beq t t' with
     |false=>
      rw[htb] at h;simp only[cond_false] at h;have hne: ¬t=t':=fun e=>by rw[e,ch] at htb; cases htb
      unfold BF at h;split at h
      ·rename_i ti hti;split at h
       ·rename_i el he hs;obtain⟨elT',g1,g2,g3,g4,g5,g6⟩:=(hΘ _ _ hti).el el he;obtain⟨n,h1,h⟩:=m0 h;split at h
        ·rename_i z hz;obtain⟨hb,h⟩:=dN h;have hz':=Ty.unflat_some _ _ _ hz
         have hzr:el.row z=List.zipWith zc el.shs el.zvs:=by rw[el.row_flat,hz',ut]
         obtain⟨kk,hkk⟩:=AK h1;refine⟨tc,_,{ S with gh:=S.gh++ [some ⟨el,List.replicate n.toNat z,none⟩] },eW,?_,TS.ok_gh hS (eK.app _ _),?_,h⟩
         ·simp only[eX,e1,e2,if_neg hne,g1,ai];rw[oT g2 g5 g6];simp only[ai,dw,hs,hkk]
          have hn:n<=n*(ti.el:Int):=by
           have h1e: (1:Int)<=ti.el:=by omega
           have:=Int.mul_le_mul_of_nonneg_left h1e (Int.le_of_lt hb.1)
           rwa [Int.mul_one] at this
          show (if 0<n/\_ then _ else _)=_;rw[if_pos ⟨hb.1,by rw[g3,Int.mul_comm]; exact hb.2,Int.le_trans hn hb.2,by rw[g2]; exact el.width_pos⟩];rw[pH,g2];simp only[dI.tree,dj,hzr];rfl
         ·refine⟨by simp,fun _=>⟨rfl,rfl,fun tr htr=> ?_⟩⟩;rw[fX,if_pos rfl] at htr;cases htr;simp
        ·cases h
       ·cases h
      ·cases h
     |true=>
     rw[htb] at h;simp only[cond_true] at h;have h':=h;have ht:t=t':=ao htb;clear h;subst ht;have e1:as= #[s,x] :=by apply Array.ext'; simpa using e1
     have e2:ts= #[t,t] :=by apply Array.ext'; simpa using e2
     subst e1 e2;obtain⟨v,S1,h1,h2,h3,h4⟩:=AG (D:=tc) (dst:=dst) (ty:=ty) (pos:=pos) (aft:=aft) (gd:=gd) hΘ hS h';exact⟨tc,v,S1,eW,h1,h2,h3,h4⟩
    ·cases h
   | _=>exact vals h (fun D=>rfl)
 | _=>exact vals h (fun D=>rfl)
end
end
end Go.Proofs.Ytpagmogboinlpaa.En
