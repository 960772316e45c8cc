import Derived.Test.YtpagmogboinlpaaZX6
namespace Go.Proofs.Ytpagmogboinlpaa.En
section
open Go
theorem c5 {α β:Type} {P:Program} (s:Sem α) (f:α->Sem β):c7 P (s >>=f)=(c7 P s).bind fun a=>c7 P (f a):=by
 show c7 P (s.bind f)=_
 induction s with
 |pure a=>rfl
 |program k ih=>exact ih P
 | _=>rfl
theorem c6 {α:Type} {P:Program} (a:α):c7 P (pure a)=some a:=rfl
theorem iw: ∀ {zs:List Value} {a:List Cl},ej zs a=true-> ∃xs:List Value,a=xs.map (fun x=>Cl.c (.sc x))
 | [],[],_=>⟨[],rfl⟩
 | .int k n::zs,a,h=>by
   unfold ej at h;split at h
   ·rename_i heq;cases heq
   ·rename_i k1 n1 zs1 k2 n2 cs h1;have hd:=h;cases hk:decide (k1=k2) with
    |false=>rw[hk] at h; cases h
    |true=>rw[hk] at h;obtain⟨xs,hx⟩:=iw (zs:=zs1) (a:=cs) h;exact⟨.int k2 n2::xs,by rw[hx]; rfl⟩
   ·rename_i b1 zs1 b2 cs h1;cases h1
   ·cases h
 | .bool b::zs,a,h=>by
   unfold ej at h;split at h
   ·rename_i heq;cases heq
   ·rename_i h1;cases h1
   ·rename_i b1 zs1 b2 cs h1;obtain⟨xs,hx⟩:=iw (zs:=zs1) (a:=cs) h;exact⟨.bool b2::xs,by rw[hx]; rfl⟩
   ·cases h
 | .float _ _::_,_,h=>by simp[ej] at h
 | .complex _ _ _::_,_,h=>by simp[ej] at h
 | .string _::_,_,h=>by simp[ej] at h
 | .pointer _::_,_,h=>by simp[ej] at h
 | .slice _ _ _::_,_,h=>by simp[ej] at h
 | .map _::_,_,h=>by simp[ej] at h
 | .chan _::_,_,h=>by simp[ej] at h
 | .func _ _ _::_,_,h=>by simp[ej] at h
 | .nilFunc::_,_,h=>by simp[ej] at h
 | .iface _ _::_,_,h=>by simp[ej] at h
 | .nilIface::_,_,h=>by simp[ej] at h
 | .agg _::_,_,h=>by simp[ej] at h
 | .tuple _::_,_,h=>by simp[ej] at h
 | [],_::_,h=>by simp[ej] at h
theorem qq (f:AV->Option Value) (hf: ∀v,f (.sc v)=some v): ∀xs:List Value,((xs.map fun x=>Cl.c (.sc x)).map Cl.av).mapM f=some xs
 | [] =>rfl
 |x::xs=>by simp only[aJ,cu,qq f hf xs];show (f (.sc x)).bind _=_;rw[hf];rfl
theorem qs (xs:List Value):gi (V.v (.agg (xs.map fun x=>Cl.c (.sc x)))).av=some (.agg xs.toArray):=by simp only[V.av,V1.av,gi];rw[qq _ (fun _=>rfl)];rfl
theorem dl {P:Program} {t:TypeId} {d:TypeDesc} (h:P.underlying t=some d):c7 P (underlying t)=some d:=by simp only[underlying,c5,program,c7,ak,h];rfl
section
variable {ρ:Type} {P:Program} {Θ:fp} {S:TS}
theorem sG (hΘ:dA P Θ) {t:TypeId} {x y:V} {κ:Bool->Option ρ} {r:ρ} (h:vP Θ t x y κ=some r):
  ∃b,κ b=some r/\((∃k a c,x.av= .sc (.int k a)/\y.av= .sc (.int k c)/\b=(a==c))\/
   ((∀k a k' c,¬ (x.av= .sc (.int k a)/\y.av= .sc (.int k' c)))/\ ∃xv yv,gi x.av=some xv/\gi y.av=some yv/\(∀op xo yo,c7 P (eqGuard op t xo yo xv yv)=some ())/\c7 P (binOp .eql t xv yv)=some (.bool b)/\c7 P (binOp .neq t xv yv)=some (.bool (!b)))):=by
 unfold vP at h;split at h
 ·rename_i k a k' c;split at h
  ·rename_i hk;subst hk;exact⟨_,h, .inl ⟨k,a,c,rfl,rfl,rfl⟩⟩
  ·cases h
 ·rename_i a c;split at h
  ·rename_i ti hti;split at h
   ·rename_i hb;have hu:=(hΘ _ _ hti).bool hb
    have hE:c7 P (Op.equal t (.bool a) (.bool c))=some (a==c):=by show c7 P (Op.equalIn (9999+1) t (.bool a) (.bool c))=_;rw[Op.equalIn];simp only[c5,dl hu,ak,c6]
    refine⟨_,h, .inr ⟨fun k a k' c hc=>by simp[V.av,V1.av,Cl.av,C.av] at hc, .bool a, .bool c,rfl,rfl,fun op xo yo=> ?_,?_,?_⟩⟩
    ·cases op<;>simp[eqGuard,c6]<;>rfl
    ·simp only[binOp,c5,hE,ak,c6]
    ·simp only[binOp,c5,hE,ak,c6]
   ·cases h
  ·cases h
 ·rename_i a c;refine⟨_,h, .inr ⟨fun k a k' c hc=>by simp[V.av,V1.av,Cl.av,C.av] at hc, .string a, .string c,rfl,rfl,fun op xo yo=> ?_,?_,?_⟩⟩
  ·cases op<;>simp[eqGuard,c6]<;>rfl
  ·simp only[binOp,Op.stringOp,c6];rfl
  ·simp only[binOp,Op.stringOp,c6];rfl
 ·rename_i a c;split at h
  ·rename_i ti hti;obtain⟨h1,h'⟩:=cX h;simp only[al] at h1;obtain⟨⟨⟨h1,hfl⟩,h2⟩,h3⟩:=h1;split at h'
   ·rename_i b hb;obtain⟨xs,hx⟩:=iw h2;obtain⟨ys,hy⟩:=iw h3;have hok:=hΘ _ _ hti;have hE:=hok.eq h1 a c b xs ys h2 h3 hb hx hy;have hg:=hok.gu h1 hfl;refine⟨_,h', .inr ⟨fun k a k' c hc=>by simp[V.av,V1.av] at hc, .agg xs.toArray, .agg ys.toArray,by rw[hx]; exact qs xs,by rw[hy]; exact qs ys,fun op xo yo=> ?_,?_,?_⟩⟩
    ·cases op<;>simp[eqGuard,c5,c6,program,c7,hg]
    ·simp only[binOp,c5,hE,ak,c6]
    ·simp only[binOp,c5,hE,ak,c6]
   ·cases h'
  ·cases h
 ·cases h
theorem e8 {f:IntKind->Int->Int->Option ρ} {x y:V} {r:ρ} (h:V.ints f x y=some r): ∃k a b,x.av= .sc (.int k a)/\y.av= .sc (.int k b)/\f k a b=some r:=by
 unfold V.ints at h;split at h
 ·split at h
  ·rename_i k a k' b hk;subst hk;exact⟨k,a,b,rfl,rfl,h⟩
  ·cases h
 ·cases h
theorem t5 (hΘ:dA P Θ) {D:fR} {op:BinOp} {t t':TypeId} {x y:Operand} {κ:V->Option ρ} {r:ρ} (h:vu Θ op t (S.opd x) (S.opd y) κ=some r) {dst:Option Tmp} {ty:TypeId} {pos:String} {aft:Array Edge} {gd:Option (Nat×Bool)}:
  ∃v:V,cY D P S.st ⟨dst, .binOp op t x y t',ty,pos,aft,gd⟩=some v.av/\(∀G,v.ok G)/\κ v=some r:=by
 have eqs: ∀ (b:Bool) (xv yv:Value),gi (opd S.st x)=some xv->gi (opd S.st y)=some yv->c7 P (eqGuard op t x y xv yv)=some ()->c7 P (binOp op t xv yv)=some (.bool b)->
   c8 P S.st ⟨dst, .binOp op t x y t',ty,pos,aft,gd⟩=some (.sc (.bool b)):=by
  intro b xv yv h1 h2 h3 h4;unfold c8;rw[if_pos (by simp[Op.operands,h1,h2])];simp only[execOp,h1,h2,aD,c5,h3,h4,ak,c6,vS,eV,if_true]
 cases op with
 |lss=>obtain⟨k,a,b,h1,h2,h3⟩:=e8 h; exact⟨_,by simp only[cY,c4,h1,h2,if_true]; rfl,fun G=>V.ok_sc G _,h3⟩
 |leq=>obtain⟨k,a,b,h1,h2,h3⟩:=e8 h; exact⟨_,by simp only[cY,c4,h1,h2,if_true]; rfl,fun G=>V.ok_sc G _,h3⟩
 |gtr=>obtain⟨k,a,b,h1,h2,h3⟩:=e8 h; exact⟨_,by simp only[cY,c4,h1,h2,if_true]; rfl,fun G=>V.ok_sc G _,h3⟩
 |geq=>obtain⟨k,a,b,h1,h2,h3⟩:=e8 h; exact⟨_,by simp only[cY,c4,h1,h2,if_true]; rfl,fun G=>V.ok_sc G _,h3⟩
 |add=>
  have h:vt (S.opd x) (S.opd y) κ=some r:=h;unfold vt at h;split at h
  ·rename_i a b g1 g2;obtain⟨h0,h⟩:=dh h;have hx:gi (opd S.st x)=some (.string a):=by rw[c4,g1]; rfl
   have hy:gi (opd S.st y)=some (.string b):=by rw[c4,g2]; rfl
   refine⟨_,?_,fun G=>V.ok_sc G _,h⟩;simp only[cY,c4,g1,g2];show c8 P S.st ⟨dst, .binOp .add t x y t',ty,pos,aft,gd⟩=_
   have hz: ¬ ((a.size+b.size:Nat):Int)>IntKind.i64.max:=by have :IntKind.i64.max=9223372036854775807:=rfl;omega
   have e:c7 P (binOp .add t (.string a) (.string b))=some (.string (a++b)):=by simp only[binOp,Op.stringOp,if_neg hz,c6]
   have g:c7 P (eqGuard .add t x y (.string a) (.string b))=some ():=rfl;unfold c8;rw[if_pos (by simp[Op.operands,hx,hy])];simp only[execOp,hx,hy,aD,c5,g,e,ak,c6,vS,eV,if_true];rfl
  ·obtain⟨k,a,b,h1,h2,h3⟩:=e8 h; exact⟨_,by simp only[cY,c4,h1,h2,if_true]; rfl,fun G=>V.ok_sc G _,h3⟩
 |sub=>obtain⟨k,a,b,h1,h2,h3⟩:=e8 h; exact⟨_,by simp only[cY,c4,h1,h2,if_true]; rfl,fun G=>V.ok_sc G _,h3⟩
 |mul=>obtain⟨k,a,b,h1,h2,h3⟩:=e8 h; exact⟨_,by simp only[cY,c4,h1,h2,if_true]; rfl,fun G=>V.ok_sc G _,h3⟩
 |eql=>
  have h':vP Θ t (S.opd x) (S.opd y) (fun r=>κ (V.sc (.bool r)))=some r:=h;obtain⟨b,h1,h2⟩:=sG hΘ h';refine⟨_,?_,fun G=>V.ok_sc G _,h1⟩;rcases h2 with ⟨k,a,c,e1,e2,rfl⟩| ⟨hn,xv,yv,e1,e2,e3,e4,e5⟩
  ·simp only[cY,c4,e1,e2,if_true]; rfl
  ·simp only[cY];split
   ·rename_i k a k' c g1 g2;exact absurd ⟨by rw[<-c4]; exact g1,by rw[<-c4]; exact g2⟩ (hn k a k' c)
   ·exact eqs b xv yv (by rw[c4]; exact e1) (by rw[c4]; exact e2) (e3 _ _ _) e4
 |neq=>
  have h':vP Θ t (S.opd x) (S.opd y) (fun r=>κ (V.sc (.bool (!r))))=some r:=h;obtain⟨b,h1,h2⟩:=sG hΘ h';refine⟨_,?_,fun G=>V.ok_sc G _,h1⟩;rcases h2 with ⟨k,a,c,e1,e2,rfl⟩| ⟨hn,xv,yv,e1,e2,e3,e4,e5⟩
  ·simp only[cY,c4,e1,e2,if_true]; rfl
  ·simp only[cY];split
   ·rename_i k a k' c g1 g2;exact absurd ⟨by rw[<-c4]; exact g1,by rw[<-c4]; exact g2⟩ (hn k a k' c)
   ·exact eqs (!b) xv yv (by rw[c4]; exact e1) (by rw[c4]; exact e2) (e3 _ _ _) e5
 |quo=>
  have h':V.ints (fun k a b=>if b=0 then none else κ (V.sc (.int k (k.wrap (a.tdiv b))))) (S.opd x) (S.opd y)=some r:=h;obtain⟨k,a,b,h1,h2,h3⟩:=e8 h';split at h3
  ·cases h3
  ·rename_i hb;refine⟨_,?_,fun G=>V.ok_sc G _,h3⟩;have hx:gi (opd S.st x)=some (.int k a):=by rw[c4,h1]; rfl
   have hy:gi (opd S.st y)=some (.int k b):=by rw[c4,h2]; rfl
   simp only[cY];unfold c8;rw[if_pos (by simp[Op.operands,hx,hy])]
   have e:c7 P (binOp .quo t (.int k a) (.int k b))=some (.int k (k.wrap (a.tdiv b))):=by simp only[binOp,ne_eq,not_true,if_false,Op.intDiv,if_neg hb,c6]
   have e2:c7 P (execOp (fun x=>(gi (opd S.st x)).getD undef) ⟨dst, .binOp .quo t x y t',ty,pos,aft,gd⟩)=some (.value (.int k (k.wrap (a.tdiv b)))):=by show c7 P (do pure (Next.value (<-(do eqGuard .quo t x y ((gi (opd S.st x)).getD undef) ((gi (opd S.st y)).getD undef); binOp .quo t ((gi (opd S.st x)).getD undef) ((gi (opd S.st y)).getD undef)))))=_;rw[hx,hy];have g:c7 P (eqGuard .quo t x y (.int k a) (.int k b))=some ():=rfl;simp only[c5,aD,g,e,ak,c6]
   rw[e2];rfl
 |rem=>
  have h':V.ints (fun k a b=>if b=0 then none else κ (V.sc (.int k (a.tmod b)))) (S.opd x) (S.opd y)=some r:=h;obtain⟨k,a,b,h1,h2,h3⟩:=e8 h';split at h3
  ·cases h3
  ·rename_i hb;refine⟨_,?_,fun G=>V.ok_sc G _,h3⟩;have hx:gi (opd S.st x)=some (.int k a):=by rw[c4,h1]; rfl
   have hy:gi (opd S.st y)=some (.int k b):=by rw[c4,h2]; rfl
   simp only[cY];unfold c8;rw[if_pos (by simp[Op.operands,hx,hy])]
   have e:c7 P (binOp .rem t (.int k a) (.int k b))=some (.int k (a.tmod b)):=by simp only[binOp,ne_eq,not_true,if_false,Op.intDiv,if_neg hb,c6]
   have e2:c7 P (execOp (fun x=>(gi (opd S.st x)).getD undef) ⟨dst, .binOp .rem t x y t',ty,pos,aft,gd⟩)=some (.value (.int k (a.tmod b))):=by show c7 P (do pure (Next.value (<-(do eqGuard .rem t x y ((gi (opd S.st x)).getD undef) ((gi (opd S.st y)).getD undef); binOp .rem t ((gi (opd S.st x)).getD undef) ((gi (opd S.st y)).getD undef)))))=_;rw[hx,hy];have g:c7 P (eqGuard .rem t x y (.int k a) (.int k b))=some ():=rfl;simp only[c5,aD,g,e,ak,c6]
   rw[e2];rfl
 | _=>simp[vu] at h
end
end
section
open Go
theorem oS {G:List (Option de)}: ∀ (l:List V) (cs:List Cl),(∀v∈l,v.ok G)->oG l=some cs->l.map V.av=cs.map Cl.av/\ ∀c∈cs,c.ok G
 | [],cs,_,h=>by simp only[oG,ae] at h;subst h;exact⟨rfl,fun c hc=>by cases hc⟩
 |v::l,cs,hl,h=>by
  unfold oG at h;split at h
  ·rename_i heq; cases heq
  ·rename_i c l' heq;cases heq;split at h
   ·rename_i r hr;simp only[ae] at h;subst h;obtain⟨h1,h2⟩:=oS l r (fun v hv=>hl v (az _ hv)) hr;refine⟨by simp only[aJ,h1]; rfl,fun x hx=> ?_⟩;rcases aV.1 hx with rfl|hx
    ·exact hl _ aE
    ·exact h2 x hx
   ·cases h
  ·cases h
section
variable {ρ:Type} {P:Program} {Θ:fp} {S:TS} {D:fR}
theorem mD (hΘ:dA P Θ) (hS:S.ok) {o:Oper} {κ:V->TS->Option ρ} {r:ρ} (h:lw Θ S o κ=some r):
  ∃v S',cY D P S.st o=some v.av/\S'.st=S.st/\S'.ok/\S'.gh=S.gh/\v.ok S.gh/\κ v S'=some r:=by
 have ok: ∀x,(S.opd x).ok S.gh:=fun x=>ew hS x;have done: ∀ {v:V},cY D P S.st o=some v.av->v.ok S.gh->κ v S=some r-> ∃v S',cY D P S.st o=some v.av/\S'.st=S.st/\S'.ok/\S'.gh=S.gh/\v.ok S.gh/\κ v S'=some r:=fun h1 h2 h3=>⟨_,S,h1,rfl,hS,rfl,h2,h3⟩
 obtain⟨dst,op,ty,pos,aft,gd⟩:=o;unfold lw at h;cases op with
 |move x=>exact done (by simp only[cY,c4]) (ok x) h
 |assign x=>exact done (by simp only[cY,c4]) (ok x) h
 |pick c a b=>
  simp only at h;obtain⟨t,S1,h1,h2,h3,h4,h⟩:=lB hS h;cases t with
  |true=>exact⟨_,S1,by simp only[cY,h1,if_true]; rw[<-h2,c4],h2,h3,h4,by rw[<-h4]; exact ew h3 _,h⟩
  |false=>exact⟨_,S1,by simp only[cY,h1,aM,if_false]; rw[<-h2,c4],h2,h3,h4,by rw[<-h4]; exact ew h3 _,h⟩
 |load t a=>simp only at h;obtain⟨u,h1,h2,h⟩:=oQ hΘ hS (ok a) h;exact done (by simp only[cY,c4]; exact h1) h2 h
 |nilCheck x=>
  simp only at h;split at h<;>rename_i hx
  ·exact done (by simp only[cY,c4,hx]; rfl) (by rw[<-hx]; exact ok x) h
  ·exact done (by simp only[cY,c4,hx]; rfl) (by rw[<-hx]; exact ok x) h
  ·exact done (by simp only[cY,c4,hx]; rfl) (by rw[<-hx]; exact ok x) h
  ·exact done (by simp only[cY,c4,hx]; rfl) (by rw[<-hx]; exact ok x) h
  ·exact done (by simp only[cY,c4,hx]; rfl) (by rw[<-hx]; exact ok x) h
  ·cases h
 |fieldAddr t x k=>
  simp only at h;split at h
  ·rename_i ti hti;split at h
   ·rename_i off n ag hk;have hfd:=(hΘ _ _ hti).fd k;rw[hk] at hfd;cases hn:Nat.beq n 0 with
    |true=>rw[hn] at h; cases h
    |false=>
     rw[hn] at h;have hn': ¬n=0:=by intro h0; subst h0; cases hn
     simp only[cond_false] at h;split at h<;>rename_i hx
     ·refine done ?_ ?_ h
      ·simp only[cY,hfd,ak,c4,hx];rw[if_neg hn'];rfl
      ·trivial
     ·refine done ?_ ?_ h
      ·simp only[cY,hfd,ak,c4,hx];rw[if_neg hn'];rfl
      ·have:=ok x;rw[hx] at this;exact this
     ·refine done ?_ ?_ h
      ·simp only[cY,hfd,ak,c4,hx];rw[if_neg hn'];simp[V.av,V1.av,Cl.av,bz]
      ·trivial
     ·cases h
   ·cases h
  ·cases h
 |field t x k=>
  simp only at h;split at h
  ·rename_i ti hti;split at h
   ·rename_i off n ag hk;have hfd:=(hΘ _ _ hti).fd k;rw[hk] at hfd;split at h
    ·rename_i cs hx;obtain⟨h1,h⟩:=cX h;simp only[al] at h1;have h2:off+n<=cs.length:=aw h1.1;have h3:0<n:=aw h1.2;have hcs:=ok x;rw[hx] at hcs;obtain⟨v,h4,h5,h⟩:=sE (G:=S.gh) (fun c hc=>hcs c (bC (bO hc))) h;refine done ?_ h5 h;simp only[cY,hfd,ak,c4,hx,V.av,V1.av,ay];rw[if_pos ⟨h2,h3⟩,<-bz,<-bh];exact h4
    ·cases h
   ·cases h
  ·cases h
 |indexAddr t x ix=>
  simp only at h;split at h
  ·rename_i ti hti;split at h
   ·rename_i e he;obtain⟨el,g1,g2,_⟩:=(hΘ _ _ hti).el e he;obtain⟨i,h1,h⟩:=js h;split at h
    ·rename_i a hx;have ha:=ok x;rw[hx] at ha;obtain⟨c,h2,h3,h⟩:=tY ha h;refine done ?_ ?_ h
     ·simp only[cY,g1,ak,c4,h1,hx,g2];exact h2
     ·exact h3
    ·cases h
   ·cases h
  ·cases h
 |build t parts=>
  simp only at h;split at h
  ·rename_i ti hti;obtain⟨h1,h⟩:=cX h;split at h
   ·rename_i cs hcs;have hok:=hΘ _ _ hti
    obtain⟨g1,g2⟩:=t4 (G:=S.gh) _ _ _ _ (fun c hc=>by
     obtain⟨v,_,rfl⟩:=aI.1 hc;exact qo _ _) (fun y hy=>by
     obtain⟨z,_,rfl⟩:=aI.1 hy;exact ok z.2) hcs
    refine done ?_ ?_ h
    ·simp only[cY,hok.pl h1,hok.ze,ak]
     have e1:ti.ty.zvs.map kD=(ti.ty.zvs.map cC).map Cl.av:=by rw[aU];exact aG fun v _=>(fx v).symm
     have e2:parts.toList.map (fun x=>(x.1,opd S.st x.2))=(parts.toList.map fun x=>(x.1,S.opd x.2)).map fun x=>(x.1,x.2.av):=by rw[aU];exact aG fun x _=>by simp[c4]
     rw[e1,e2,g1];rfl
    ·exact g2
   ·cases h
  ·cases h
 |slice t x lo hi mx=>
  cases mx with
  |some m=>simp at h
  |none=>
   simp only at h;split at h
   ·rename_i ti hti;split at h
    ·rename_i e he;obtain⟨el,g1,g2,_⟩:=(hΘ _ _ hti).el e he;split at h
     ·rename_i a hx;have ha:=ok x;rw[hx] at ha;obtain⟨n,h1,h⟩:=qp ha h;obtain⟨l,h2,h⟩:=mC h;obtain⟨m,h3,h⟩:=mC h;obtain⟨c,h4,h5,h⟩:=tZ ha h;refine done ?_ ?_ h
      ·simp only[cY,c4,hx];split
       ·rename_i s hs;have hs':a.av= .sc (.string s):=hs;rw[hs'] at h1;cases h1
       ·show (iG P t).bind _=_;rw[g1];simp only[ak];show (gO a.av).bind _=_;rw[h1];simp only[ak,h2,h3,g2];exact h4
      ·exact h5
     ·cases h
    ·cases h
   ·cases h
 |extract x k=>
  simp only at h;split at h
  ·rename_i vs hx;split at h
   ·rename_i v hv;have hvs:=ok x;rw[hx] at hvs;rw[dE] at hv;refine done ?_ ?_ h
    ·simp only[cY,c4,hx,V.av,an,hv,ax]
    ·exact hvs v (aq hv)
   ·cases h
  ·cases h
 |makeFunc fn first caps=>
  cases fn with
  |func f=>
   simp only at h;obtain⟨h1,h⟩:=cX h;split at h
   ·rename_i cs hcs
    obtain⟨g1,g2⟩:=oS (G:=S.gh) _ _ (fun v hv=>by obtain⟨y,_,rfl⟩:=aI.1 hv;exact ok y) hcs
    refine done ?_ ?_ h
    ·simp only[cY,h1,if_true]
     have e:caps.toList.map (opd S.st)=(caps.toList.map S.opd).map V.av:=by rw[aU];exact aG fun x _=>c4 x
     rw[e,g1];rfl
    ·exact g2
   ·cases h
  | _=>simp at h
 |unOp op t x=>
  cases op with
  |not=>
   simp only at h;split at h
   ·rename_i b hx;refine done ?_ ?_ h
    ·simp only[cY,c4,hx]; rfl
    ·trivial
   ·cases h
  | _=>simp at h
 |binOp op t x y t'=>simp only at h;obtain⟨v,h1,h2,h⟩:=t5 (D:=D) (t':=t') (dst:=dst) (ty:=ty) (pos:=pos) (aft:=aft) (gd:=gd) hΘ h;exact done h1 (h2 _) h
 |call c=>
  obtain⟨cl,as,ts⟩:=c;cases cl with
  |value f=>simp at h
  |invoke a b=>simp at h
  |builtin b=>
   cases b with
   |cap=>
    simp only at h;split at h
    ·rename_i x t e1 e2;split at h
     ·rename_i ti hti;split at h
      ·rename_i e he;obtain⟨el,g1,g2,_⟩:=(hΘ _ _ hti).el e he;split at h
       ·rename_i hx;refine done ?_ ?_ h
        ·simp only[cY,e1,e2,g1,Option.isSome_some,if_true,c4,hx];rfl
        ·trivial
       ·cases h
      ·cases h
     ·cases h
    ·cases h
   |len=>
    simp only at h;split at h
    ·rename_i x t e1 e2;split at h
     ·rename_i ti hti;split at h
      ·rename_i e he;obtain⟨el,g1,g2,_⟩:=(hΘ _ _ hti).el e he;split at h
       ·rename_i a hx;have ha:=ok x;rw[hx] at ha;obtain⟨n,h1,h⟩:=qp ha h;refine done ?_ ?_ h
        ·simp only[cY,e1,e2,g1,Option.isSome_some,if_true,c4,hx];show (gO a.av).map _=_;rw[h1];rfl
        ·trivial
       ·cases h
      ·cases h
     ·cases h
    ·cases h
   |max=>
    simp only at h;split at h
    ·rename_i x y e1;obtain⟨k,a,b,h1,h2,h⟩:=e8 h;refine done ?_ (V.ok_sc _ _) h;simp only[cY,e1,aJ,bM,c4,h1,h2];rfl
    ·cases h
   |min=>
    simp only at h;split at h
    ·rename_i x y e1;obtain⟨k,a,b,h1,h2,h⟩:=e8 h;refine done ?_ (V.ok_sc _ _) h;simp only[cY,e1,aJ,bM,c4,h1,h2];rfl
    ·cases h
   | _=>simp at h
 |convert s d x=>
  simp only at h;split at h
  ·rename_i si di hs hd;split at h
   ·rename_i k' hk;split at h
    ·rename_i k n hx;refine done ?_ (V.ok_sc _ _) h;have hud:=(hΘ _ _ hd).int _ hk
     obtain⟨ds,hus⟩: ∃ds,P.underlying s=some ds:=by
      have:=(hΘ _ _ hs).ag;unfold lZ at this;cases hu:P.underlying s with
      |none=>rw[hu] at this; cases this
      |some ds=>exact⟨ds,rfl⟩
     have hxv:gi (opd S.st x)=some (.int k n):=by rw[c4,hx]; rfl
     simp only[cY];unfold c8;rw[if_pos (by simp[Op.operands,hxv])]
     have e:c7 P (Go.convert s d (.int k n))=some (.int k' (k'.wrap n)):=by unfold Go.convert;simp only[c5,dl hus,dl hud,ak];cases ds<;>rfl
     have e2:c7 P (execOp (fun x=>(gi (opd S.st x)).getD undef) ⟨dst, .convert s d x,ty,pos,aft,gd⟩)=some (.value (.int k' (k'.wrap n))):=by show c7 P (do pure (Next.value (<-Go.convert s d ((gi (opd S.st x)).getD undef))))=_;rw[hxv];simp only[c5,aD,e,ak,c6]
     rw[e2];rfl
    ·cases h
   ·cases h
  ·cases h
 |index t x ix=>
  simp only at h;split at h
  ·rename_i ti hti;split at h
   ·rename_i hs;split at h
    ·rename_i s k i hx hi;unfold eD at h;split at h
     ·rename_i h0;obtain⟨b,hb,h⟩:=ah.1 h;refine done ?_ (V.ok_sc _ _) h
      have hus:P.underlying t=some .string:=by
       have:=(hΘ _ _ hti).str;rw[hs] at this;unfold mQ at this;split at this
       ·assumption
       ·cases this
      have hxv:gi (opd S.st x)=some (.string s):=by rw[c4,hx]; rfl
      have hiv:gi (opd S.st ix)=some (.int k i):=by rw[c4,hi]; rfl
      have hxa:opd S.st x= .sc (.string s):=by rw[c4,hx]; rfl
      simp only[cY,hxa];unfold c8;rw[if_pos (by simp[Op.operands,hxv,hiv])]
      have e:c7 P (Instr.index t (.string s) (.int k i))=some (.int .u8 b.toNat):=by unfold Instr.index;simp only[c5,asIntOf,c6,ak,dl hus];rw[if_pos h0,hb];rfl
      have e2:c7 P (execOp (fun x=>(gi (opd S.st x)).getD undef) ⟨dst, .index t x ix,ty,pos,aft,gd⟩)=some (.value (.int .u8 b.toNat)):=by show c7 P (do pure (Next.value (<-Instr.index t ((gi (opd S.st x)).getD undef) ((gi (opd S.st ix)).getD undef))))=_;rw[hxv,hiv];simp only[c5,aD,e,ak,c6]
      rw[e2];rfl
     ·cases h
    ·cases h
   ·cases h
  ·cases h
 | _=>simp at h
end
end
section
open Go
theorem e9 {G:List (Option de)} {x:Option de} (r:Nat):du (G++ [x]) r=if r=G.length then x else du G r:=by
 unfold du;rw[dE,dE];by_cases h:r=G.length
 ·subst h; simp
 ·rw[if_neg h];rcases bV r G.length with h'|h'
  ·rw[aF h']
  ·rw[bA (by simp; omega),bA h']
theorem jS {G:List (Option de)} (l:List de) (r:Nat):du (G++l.map some) r=if G.length<=r then l[r-G.length]? else du G r:=by
 unfold du;rw[dE,dE];by_cases h:G.length<=r
 ·rw[if_pos h,aL h,an];cases l[r-G.length]?<;>rfl
 ·rw[if_neg h,aF (by omega)]
theorem iy {G:List (Option de)} {r:Nat} (h:G.length<=r):du G r=none:=by unfold du;rw[dE,bA h];rfl
theorem iz {G:List (Option de)} {r:Nat} {tr:de} (h:du G r=some tr):r<G.length:=by
 rcases bV r G.length with h'|h'
 ·exact h'
 ·rw[iy h'] at h; cases h
theorem fk {G:List (Option de)} {x:Option de} (q r:Nat) (hq:q<G.length\/x=none):du (dp G q x) r=if r=q then x else du G r:=by
 unfold du;rw[dE,dE,dK,bg];by_cases h:q=r
 ·subst h;simp only[if_true];rcases hq with hq|rfl
  ·rw[if_pos hq]; rfl
  ·split<;>rfl
 ·rw[if_neg h,if_neg (fun e=>h e.symm)]
theorem dM.app (G:List (Option de)) (x:Option de):dM G (G++ [x]):=⟨by simp,fun r tr hr h=>by rw[e9,if_neg (by omega)] at h;exact⟨tr,h,rfl⟩⟩
theorem dM.apps (G:List (Option de)) (l:List de):dM G (G++l.map some):=⟨by simp,fun r tr hr h=>by rw[jS,if_neg (by omega)] at h;exact⟨tr,h,rfl⟩⟩
theorem dM.gone (G:List (Option de)) (q:Nat):dM G (dp G q none):=⟨by rw[dK]; simp,fun r tr hr h=>by
 rw[fk q r (.inr rfl)] at h;split at h
 ·cases h
 ·exact⟨tr,h,rfl⟩⟩
theorem dM.put {G:List (Option de)} {q:Nat} {tr tr':de} (h:du G q=some tr) (hl:tr'.l.length=tr.l.length):dM G (dp G q (some tr')):=⟨by rw[dK]; simp,fun r t hr h'=>by
 rw[fk q r (.inl (iz h))] at h';split at h'
 ·rename_i hq;subst hq;cases h';exact⟨tr,h,hl.symm⟩
 ·exact⟨t,h',rfl⟩⟩
theorem TS.ok_gh {S:TS} (hS:S.ok) {G:List (Option de)} (hG:dM S.gh G): ({ S with gh:=G }:TS).ok:=
 ⟨fun x hx=>V.ok_mono hG (hS.env x hx),fun cs hcs c hc=>Cl.ok_mono hG (hS.bx cs hcs c hc)⟩
theorem lC (S:TS) (x:de): ({ S with gh:=S.gh++ [some x] }:TS).st= { S.st with gh:=c9 S.st.gh S.gh.length (some x.tree),ng:=S.gh.length+1 } :=by
 unfold TS.st;simp only[bk,cO]
 congr 1
 funext r
 rw[e9];unfold c9;split<;>rfl
theorem jt (S:TS) (q:Nat): ({ S with gh:=dp S.gh q none }:TS).st= { S.st with gh:=c9 S.st.gh q none } :=by
 unfold TS.st;simp only;have : (dp S.gh q none).length=S.gh.length:=by rw[dK]; simp
 rw[this]
 congr 1
 funext r
 rw[fk q r (.inr rfl)];unfold c9;split<;>rfl
theorem jT (S:TS) {q:Nat} (x:de) (hq:q<S.gh.length): ({ S with gh:=dp S.gh q (some x) }:TS).st= { S.st with gh:=c9 S.st.gh q (some x.tree) } :=by
 unfold TS.st;simp only;have : (dp S.gh q (some x)).length=S.gh.length:=by rw[dK]; simp
 rw[this]
 congr 1
 funext r
 rw[fk q r (.inl hq)];unfold c9;split<;>rfl
theorem pW (S:TS) (cs:List Cl): ({ S with bx:=S.bx++ [cs] }:TS).st= { S.st with bx:=c9 S.st.bx S.bx.length (some (cs.map Cl.av)),nb:=S.bx.length+1 } :=by
 unfold TS.st;simp only[bk,cO]
 congr 1
 funext n
 unfold c9;simp only[dE];by_cases h:n=S.bx.length
 ·subst h; simp
 ·rw[if_neg h];rcases bV n S.bx.length with h'|h'
  ·rw[aF h']
  ·rw[bA (by simp; omega),bA h']
theorem rm (S:TS) {b:Nat} (cs:List Cl) (hb:b<S.bx.length): ({ S with bx:=dp S.bx b cs }:TS).st= { S.st with bx:=c9 S.st.bx b (some (cs.map Cl.av)) } :=by
 unfold TS.st;have : (dp S.bx b cs).length=S.bx.length:=by rw[dK]; simp
 simp only;rw[this]
 congr 1
 funext n
 unfold c9;simp only[dE];rw[dK,bg];by_cases h:b=n
 ·subst h; simp[hb]
 ·rw[if_neg h,if_neg (fun e=>h e.symm)]
theorem sH (t:Ty): (t.zvs.map cC).map Cl.av=t.zvs.map l4:=by
 cases t with
 |st n=>cases n<;>rfl
 | _=>rfl
theorem sI (G:List (Option de)) (t:Ty): ∀c∈t.zvs.map cC,c.ok G:=fun c hc=>by obtain⟨v,_,rfl⟩:=aI.1 hc;exact qo _ _
def jU (P:Program) (g:FuncId) (args:List V1) (b:Bool) (res:V) (out:List de):Prop:=
 ∃ (t:Ty) (x:t.D) (as:List V1),args=ny t x::as/\f8 P g ((rk t x 0).av::as.map V1.av) ((fD (t.flat x)).map de.tree) (bif b then (fD (t.flat x)).length else 0) res.av (out.map de.tree)
structure qt (P:Program) (f:Nat) (args:List V1) (res:V) (out:List de):Prop where
 fn:f<ed->fM P f (args.map V1.av) [] res.av (out.map de.tree)
 io: ∀g,f=ri g->g<ed->jU P g args true res out
 mv: ∀g,f=tS g->jU P g args false res out
theorem vA (g:Nat): ¬ri g<ed:=Nat.not_lt.2 (Nat.le_add_left ed g)
theorem t6 (g:Nat): ¬tS g<ed:=Nat.not_lt.2 (bu (Nat.le_add_left ed ed) (Nat.le_add_left uV g))
theorem qt.of_fn {P:Program} {f:Nat} {args:List V1} {res:V} {out:List de} (h:fM P f (args.map V1.av) [] res.av (out.map de.tree)) (hf:f<ed):qt P f args res out:=
 ⟨fun _=>h,fun g e _=>absurd (e ▸ hf) (vA g),fun g e=>absurd (e ▸ hf) (t6 g)⟩
theorem jU.get {P:Program} {g:FuncId} {el:Ty} {l:List el.D} {as:List V1} {b:Bool} {res:V} {out:List de} (h:jU P g (.cl (.c (.ls el l))::as) b res out):f8 P g (.own ⟨0,[]⟩ el.width 0 l.length::as.map V1.av) [.sl el.width (l.map el.row)] (bif b then 1 else 0) res.av (out.map de.tree):=by
 obtain⟨t,x,as',he,h⟩:=h;simp only[aY] at he;obtain⟨he,rfl⟩:=he;cases t with
 |ls el'=>have he':V1.cl (.c (.ls el l))= .cl (.c (.ls el' x)):=he;cases he';exact h
 |st n=>cases n<;>cases he
 | _=>cases he
theorem jU.getA {P:Program} {g:FuncId} {ys:List C} {as:List V1} {res:V} {out:List de} (h:jU P g (.agg (ys.map .c)::as) true res out):f8 P g (.agg ((i5 ys 0).map Cl.av)::as.map V1.av) ((fD ys).map de.tree) (fD ys).length res.av (out.map de.tree):=by
 obtain⟨t,x,as',he,h⟩:=h;simp only[aY] at he;obtain⟨he,rfl⟩:=he;cases t with
 |st n=>
  have he':V1.agg (ys.map Cl.c)= .agg ((n.flat x).map Cl.c):=he;simp only[V1.agg.injEq] at he'
  have :ys=n.flat x:=by
   have hi: ∀ (l m:List C),l.map Cl.c=m.map Cl.c->l=m:=by
    intro l
    induction l with
    |nil=>intro m hm; cases m with |nil=>rfl|cons a m=>cases hm
    |cons a l ih=>
     intro m hm;cases m with
     |nil=>cases hm
     |cons b m=>simp only[aJ,aY,Cl.c.injEq] at hm;rw[hm.1,ih m hm.2]
   exact hi _ _ he'
  subst this;exact h
 | _=>cases he
def fy (P:Program) (Y:kI):Prop:= ∀f args ρ κ r,Y f args ρ κ=some r-> ∃res out,qt P f args res out/\res.ok (out.map some)/\κ res out=some r
section
variable {ρ:Type} {P:Program} {Θ:fp} {S:TS}
theorem nA {α β:Type} {f:α->(β->Option ρ)->Option ρ} {R:α->β->Prop} (hf: ∀a κ r,f a κ=some r-> ∃b,R a b/\κ b=some r):
  ∀ (l:List α) (κ:List β->Option ρ) (r:ρ),lx f l κ=some r-> ∃bs,l.length=bs.length/\(∀ (k:Nat) (a:α) (b:β),l[k]? =some a->bs[k]? =some b->R a b)/\κ bs=some r:=by
 intro l
 induction l with
 |nil=>intro κ r h; exact⟨[],rfl,fun k a b ha=>by simp at ha,h⟩
 |cons a l ih=>
  intro κ r h;obtain⟨b,h1,h⟩:=hf a _ r h;obtain⟨bs,h2,h3,h⟩:=ih _ r h;refine⟨b::bs,by simp[h2],fun k x y hx hy=> ?_,h⟩;cases k with
  |zero=>simp at hx hy; subst hx hy; exact h1
  |succ k=>exact h3 k x y (by simpa using hx) (by simpa using hy)
theorem sJ {α β γ:Type} {f:α->γ} {g:β->γ} {l:List α} {bs:List β} (h1:l.length=bs.length) (h2: ∀ (k:Nat) (a:α) (b:β),l[k]? =some a->bs[k]? =some b->f a=g b):l.map f=bs.map g:=by
 apply bB;intro k;rw[an,an];cases ha:l[k]? with
 |none=>rw[List.getElem?_eq_none_iff] at ha;rw[bA (by omega)];rfl
 |some a=>have:=(af.1 ha).1;rw[ai (by omega:k<bs.length)];simp only[ax];rw[h2 k a _ ha (ai (by omega))]
theorem ib {p:da} {sz lo len:Nat} {t:Ty} {l:List t.D} (hc: (Cl.own p sz lo len true).ok S.gh) (h:p.l= [] ->du S.gh p.r=some ⟨t,l,none⟩):p.l= [] /\lo=0/\len=l.length:=by obtain⟨_,h2⟩:=hc;obtain⟨a,b,c⟩:=h2 rfl;exact⟨a,b,c _ (h a)⟩
theorem lD (hS:S.ok) {et:Option Ty} {c:Cl} (hc:c.ok S.gh) {κ:Cl->Option ρ} {r:ρ} (h:rj S et c κ=some r): ∃c',(∀sz,(∀t,et=some t->sz=t.width)->dt S.st sz c.av=c'.av)/\κ c'=some r:=by
 unfold rj at h;split at h
 ·rename_i x;exact⟨_,fun sz _=>by cases x<;>rfl,h⟩
 ·split at h
  ·rename_i t;exact⟨_,fun sz hsz=>by rw[hsz t rfl]; rfl,h⟩
  ·cases h
 ·rename_i p sz lo len;obtain⟨t,l,h1,h2,h⟩:=dz h;obtain⟨h3,h⟩:=cX h;have h3:t.width=sz:=ao h3;obtain⟨h4,h5,h6⟩:=ib hc h2;refine⟨_,fun sz' _=> ?_,h⟩;simp only[Cl.av,dt,<-h3,eh h1,h5,h6,aP,ay,ar,if_true,bP,C.av];rw[bW (by simp)]
 ·rename_i p sz lo len;obtain⟨t,l,h1,h2,h⟩:=dz h;obtain⟨h3,h⟩:=cX h;have h3:t.width=sz:=ao h3;obtain⟨h4,h⟩:=dh h;refine⟨_,fun sz' _=> ?_,h⟩;simp only[Cl.av,dt,<-h3,eh h1,ay,h4,if_true,C.av];simp[bh,bz]
 ·exact⟨_,fun _ _=>rfl,h⟩
 ·rename_i p sz i j;obtain⟨t,l,h1,h2,h⟩:=dz h;obtain⟨h3,h⟩:=cX h;have h3:t.width=sz:=ao h3;obtain⟨x,hx,h⟩:=ah.1 h;refine⟨_,fun sz' _=> ?_,h⟩;simp only[Cl.av,dt,<-h3,eh h1];have e1: (l.map t.row).getD i [] =t.row x:=by simp[ap,hx]
  rw[e1,t.row_flat,bz]
 ·rename_i b j;split at h
  ·rename_i cs hcs
   obtain⟨bs,h1,h2,h⟩:=nA (R:=fun (c:Cl) (x:C)=>c.ok S.gh->T.ofAV S.st 0 c.av=x.tree) (fun c κ r h=>by
    split at h
    ·rename_i x;exact⟨x,fun _=>by cases x<;>rfl,h⟩
    ·rename_i p sz lo len;obtain⟨t,l,h1,h2,h⟩:=dz h;obtain⟨h3,h⟩:=cX h;have h3:t.width=sz:=ao h3;refine⟨_,fun hc=> ?_,h⟩;obtain⟨h4,h5,h6⟩:=ib hc h2;simp only[Cl.av,T.ofAV,<-h3,eh h1,h5,h6,aP,ay,ar,if_true,bP,C.tree];rw[bW (by simp)]
    ·cases h) _ _ _ h
   refine⟨_,fun sz _=> ?_,h⟩;simp only[Cl.av,dt,TS.st,hcs,ax];rw[<-bz,aU]
   congr 1
   refine sJ h1 (fun k a b ha hb=>h2 k a b ha hb ?_);rw[dE] at hcs;exact hS.bx cs (aq hcs) a (bC (aq ha))
  ·cases h
 ·exact⟨_,fun _ _=>rfl,h⟩
theorem t7 (hS:S.ok): ∀ (ets:List (Option Ty)) (cs:List Cl) (κ:List Cl->Option ρ) (r:ρ),(∀c∈cs,c.ok S.gh)->tT S ets cs κ=some r->
  ∃cs',ets.length=cs.length/\List.zipWith (dt S.st) (ets.map fun |some e=>e.width|none=>0) (cs.map Cl.av)=cs'.map Cl.av/\κ cs'=some r:=by
 intro ets
 induction ets with
 |nil=>
  intro cs κ r hcs h;cases cs with
  |nil=>exact⟨[],rfl,rfl,h⟩
  |cons c cs=>cases h
 |cons et ets ih=>
  intro cs κ r hcs h;cases cs with
  |nil=>cases h
  |cons c cs=>unfold tT at h;obtain⟨c',h1,h⟩:=lD hS (hcs c aE) h;obtain⟨cs',h2,h3,h⟩:=ih cs _ r (fun x hx=>hcs x (az _ hx)) h;refine⟨c'::cs',by simp[h2],?_,h⟩;simp only[aJ,List.zipWith_cons_cons,h3];rw[h1];intro t ht;subst ht;rfl
theorem sK (hΘ:dA P Θ) (hS:S.ok) {t:TypeId} {v:V} (hv:v.ok S.gh) {κ:V1->Option ρ} {r:ρ} (h:wX Θ S t v κ=some r): ∃v1:V1,dX S.st (ff P 9 t) v.av=v1.av/\κ v1=some r:=by
 unfold wX at h;split at h
 ·cases h
 ·rename_i f cs
  obtain⟨bs,h1,h2,h⟩:=nA (R:=fun (c c':Cl)=>c.ok S.gh->dt S.st 0 c.av=c'.av) (fun c κ r h=>by
   by_cases hc:c.ok S.gh
   ·obtain⟨c',h1,h⟩:=lD hS hc h;exact⟨c',fun _=>h1 0 (fun t ht=>by cases ht),h⟩
   ·have : ∃c',κ c'=some r:=by
     unfold rj at h;split at h
     ·exact⟨_,h⟩
     ·cases h
     ·obtain⟨t,l,_,_,h⟩:=dz h; exact⟨_,(cX h).2⟩
     ·obtain⟨t,l,_,_,h⟩:=dz h; exact⟨_,(dh (cX h).2).2⟩
     ·exact⟨_,h⟩
     ·obtain⟨t,l,_,_,h⟩:=dz h; obtain⟨x,_,h⟩:=ah.1 (cX h).2; exact⟨_,h⟩
     ·split at h
      ·obtain⟨bs,_,_,h⟩:=nA (R:=fun _ _=>True) (fun c κ r h=>by
        split at h
        ·exact⟨_,trivial,h⟩
        ·obtain⟨t,l,_,_,h⟩:=dz h; exact⟨_,trivial,(cX h).2⟩
        ·cases h) _ _ _ h
       exact⟨_,h⟩
      ·cases h
     ·exact⟨_,h⟩
    obtain⟨c',h⟩:=this;exact⟨c',fun hc'=>absurd hc' hc,h⟩) _ _ _ h
  refine⟨_,?_,h⟩;simp only[V.av,V1.av,dX,aU]
  congr 1
  exact sJ h1 (fun k a b ha hb=>h2 k a b ha hb (hv a (aq ha)))
 ·rename_i cs;split at h
  ·rename_i ti hti;obtain⟨cs',h1,h2,h⟩:=t7 hS _ _ _ _ hv h;refine⟨_,?_,h⟩;have e: (ti.ty.csh.map fun |some e=>e.width|none=>0)=ti.ty.shs:=rfl;simp only[V.av,V1.av,dX,(hΘ _ _ hti).sh];rw[if_pos (by rw[<-e]; simpa using h1),<-e,h2]
  ·cases h
 ·exact⟨_,rfl,h⟩
 ·rename_i c hne
  have eI: ∀ (szs:List Nat),dX S.st szs (V.v (.cl c)).av=dt S.st (szs.headD 0) c.av:=by
   intro szs;cases c with
   |c x=>cases x<;>rfl
   |em=>exact absurd rfl hne
   | _=>rfl
  split at h
  ·rename_i ti hti;obtain⟨c',h1,h⟩:=lD hS hv h;refine⟨_,?_,h⟩;rw[eI];refine h1 _ (fun t ht=> ?_);rw[(hΘ _ _ hti).sh];unfold Ty.shs;cases hc:ti.ty.csh with
   |nil=>rw[hc] at ht; cases ht
   |cons a l=>rw[hc] at ht;simp only[List.headD_cons] at ht;subst ht;rfl
  ·obtain⟨c',h1,h⟩:=lD hS hv h;exact⟨_,by rw[eI]; exact h1 _ (fun t ht=>by cases ht),h⟩
theorem gx (hΘ:dA P Θ) (hS:S.ok): ∀ (ts:List TypeId) (as:List Operand) (κ:List V1->Option ρ) (r:ρ),gr Θ S ts as κ=some r->
  ∃vs:List V1,List.zipWith (fun t a=>dX S.st (ff P 9 t) (opd S.st a)) ts as=vs.map V1.av/\κ vs=some r:=by
 intro ts
 induction ts with
 |nil=>
  intro as κ r h;cases as with
  |nil=>exact⟨[],rfl,h⟩
  |cons a as=>cases h
 |cons t ts ih=>
  intro as κ r h;cases as with
  |nil=>cases h
  |cons a as=>unfold gr at h;obtain⟨v,h1,h⟩:=sK hΘ hS (ew hS a) h;obtain⟨vs,h2,h⟩:=ih as _ r h;exact⟨v::vs,by rw[List.zipWith_cons_cons,h2,c4,h1,aJ],h⟩
end
end
section
open Go
open Classical in
noncomputable def rn (d:Option Tmp) (g:FuncId) (args:List AV) (res:AV×List T):fR:=fun d' g' a' gs'=>if d'=d/\g'=g/\a'=args/\gs'= [] then some res else none
theorem lE {P:Program} {d:Option Tmp} {g:FuncId} {args:List AV} {res:AV} {out:List T} (h:fM P g args [] res out):eY P (rn d g args (res,out)):=by
 intro d' g' a' gs' r' o' h';unfold rn at h';split at h'
 ·rename_i hc;obtain⟨rfl,rfl,rfl,rfl⟩:=hc;simp only[ae,am] at h';obtain⟨rfl,rfl⟩:=h';exact h
 ·cases h'
theorem qu (d:Option Tmp) (g:FuncId) (args:List AV) (res:AV×List T):rn d g args res d g args [] =some res:=by unfold rn;rw[if_pos ⟨rfl,rfl,rfl,rfl⟩]
def nR:fR:=fun _ _ _ _=>none
theorem dQ {P:Program}:eY P nR:=fun _ _ _ _ _ _ h=>by cases h
theorem rp (n:Nat) (c:Cl): (ns n c).av=fg n c.av:=by
 cases c with
 |c x=>cases x<;>rfl
 | _=>rfl
theorem lF (n:Nat) (v:V1): (iu n v).av=eE n v.av:=by
 cases v with
 |cl c=>cases c with
  |c x=>cases x<;>rfl
  | _=>rfl
 |agg cs=>
  simp only[iu,V1.av,eE,aU]
  congr 1
  exact aG fun c _=>rp n c
 |fn f cs=>rfl
theorem jV (n:Nat) (v:V): (gK n v).av=shift n v.av:=by
 cases v with
 |v x=>
  have :shift n x.av=eE n x.av:=by
   cases x with
   |cl c=>cases c with
    |c x=>cases x<;>rfl
    | _=>rfl
   | _=>rfl
  show (iu n x).av=shift n x.av;rw[this,lF]
 |tup l=>
  simp only[gK,V.av,shift,aU]
  congr 1
  exact aG fun c _=>lF n c
theorem mE {G:List (Option de)} {out:List de} {c:Cl} (h:c.ok (out.map some)): (ns G.length c).ok (G++out.map some):=by
 cases c with
 |own p sz lo len w=>obtain⟨h1,h2⟩:=h;refine⟨by simp at h1 ⊢; omega,fun hw=> ?_⟩;obtain⟨a,b,c⟩:=h2 hw;refine⟨a,b,fun tr htr=>c tr ?_⟩;rw[jS,if_pos (by simp)] at htr;simp only[cb] at htr;unfold du;rw[dE,an,htr];rfl
 |c x=>cases x<;>trivial
 | _=>trivial
theorem lG {G:List (Option de)} {out:List de} {v:V1} (h:v.ok (out.map some)): (iu G.length v).ok (G++out.map some):=by
 cases v with
 |cl c=>exact mE h
 |agg cs=>intro c hc;obtain⟨x,hx,rfl⟩:=aI.1 hc;exact mE (h x hx)
 |fn f cs=>trivial
theorem jW {G:List (Option de)} {out:List de} {v:V} (h:v.ok (out.map some)): (gK G.length v).ok (G++out.map some):=by
 cases v with
 |v x=>exact lG h
 |tup l=>intro c hc;obtain⟨x,hx,rfl⟩:=aI.1 hc;exact lG (h x hx)
theorem i6 (S:TS) (v:AV) (out:List de): ({ S with gh:=S.gh++out.map some }:TS).st=(eW S.st (v,out.map de.tree)).2:=by
 unfold TS.st eW;simp only[bk,ay]
 congr 1
 funext r
 rw[jS];by_cases h:S.gh.length<=r
 ·rw[if_pos h];by_cases h2:r<S.gh.length+out.length
  ·rw[if_pos ⟨h,h2⟩,an]
  ·rw[if_neg (fun hh=>h2 hh.2),bA (by omega),iy h]
 ·rw[if_neg h,if_neg (fun hh=>h hh.1)]
section
variable {ρ:Type} {P:Program} {Θ:fp} {S:TS} {Y:kI}
theorem ju (hS:S.ok): ∀ (caps:List Cl) (κ':List Cl->Option ρ) (r:ρ),(∀c∈caps,c.ok S.gh)->lx (rj S none) caps κ'=some r-> ∃cs,(caps.map Cl.av).map (dt S.st 0)=cs.map Cl.av/\κ' cs=some r:=by
 intro caps
 induction caps with
 |nil=>intro κ' r _ h; exact⟨[],rfl,h⟩
 |cons c caps ih=>intro κ' r hc h;unfold lx at h;obtain⟨c',g1,h⟩:=lD hS (hc c aE) h;obtain⟨cs,g2,h⟩:=ih _ r (fun x hx=>hc x (az _ hx)) h;exact⟨c'::cs,by rw[aJ,aJ,g2,g1 0 (fun t ht=>by cases ht),aJ],h⟩
theorem sL (hΘ:dA P Θ) (hY:fy P Y) (hS:S.ok) {f:Operand} {ts:Array TypeId} {as:Array Operand} {κ:V->TS->Option ρ} {r:ρ} (h:qj Θ Y S f ts.toList as.toList κ=some r) {dst:Option Tmp} {ty:TypeId} {pos:String} {aft:Array Edge} {gd:Option (Nat×Bool)}:
  ∃D v S',eY P D/\dR D P S.st ⟨dst, .call { callee:= .value f,args:=as,argTypes:=ts },ty,pos,aft,gd⟩=some (V.av v,TS.st S')/\S'.ok/\v.ok S'.gh/\κ v S'=some r:=by
 have fin: ∀ (g:FuncId) (caps:List AV) (vs:List V1),g<ed->callee S.st f=some (g,caps)->args P S.st ts as caps=vs.map V1.av->Y g vs ρ (fun res out=>κ (gK S.gh.length res) { S with gh:=S.gh++out.map some })=some r->
   ∃D v S',eY P D/\dR D P S.st ⟨dst, .call { callee:= .value f,args:=as,argTypes:=ts },ty,pos,aft,gd⟩=some (V.av v,TS.st S')/\S'.ok/\v.ok S'.gh/\κ v S'=some r:=by
  intro g caps vs hg h1 h2 h3;obtain⟨res,out,h4,h5,h6⟩:=hY _ _ _ _ _ h3;have h4:=h4.fn hg;refine⟨rn dst g (vs.map V1.av) (res.av,out.map de.tree),_,_,lE h4,?_,TS.ok_gh hS (dM.apps _ _),jW h5,h6⟩;simp only[dR,h1,ak,h2];rw[qu];simp only[ax];rw[i6 S res.av out,jV];rfl
 unfold qj at h;split at h
 ·rename_i g x y hf;obtain⟨hg,h⟩:=cX h;have hg:g<ed:=aw hg;obtain⟨vs,h1,h⟩:=gx hΘ hS _ _ _ _ h;refine fin g [] vs hg ?_ ?_ h
  ·unfold callee;rw[c4,hf];rfl
  ·unfold args;simp only[bM,bm];exact h1
 ·rename_i g caps hf;obtain⟨hg,h⟩:=cX h;have hg:g<ed:=aw hg;obtain⟨vs,h1,h⟩:=gx hΘ hS _ _ _ _ h
  have hcaps: ∀c∈caps,c.ok S.gh:=by have:=ew hS f;rw[hf] at this;exact this
  obtain⟨cs,h2,h⟩:=ju hS _ _ _ hcaps h;refine fin g (caps.map Cl.av) (vs++cs.map .cl) hg ?_ ?_ h
  ·unfold callee;rw[c4,hf];rfl
  ·unfold args;rw[h1,h2,bF,aU];rfl
 ·cases h
theorem dJ {t t':Ty} {l:List t.D} {l':List t'.D} (h:jo t t' l=some l'): ∃e:t=t',e ▸ l=l':=by
 unfold jo at h;split at h
 ·rename_i e;exact⟨e,Option.some.inj h⟩
 ·cases h
theorem rq {t:Ty} (h:t.flatB=true) (x:t.D): (t.row x).all T.flat=true:=by
 cases t with
 |st n=>cases n<;>first |rfl|cases h
 |ls t=>cases h
 | _=>rfl
theorem jX (t:Ty): (t.shs.all (· ==0))=t.flatB:=by
 cases t with
 |st n=>cases n<;>rfl
 |ls t=>
  show ((t.width==0)&&true)=false;have:=t.width_pos;cases hw:t.width with
  |zero=>omega
  |succ n=>rfl
 | _=>rfl
theorem iA {t:Ty} (h:t.flatB=true) (l:List t.D): (l.map t.row).all (fun r=>r.all T.flat)=true:=by rw[au];intro x hx;obtain⟨y,_,rfl⟩:=aI.1 hx;exact rq h y
theorem t8 (hS:S.ok) {el:Ty} {v:Cl} (hv:v.ok S.gh) {κ:List el.D->TS->Option ρ} {r:ρ} (h:sr S el v κ=some r):
  ∃more S',eF S.st el.width el.flatB v.av=some (more.map el.row,S'.st)/\S'.ok/\dM S.gh S'.gh/\S'.gh.length=S.gh.length/\S'.fz=S.fz/\κ more S'=some r:=by
 unfold sr at h;split at h
 ·exact⟨[],S,rfl,hS,dM.refl _,rfl,rfl,h⟩
 ·rename_i t l;obtain⟨h1,h⟩:=cX h;split at h
  ·rename_i l' hl;obtain⟨e,hl⟩:=dJ hl;subst e;simp only at hl;subst hl;refine⟨l,S,?_,hS,dM.refl _,rfl,rfl,h⟩;simp only[Cl.av,C.av,eF];rw[if_pos ⟨trivial,iA h1 l⟩]
  ·cases h
 ·rename_i p sz lo len w;obtain⟨h0,h⟩:=cX h;have h0:el.width=sz:=ao h0;cases hfl:el.flatB with
  |true=>
   rw[hfl] at h;simp only[cond_true] at h;obtain⟨t,l,h1,h2,h⟩:=dz h;split at h
   ·rename_i l' hl;obtain⟨e,hl⟩:=dJ hl;subst e;simp only at hl;subst hl
    have src: ∀ (lo len:Nat),lo+len<=l.length->eF S.st t.width true (.own p sz lo len)=some (((l.drop lo).take len).map t.row,S.st):=by intro lo len hle;simp only[eF];rw[if_pos h0.symm,eh h1];simp only[ak,Bool.true_eq_false,false_and,if_false,ay];rw[if_pos ⟨hle,by rw[<-bz,<-bh]; exact iA hfl _⟩];simp[bh,bz]
    cases w with
    |true=>obtain⟨e1,e2,e3⟩:=ib hv h2;refine⟨l,S,?_,hS,dM.refl _,rfl,rfl,h⟩;have:=src lo len (by omega);rw[e2,e3,bP,b0] at this;simp only[Cl.av];rw[e2,e3];exact this
    |false=>simp only[cond_false] at h;obtain⟨h3,h⟩:=dh h;exact⟨_,S,src lo len h3,hS,dM.refl _,rfl,rfl,h⟩
   ·cases h
  |false=>
   rw[hfl] at h;simp only[cond_false] at h;split at h
   ·rename_i hp;obtain⟨h3,h6⟩:=cX h;clear h;simp only[al] at h3;obtain⟨hw,h4⟩:=h3;have h4:S.fz<=p.r:=aw h4;subst hw;obtain⟨t,l,h1,h2,h⟩:=dz h6;split at h
    ·rename_i l' hl;obtain⟨e,hl⟩:=dJ hl;subst e;simp only at hl;subst hl;obtain⟨e1,e2,e3⟩:=ib hv h2;refine⟨l,_,?_,TS.ok_gh hS (dM.gone _ _),dM.gone _ _,by simp[dK],rfl,h⟩;simp only[Cl.av,eF];rw[if_pos h0.symm,eh h1];simp only[ak,ay];rw[if_pos ⟨trivial,hp,e2,e3,h4⟩,jt]
    ·cases h
   ·cases h
 ·cases h
end
end
section
open Go
theorem pX (t:Ty):t.zvs.length=t.width:=by
 cases t with
 |st n=>cases n<;>rfl
 | _=>rfl
theorem i7 (t:Ty):t.shs.length=t.width:=by
 cases t with
 |st n=>cases n<;>rfl
 | _=>rfl
theorem kK {P:Program} {el:TypeId} {e:Ty} (h1:P.cellsOf el=e.width) (h2:ff P 9 el=e.shs) (h3:jA P el=some e.zvs):ky P el=some (List.zipWith zc e.shs e.zvs):=by unfold ky;rw[h3];simp only[ak];rw[if_pos ⟨by rw[h1,pX],by rw[h2,h1,i7]⟩,h2]
section
variable {ρ:Type} {P:Program} {Θ:fp} {S:TS}
theorem sM (hS:S.ok) {el:Ty} {v:Cl} (hv:v.ok S.gh) {more:List el.D} {κ:List el.D->TS->Option ρ} {r:ρ} (h:oH S el v more κ=some r):
  ∃l S',ek S.st v.av el.width (more.map el.row)=some (.own ⟨S.gh.length,[]⟩ el.width 0 l.length,{ S'.st with gh:=c9 S'.st.gh S.gh.length (some (.sl el.width (l.map el.row))),ng:=S.gh.length+1 })/\
   S'.ok/\dM S.gh S'.gh/\S'.gh.length=S.gh.length/\κ l S'=some r:=by
 unfold oH at h;split at h
 ·refine⟨more,S,?_,hS,dM.refl _,rfl,h⟩;simp only[Cl.av,ek,ay];rfl
 ·rename_i p sz lo len w;obtain⟨h0,h'⟩:=cX h;clear h;simp only[al] at h0;have hfz:S.fz<=p.r:=aw h0.1;have hsz:el.width=sz:=ao h0.2;split at h'
  ·rename_i hp;obtain⟨t,l,h1,h2,h⟩:=dz h';split at h
   ·rename_i l' hl;obtain⟨e,hl⟩:=dJ hl;subst e;simp only at hl;subst hl
    have fin: ∀ (len:Nat),¬l.length<len->ek S.st (.own p sz 0 len) t.width (more.map t.row)=some (.own ⟨S.gh.length,[]⟩ t.width 0 (l.take len++more).length,{ ({ S with gh:=dp S.gh p.r none }:TS).st with gh:=c9 ({ S with gh:=dp S.gh p.r none }:TS).st.gh S.gh.length (some (.sl t.width ((l.take len++more).map t.row))),ng:=S.gh.length+1 }):=by
     intro len hlen;simp only[ek];rw[if_pos ⟨hsz.symm,trivial,hfz⟩,eh h1];simp only[ak,ay];rw[if_neg hlen,if_pos hp,jt];have e1: (l.take len++more).length=len+more.length:=by simp; omega
     rw[e1,bF,bh];rfl
    cases w with
    |true=>obtain⟨e1,e2,e3⟩:=ib hv h2;refine⟨_,_,?_,TS.ok_gh hS (dM.gone _ _),dM.gone _ _,by simp[dK],h⟩;have:=fin l.length (by omega);rw[b0] at this;simp only[Cl.av];rw[e2,e3];exact this
    |false=>simp only[cond_false] at h;obtain⟨h3,h⟩:=dh h;obtain⟨h4,h⟩:=jQ h;refine⟨_,_,?_,TS.ok_gh hS (dM.gone _ _),dM.gone _ _,by simp[dK],h⟩;simp only[Cl.av];rw[h3];exact fin len h4
   ·cases h
  ·rename_i i j hp;split at h'
   ·rename_i tr htr;split at h'
    ·rename_i hh;obtain⟨t,l,h1,h2,h⟩:=dz h';split at h
     ·rename_i l' hl;obtain⟨e,hl⟩:=dJ hl;subst e;simp only at hl;subst hl;obtain⟨h3,h⟩:=dh h;obtain⟨h4,h⟩:=jQ h;have hg:=de.look htr;have hput:dM S.gh (dp S.gh p.r (some (de.mk tr.t tr.l (some (i,j))))):=dM.put hg rfl;refine⟨_,{ S with gh:=dp S.gh p.r (some (de.mk tr.t tr.l (some (i,j)))) },?_,TS.ok_gh hS hput,hput,by simp[dK],h⟩;simp only[Cl.av,ek];rw[if_pos ⟨hsz.symm,h3,hfz⟩,eh h1];simp only[ak,ay];rw[if_neg h4,if_neg (by rw[hp]; simp),jT _ _ (iz hg)];have e1: (l.take len++more).length=len+more.length:=by simp; omega
      rw[e1,bF,bh]
      have e2:S.st.setAt p .dd= { S.st with gh:=c9 S.st.gh p.r (some (de.tree ⟨tr.t,tr.l,some (i,j)⟩)) } :=by
       unfold St.setAt
       congr 2
       show ((du S.gh p.r).map de.tree).map _=_;rw[hg,hp];obtain⟨t0,l0,hole⟩:=tr;simp only at hh;subst hh;rfl
      rw[e2];rfl
     ·cases h
    ·cases h'
   ·cases h'
  ·cases h'
 ·cases h
theorem t9 (hΘ:dA P Θ) (hS:S.ok) {t:TypeId} {s x:Operand} {κ:V->TS->Option ρ} {r:ρ} (h:tU Θ S t (S.opd s) (S.opd x) κ=some r) {dst:Option Tmp} {ty:TypeId} {pos:String} {aft:Array Edge} {gd:Option (Nat×Bool)} {D:fR}:
  ∃v S',dR D P S.st ⟨dst, .call { callee:= .builtin .append,args:= #[s,x],argTypes:= #[t,t] },ty,pos,aft,gd⟩=some (V.av v,TS.st S')/\S'.ok/\v.ok S'.gh/\κ v S'=some r:=by
 unfold tU at h;split at h
 ·rename_i ti hti;split at h
  ·rename_i el sv xv he hs hx;obtain⟨elT',g1,g2,g3,g4,g5,g6⟩:=(hΘ _ _ hti).el el he;have hsv:=ew hS s;rw[hs] at hsv;have hxv:=ew hS x;rw[hx] at hxv;obtain⟨more,S1,h1,k1,k2,k3,k4,h⟩:=t8 hS (show xv.ok S.gh from hxv) h;obtain⟨l,S2,h2,m1,m2,m3,h⟩:=sM k1 (Cl.ok_mono k2 (show sv.ok S.gh from hsv)) h;obtain⟨hb,h⟩:=dh h;have hgl:dM S1.gh (S2.gh++ [some ⟨el,l,none⟩]):=m2.trans (dM.app _ _);refine⟨_,_,?_,TS.ok_gh m1 (dM.app _ _),?_,h⟩
   ·simp only[dR];rw[if_pos trivial,g1];simp only[ak,g2,g5,jX,c4,hs,hx];show (eF S.st el.width el.flatB xv.av).bind _=_;rw[h1];simp only[ak];show (ek S1.st sv.av el.width _).bind _=_;rw[h2];simp only[ak];have hlen:l.length<=2 ^ 40:=bu (Nat.le_mul_of_pos_right _ g4) hb;rw[if_pos ⟨by rw[g3]; exact hb,hlen,el.width_pos,by rw[kK g2 g5 g6]; rfl⟩];rw[lC,m3];rfl
   ·refine⟨by simp,fun _=>⟨rfl,rfl,fun tr htr=> ?_⟩⟩;rw[e9,if_pos rfl] at htr;cases htr;rfl
  ·cases h
 ·cases h
end
end
section
open Go
theorem ua (a b:Nat): (a==b)=Nat.beq a b:=by rw[bL,beq_iff_eq];exact⟨fun h=>by rw[h]; exact cc _,fun h=>ao h⟩
theorem sN (a b:Nat): (a==b)=Nat.beq b a:=by rw[bL,beq_iff_eq];exact⟨fun h=>by rw[h]; exact cc _,fun h=>(ao h).symm⟩
theorem lH (r i j pr i' j':Nat) (l:List (Nat×Nat)):under ⟨r,[(i,j)]⟩ ⟨pr,(i',j')::l⟩=(Nat.beq pr r&&Nat.beq j j'):=by simp only[under,jC,cJ];rw[sN,ua]
theorem lI (r i j pr:Nat):under ⟨r,[(i,j)]⟩ ⟨pr,[]⟩=false:=by simp[under,jC]
theorem jv (r i j:Nat) (c:Cl): (fv r j c).av=ft ⟨r,[(i,j)]⟩ c.av:=by
 cases c with
 |own p sz lo len w=>
  obtain⟨pr,pl⟩:=p;cases pl with
  |nil=>simp only[fv,Cl.av,ft,lI]; rfl
  |cons a l=>obtain⟨i',j'⟩:=a;simp only[fv,Cl.av,ft,lH];cases (Nat.beq pr r&&Nat.beq j j')<;>rfl
 |ptrT p sz a b=>
  obtain⟨pr,pl⟩:=p;cases pl with
  |nil=>simp only[fv,Cl.av,ft,lI]; rfl
  |cons a' l=>obtain⟨i',j'⟩:=a';simp only[fv,Cl.av,ft,lH];cases (Nat.beq pr r&&Nat.beq j j')<;>rfl
 |c x=>cases x<;>rfl
 | _=>rfl
theorem mF (r i j:Nat) (v:V1): (gb r j v).av=gk ⟨r,[(i,j)]⟩ v.av:=by
 cases v with
 |cl c=>
  have :gk ⟨r,[(i,j)]⟩ (V1.cl c).av=ft ⟨r,[(i,j)]⟩ c.av:=by
   cases c with
   |c x=>cases x<;>rfl
   | _=>rfl
  rw[this];exact jv r i j c
 |agg cs=>
  simp only[gb,V1.av,gk,aU]
  congr 1
  exact aG fun c _=>jv r i j c
 |fn f cs=>
  simp only[gb,V1.av,gk,aU]
  congr 1
  exact aG fun c _=>jv r i j c
theorem sO (r i j:Nat) (v:V): (mz r j v).av=kill ⟨r,[(i,j)]⟩ v.av:=by
 cases v with
 |v x=>
  have :kill ⟨r,[(i,j)]⟩ (V.v x).av=gk ⟨r,[(i,j)]⟩ x.av:=by
   cases x with
   |cl c=>cases c with
    |c x=>cases x<;>rfl
    | _=>rfl
   | _=>rfl
  rw[this];exact mF r i j x
 |tup l=>
  simp only[mz,V.av,kill,aU]
  congr 1
  exact aG fun c _=>mF r i j c
theorem oT (f:V->V) (hf:f V.dead=V.dead): ∀ (l:List (Nat×V)) (t:Nat),fr (l.map fun x=>(x.1,f x.2)) t=f (fr l t)
 | [],t=>hf.symm
 | (u,v)::l,t=>by
   simp only[aJ,fr];cases Nat.beq u t with
   |true=>rfl
   |false=>exact oT f hf l t
theorem ub (S:TS) (r i j:Nat): (S.kill r j).st=S.st.killU ⟨r,[(i,j)]⟩:=by
 unfold TS.kill TS.st St.killU;simp only[ay]
 congr 1
 ·funext t
  rw[oT _ rfl];exact sO r i j _
 ·funext n
  rw[dE,dE,an];cases S.bx[n]? with
  |none=>rfl
  |some cs=>
   simp only[ax,aU]
   congr 1
   exact aG fun c _=>jv r i j c
theorem jw {G:List (Option de)} {r j:Nat} {c:Cl} (h:c.ok G): (fv r j c).ok G:=by
 cases c with
 |own p sz lo len w=>
  simp only[fv];split
  ·cases (Nat.beq p.r r&&Nat.beq j _)<;>first |exact h|trivial
  ·exact h
 |ptrT p sz a b=>
  simp only[fv];split
  ·cases (Nat.beq p.r r&&Nat.beq j _)<;>first |exact h|trivial
  ·exact h
 | _=>exact h
theorem mG {G:List (Option de)} {r j:Nat} {v:V1} (h:v.ok G): (gb r j v).ok G:=by
 cases v with
 |cl c=>exact jw h
 |agg cs=>intro c hc;obtain⟨x,hx,rfl⟩:=aI.1 hc;exact jw (h x hx)
 |fn f cs=>intro c hc;obtain⟨x,hx,rfl⟩:=aI.1 hc;exact jw (h x hx)
theorem qv {S:TS} (hS:S.ok) (r j:Nat): (S.kill r j).ok:=by
 refine⟨fun x hx=> ?_,fun cs hcs c hc=> ?_⟩
 ·obtain⟨y,hy,rfl⟩:=aI.1 hx;have:=hS.env y hy;obtain⟨t,v⟩:=y;cases v with
  |v x=>exact mG this
  |tup l=>intro c hc;obtain⟨z,hz,rfl⟩:=aI.1 hc;exact mG (this z hz)
 ·obtain⟨y,hy,rfl⟩:=aI.1 hcs;obtain⟨z,hz,rfl⟩:=aI.1 hc;exact jw (hS.bx y hy z hz)
def TS.with (S:TS) (no N w:Nat) (R:List (List T)):St:= { S.st with gh:=c9 S.st.gh no (some (.sl w R)),ng:=N }
theorem mH (S:TS) (r i j no N w:Nat) (R:List (List T)): (S.with no N w R).killU ⟨r,[(i,j)]⟩=(S.kill r j).with no N w R:=by
 unfold TS.with
 rw[ub S r i j];rfl
theorem qw {α:Type} (f:Nat->α) (t:Nat) (x y:α):c9 (c9 f t x) t y=c9 f t y:=by
 funext u
 unfold c9;split<;>rfl
theorem oU {α:Type} (f:Nat->α) (t:Nat) (x:α):c9 f t x t=x:=by unfold c9; rw[if_pos rfl]
theorem sP {α:Type} (f:Nat->α) {t u:Nat} (h:t≠u) (x y:α):c9 (c9 f t x) u y=c9 (c9 f u y) t x:=by
 funext v
 unfold c9;by_cases h1:v=u
 ·subst h1; rw[if_pos rfl,if_neg (fun e=>h e.symm)]; rw[if_pos rfl]
 ·rw[if_neg h1];by_cases h2:v=t
  ·rw[if_pos h2,if_pos h2]
  ·rw[if_neg h2,if_neg h2,if_neg h1]
structure uc (S S1:TS) (no:Nat):Prop where
 ok:S1.ok
 gle:dM S.gh S1.gh
 len:S1.gh.length=S.gh.length
 fz:S1.fz=S.fz
 nt:S1.nt=S.nt
 no:du S1.gh no=du S.gh no
def pi:Option Ty->Nat|some e=>e.width|none=>0
def wQ (X:St) (no i j:Nat) (c:AV):Option Ty->Option St
 |none=>some X
 |some t=>fu X ⟨no,[]⟩ i j t.width c
def sQ (R:List (List T)) (i j:Nat) (x:C):Option Ty->List (List T)
 |none=>R
 |some _=>R.set i ((R.getD i []).set j x.tree)
theorem sR {S S1:TS} (hS:S.ok) {no j:Nat} (i N w:Nat) {et:Option Ty} {c:Cl} {x:C} (hc:c.ok S.gh) (h:dN S no j et c=some (x,S1)) (R:List (List T)):
  uc S S1 no/\c≠ .dead/\(et=none->T.ofSc c.av=x.tree)/\wQ (S.with no N w R) no i j c.av et=some (S1.with no N w (sQ R i j x et)):=by
 cases c with
 |c y=>
  cases y with
  |sc v=>
   cases et with
   |none=>simp only[dN,ae,am] at h;obtain⟨rfl,rfl⟩:=h;exact⟨⟨hS,dM.refl _,rfl,rfl,rfl,rfl⟩,(fun h=>by cases h),fun _=>rfl,rfl⟩
   |some t=>simp[dN] at h
  |ls t l=>cases et<;>simp[dN] at h
 |em=>
  cases et with
  |none=>simp[dN] at h
  |some t=>
   simp only[dN,ae,am] at h;obtain⟨rfl,rfl⟩:=h;refine⟨⟨qv hS _ _,dM.refl _,rfl,rfl,rfl,rfl⟩,(fun h=>by cases h),(fun h=>by cases h),?_⟩;simp only[wQ,Cl.av,fu,da.sub,bG,mH,sQ]
   congr 1
   unfold St.setAt TS.with
   simp only;rw[oU,qw];rfl
 |own p sz lo len wh=>
  obtain⟨pr,pl⟩:=p;cases wh with
  |false=>cases et<;>simp[dN] at h
  |true=>
   cases et with
   |none=>simp[dN] at h
   |some t=>
    cases pl with
    |cons a l=>simp[dN] at h
    |nil=>
     simp only[dN] at h;obtain⟨h1,h⟩:=cX h;simp only[al,bR] at h1;obtain⟨⟨h1,h2⟩,h3⟩:=h1;have h1:t.width=sz:=ao h1;have h2:S.fz<=pr:=aw h2;have h3:pr≠no:=by intro e; rw[e,cc] at h3; cases h3
     split at h
     ·rename_i tr htr;split at h
      ·rename_i hh;obtain⟨h4,h⟩:=cX h;have h4':tr.t.width=sz:=ao h4;simp only[ae,am] at h;obtain⟨rfl,rfl⟩:=h;have hg:=de.look htr;obtain⟨tt,l,hole⟩:=tr;simp only at hh h4';subst hh;obtain⟨e1,e2,e3⟩:=ib hc (fun _=>hg);refine⟨⟨qv (TS.ok_gh hS (dM.gone _ _)) _ _,dM.gone _ _,by simp[TS.kill,dK],rfl,rfl,?_⟩,(fun h=>by cases h),(fun h=>by cases h),?_⟩
       ·show du (dp S.gh pr none) no=_;rw[fk _ _ (.inr rfl),if_neg (fun e=>h3 e.symm)]
       ·simp only[wQ,sQ,Cl.av,fu]
        have hrows: (S.with no N w R).rows ⟨pr,[]⟩ sz=some (l.map tt.row):=by
         have : (S.with no N w R).look ⟨pr,[]⟩= .sl tt.width (l.map tt.row):=by
          unfold St.look TS.with
          simp only[c9];rw[if_neg h3];show (match (du S.gh pr).map de.tree with |some t=>t.go [] |none=> .dd)=_;rw[hg];rfl
         unfold St.rows;rw[this];simp[h4']
        rw[if_pos ⟨trivial,h1.symm,e2,h2,h3⟩,hrows];simp only[ak,ay];rw[if_pos (by omega),e3]
        congr 1
        have e4: (l.map tt.row).take l.length=l.map tt.row:=bW (by simp);rw[e4];simp only[da.sub,bG,mH];unfold TS.with
        simp only;rw[oU,sP _ (fun e=>h3 e.symm),qw];have e5: ({ S with gh:=dp S.gh pr none }:TS).kill no j= { S.kill no j with gh:=dp (S.kill no j).gh pr none } :=rfl;rw[e5,jt];simp only[C.tree,h4'];rfl
      ·cases h
     ·cases h
 |pro cs=>cases et<;>simp[dN] at h
 |ptrB n j=>cases et<;>simp[dN] at h
 |ptrT p sz a b=>cases et<;>simp[dN] at h
 |dead=>cases et<;>simp[dN] at h
theorem vB (X:St) (no i j:Nat) (c:AV) (et:Option Ty): (if pi et=0 then some X else fu X ⟨no,[]⟩ i j (pi et) c)=wQ X no i j c et:=by
 cases et with
 |none=>rfl
 |some t=>exact if_neg (by show ¬t.width=0; have:=t.width_pos; omega)
theorem sS {R:List (List T)} {i j:Nat} {x:C} {et:Option Ty} {row:List T} (hr:R[i]? =some row) (hj:j<row.length) (h:et=none->row[j]? =some x.tree):sQ R i j x et=R.set i (row.set j x.tree):=by
 cases et with
 |none=>
  have h:=h rfl
  have e1:row.set j x.tree=row:=by
   apply bB;intro k;rw[bg];split
   ·rename_i hk; subst hk; first |rw[if_pos hj,h] |rw[h]
   ·rfl
  rw[e1];apply bB;intro k;show R[k]? =_;rw[bg];split
  ·rename_i hk; subst hk; rw[if_pos (af.1 hr).1,hr]
  ·rfl
 |some t=>simp only[sQ];rw[ap,hr];rfl
theorem lJ (no i N w:Nat): ∀ (ets:List (Option Ty)) (cs:List Cl) (j:Nat) (S S1:TS) (xs:List C) (R:List (List T)) (row:List T),S.ok->(∀c∈cs,c.ok S.gh)->fw no j S ets cs=some (xs,S1)->R[i]? =some row->
  j+cs.length<=row.length->(∀ (k:Nat) (c:Cl),cs[k]? =some c->row[j+k]? =some (T.ofSc c.av))->
  uc S S1 no/\ets.length=cs.length/\xs.length=cs.length/\(∀c∈cs,c≠ .dead)/\
   dg (S.with no N w R) ⟨no,[]⟩ i j (ets.map pi) (cs.map Cl.av)=some (S1.with no N w (R.set i (row.take j++xs.map C.tree++row.drop (j+cs.length)))):=by
 intro ets
 induction ets with
 |nil=>
  intro cs j S S1 xs R row hS hcs h hr hl ho;cases cs with
  |cons c cs=>simp[fw] at h
  |nil=>
   simp only[fw,ae,am] at h;obtain⟨rfl,rfl⟩:=h;refine⟨⟨hS,dM.refl _,rfl,rfl,rfl,rfl⟩,rfl,rfl,(fun c hc=>by cases hc),?_⟩;simp only[bM,dg,bm,bS,bU,List.take_append_drop]
   congr 2
   apply bB;intro k;rw[bg];split
   ·rename_i hk; subst hk; rw[if_pos (af.1 hr).1,hr]
   ·rfl
 |cons et ets ih=>
  intro cs j S S1 xs R row hS hcs h hr hl ho;cases cs with
  |nil=>simp[fw] at h
  |cons c cs=>
   simp only[fw] at h;split at h
   ·rename_i x S2 hx;split at h
    ·rename_i xs' S3 hxs;simp only[ae,am] at h;obtain⟨rfl,rfl⟩:=h;obtain⟨k1,k2,k3,k4⟩:=sR hS i N w (hcs c aE) hx R;have hj:j<row.length:=by simp at hl; omega
     have hput:=sS (et:=et) hr hj (x:=x) (fun he=>by rw[<-k3 he]; exact ho 0 c rfl);rw[hput] at k4;have hi:i<R.length:=(af.1 hr).1
     obtain⟨m1,m2,m3,m4,m5⟩:=ih cs (j+1) S2 S3 xs' (R.set i (row.set j x.tree)) (row.set j x.tree) k1.ok (fun y hy=>Cl.ok_mono k1.gle (hcs y (az _ hy))) hxs (by simp[hi]) (by simp at hl ⊢; omega) (fun k y hy=>by rw[List.getElem?_set_ne (by omega),show j+1+k=j+(k+1) by omega];exact ho (k+1) y (by simpa using hy))
     refine⟨⟨m1.ok,k1.gle.trans m1.gle,m1.len.trans k1.len,m1.fz.trans k1.fz,m1.nt.trans k1.nt,m1.no.trans k1.no⟩,by simp[m2],by simp[m3],fun y hy=> ?_,?_⟩
     ·rcases aV.1 hy with rfl|hy
      ·exact k2
      ·exact m4 y hy
     ·simp only[aJ,dg];rw[vB,k4];simp only[ak];rw[m5,List.set_set]
      congr 3
      have e2: (row.set j x.tree).take (j+1)=row.take j++ [x.tree] :=by
       rw[List.take_set,List.take_add_one,ai hj];rw[Option.toList_some];have hlen: (row.take j).length=j:=by simp; omega
       rw[List.set_append_right _ _ (by omega),hlen,cP];rfl
      have e3: (row.set j x.tree).drop (j+1+cs.length)=row.drop (j+(cs.length+1)):=by rw[List.drop_set_of_lt (by omega),show j+1+cs.length=j+(cs.length+1) by omega]
      rw[e2,e3];simp
    ·cases h
   ·cases h
end
section
open Go
theorem oV: ∀ {cs:List Cl} {vs:List C},vv cs=some vs->cs.map (fun c=>T.ofSc c.av)=vs.map C.tree/\vs.length=cs.length
 | [],vs,h=>by simp only[vv,ae] at h; subst h; exact⟨rfl,rfl⟩
 |c::cs,vs,h=>by
  cases c with
  |c y=>cases y with
   |sc v=>
    simp only[vv] at h;split at h
    ·rename_i r hr;simp only[ae] at h;subst h;obtain⟨h1,h2⟩:=oV hr;exact⟨by simp only[aJ,h1]; rfl,by simp[h2]⟩
    ·cases h
   |ls t l=>simp[vv] at h
  | _=>simp[vv] at h
theorem lK {x:V1} (h1:x≠ .cl .dead) (h2: ∀f cs,x≠ .fn f cs): (V.v x).av.cells=x.cells.map Cl.av/\(V.v x).av.isDead=false:=by
 cases x with
 |cl c=>cases c with
  |c y=>cases y<;>exact⟨rfl,rfl⟩
  |dead=>exact absurd rfl h1
  | _=>exact⟨rfl,rfl⟩
 |agg cs=>exact⟨rfl,rfl⟩
 |fn f cs=>exact absurd rfl (h2 f cs)
section
variable {ρ:Type} {P:Program} {Θ:fp} {S:TS}
theorem qx (tr:de) {i j n:Nat} {y:tr.t.D} (hy:tr.l[i]? =some y) (hh:tr.hole=none\/(tr.hole=some (i,j)/\n=1)) (hn:j+n<=tr.t.width):
  ∃Rh rowh,tr.tree= .sl tr.t.width Rh/\Rh[i]? =some rowh/\Rh.length=tr.l.length/\rowh.length=tr.t.width/\rowh.take j=(tr.t.row y).take j/\rowh.drop (j+n)=(tr.t.row y).drop (j+n)/\ ∀X,Rh.set i X=(tr.l.map tr.t.row).set i X:=by
 obtain⟨t,l,hole⟩:=tr;simp only at hy hh hn y;have hi:=(af.1 hy).1;rcases hh with hh| ⟨hh,rfl⟩
 ·subst hh;exact⟨l.map t.row,t.row y,rfl,by rw[an,hy]; rfl,by simp,t.row_length y,rfl,rfl,fun _=>rfl⟩
 ·subst hh;have e1: (l.map t.row).getD i [] =t.row y:=by simp[ap,hy]
  refine⟨(l.map t.row).set i ((t.row y).set j .dd),(t.row y).set j .dd,by simp only[de.tree,e1],by simp[hi],by simp,by simp[t.row_length],?_,?_,fun X=>by rw[List.set_set]⟩
  ·rw[List.take_set,List.set_eq_of_length_le (by simp; omega)]
  ·rw[List.drop_set_of_lt (by omega)]
theorem sT (hΘ:dA P Θ) (hS:S.ok) {t:TypeId} {a v:V} (ha:a.ok S.gh) (hv:v.ok S.gh) {κ:TS->Option ρ} {r:ρ} (h:pQ Θ S t a v κ=some r): ∃S',store P S.st t a.av v.av=some (TS.st S')/\S'.ok/\dM S.gh S'.gh/\κ S'=some r:=by
 unfold pQ at h;split at h
 ·cases h
 ·rename_i ti hti;have hok:=hΘ _ _ hti;split at h
  ·cases h
  ·cases h
  ·cases h
  ·rename_i x hx1 hx2;obtain⟨hc1,hc2⟩:=lK (x:=x) (fun e=>hx1 (by rw[e])) (fun f cs e=>hx2 f cs (by rw[e]));obtain⟨h1,h'⟩:=cX h;clear h;have h:=h';clear h';have hlen:x.cells.length=ti.ty.width:=ao h1
   have hcok: ∀c∈x.cells,c.ok S.gh:=by
    cases x with
    |cl c=>intro c' hc'; simp only[V1.cells,aA] at hc'; subst hc'; exact hv
    |agg cs=>exact hv
    |fn f cs=>exact absurd rfl (hx2 f cs)
   have hfst: ¬ ((V.v x).av.cells.length≠P.cellsOf t\/(V.v x).av.isDead=true):=by rw[hc1,hc2,hok.cells];simp[hlen]
   split at h
   ·rename_i b j;split at h
    ·rename_i cs hcs;obtain⟨h2,h⟩:=cX h;have h2:j+x.cells.length<=cs.length:=aw h2;have hcs':S.bx[b]? =some cs:=by rw[<-dE]; exact hcs
     have hb:b<S.bx.length:=(af.1 hcs').1;refine⟨{ S with bx:=dp S.bx b (cs.take j++x.cells++cs.drop (j+x.cells.length)) },?_,⟨hS.env,fun cs' hcs'' c hc=> ?_⟩,dM.refl _,h⟩
     ·have e0:store P S.st t (V.v (.cl (.ptrB b j))).av (V.v x).av=(S.st.bx b).bind fun cs=>if j+(V.v x).av.cells.length<=cs.length then some { S.st with bx:=c9 S.st.bx b (some (cs.take j++(V.v x).av.cells++cs.drop (j+(V.v x).av.cells.length))) } else none:=by
       unfold store;simp only;rw[if_neg hfst];rfl
      have e1:S.st.bx b=some (cs.map Cl.av):=by show (ga S.bx b).map _=_; rw[hcs]; rfl
      rw[e0,e1,hc1];simp only[ak,ay];rw[if_pos h2,rm _ _ hb];simp[bh,bz]
     ·rw[dK] at hcs'';rcases List.mem_or_eq_of_mem_set hcs'' with h3|h3
      ·exact hS.bx _ h3 c hc
      ·subst h3;simp only[bD] at hc;have hm:=aq hcs';rcases hc with (hc|hc)|hc
       ·exact hS.bx _ hm c (bO hc)
       ·exact hcok c hc
       ·exact hS.bx _ hm c (bC hc)
    ·cases h
   ·rename_i p sz i j;obtain⟨pr,pl⟩:=p;cases pl with
    |cons a l=>cases h
    |nil=>
     simp only at h;split at h
     ·rename_i tr htr;have hg:=de.look htr;obtain⟨h2,h⟩:=cX h;simp only[al] at h2;have h3:tr.t.width=sz:=ao h2.1.1;have h4:j+ti.ty.width<=sz:=aw h2.1.2;have hgst:S.st.gh pr=some tr.tree:=by show (du S.gh pr).map _=_; rw[hg]; rfl
      have e2: (V1.av x).cells=x.cells.map Cl.av:=hc1
      have put: ∀ (y:tr.t.D) (hy:tr.l[i]? =some y) (Rh:List (List T)) (rowh:List T),tr.tree= .sl tr.t.width Rh->Rh[i]? =some rowh->rowh.length=tr.t.width->
        store P S.st t (V.v (.cl (.ptrT ⟨pr,[]⟩ sz i j))).av (V.v x).av=(if ti.ty.flatB then some (S.with pr S.gh.length sz (Rh.set i (rowh.take j++x.cells.map (fun c=>T.ofSc c.av)++rowh.drop (j+ti.ty.width)))) else
         if S.fz<=pr then dg (S.with pr S.gh.length sz (Rh.set i (rowh.take j++x.cells.map (fun c=>T.ofSc c.av)++rowh.drop (j+ti.ty.width)))) ⟨pr,[]⟩ i j (ti.ty.csh.map pi) (x.cells.map Cl.av) else none):=by
       intro y hy Rh rowh g1 g2 g3;have hi:i<Rh.length:=(af.1 g2).1
       have e0:store P S.st t (V.v (.cl (.ptrT ⟨pr,[]⟩ sz i j))).av (V.v x).av=(fi S.st ⟨pr,[]⟩ sz i j ((V.v x).av.cells.map T.ofSc)).bind fun S'=>if (ff P 9 t).all (· ==0) then some S' else if S.st.fz<=pr then dg S' ⟨pr,[]⟩ i j (ff P 9 t) (V.v x).av.cells else none:=by unfold store;simp only;rw[if_neg hfst];rfl
       rw[e0,hc1]
       have hrows:S.st.rows ⟨pr,[]⟩ sz=some Rh:=by unfold St.rows St.look;simp only[hgst,g1,T.go,h3,if_true]
       unfold fi;rw[hrows];simp only[ay];have hgd:Rh.getD i [] =rowh:=by simp[ap,g2]
       rw[hgd,if_pos ⟨hi,by rw[g3,hlen,h3]; exact h4⟩];simp only[ak,hok.sh,jX]
       have hset:S.st.setAt ⟨pr,[]⟩ (.sl sz (Rh.set i (rowh.take j++(x.cells.map Cl.av).map T.ofSc++rowh.drop (j+x.cells.length))))=S.with pr S.gh.length sz (Rh.set i (rowh.take j++x.cells.map (fun c=>T.ofSc c.av)++rowh.drop (j+ti.ty.width))):=by
        unfold St.setAt TS.with
        simp only[hgst,ax,T.put,aU,hlen];rfl
       rw[hset];rfl
      have fin: ∀ (S1:TS) (y z:tr.t.D) (vs:List C) (Rh:List (List T)) (rowh:List T),uc S S1 pr->tr.l[i]? =some y->tr.t.flat z=(tr.t.flat y).take j++vs++(tr.t.flat y).drop (j+ti.ty.width)->
        rowh.take j=(tr.t.row y).take j->rowh.drop (j+ti.ty.width)=(tr.t.row y).drop (j+ti.ty.width)->(∀X,Rh.set i X=(tr.l.map tr.t.row).set i X)->
        S1.with pr S.gh.length sz (Rh.set i (rowh.take j++vs.map C.tree++rowh.drop (j+ti.ty.width)))=({ S1 with gh:=dp S1.gh pr (some ⟨tr.t,tr.l.set i z,none⟩) }:TS).st/\
        ({ S1 with gh:=dp S1.gh pr (some ⟨tr.t,tr.l.set i z,none⟩) }:TS).ok/\dM S.gh (dp S1.gh pr (some ⟨tr.t,tr.l.set i z,none⟩)):=by
       intro S1 y z vs Rh rowh hT hy hz q1 q2 q3;have hg1:du S1.gh pr=some tr:=hT.no.trans hg;have hgle:dM S1.gh (dp S1.gh pr (some ⟨tr.t,tr.l.set i z,none⟩)):=dM.put hg1 (by simp);refine⟨?_,TS.ok_gh hT.ok hgle,hT.gle.trans hgle⟩;rw[jT _ _ (iz hg1)];unfold TS.with
       rw[q1,q2,q3]
       have hrow:tr.t.row z=(tr.t.row y).take j++vs.map C.tree++(tr.t.row y).drop (j+ti.ty.width):=by rw[tr.t.row_flat,hz,tr.t.row_flat];simp[bh,bz]
       have hng:S.gh.length=S1.st.ng:=hT.len.symm;rw[hng]
       congr 3
       simp only[de.tree,h3];rw[<-hrow,List.map_set]
      cases hfl:ti.ty.flatB with
      |true=>
       rw[hfl] at h;simp only[cond_true] at h;split at h
       ·rename_i vs hh hvs;obtain⟨y,hy,h⟩:=ah.1 h;split at h
        ·rename_i z hz;obtain⟨k1,k2⟩:=oV hvs;obtain⟨Rh,rowh,g1,g2,g3,g4,g5,g6,g7⟩:=qx tr hy (.inl hh) (by rw[h3]; exact h4);obtain⟨f1,f2,f3⟩:=fin S y z vs Rh rowh ⟨hS,dM.refl _,rfl,rfl,rfl,rfl⟩ hy (Ty.unflat_some _ _ _ hz) g5 g6 g7;refine⟨_,?_,f2,f3,h⟩;rw[put y hy Rh rowh g1 g2 g4,hfl,if_pos rfl,k1,f1]
        ·cases h
       ·cases h
      |false=>
       rw[hfl] at h;simp only[cond_false] at h;obtain⟨h5,h⟩:=cX h;have h5:S.fz<=pr:=aw h5;split at h
       ·rename_i vs S1 hvs;obtain⟨y,hy,h⟩:=ah.1 h;split at h
        ·rename_i z hz
         have main: (tr.hole=none\/(tr.hole=some (i,j)/\ti.ty.width=1))->κ { S1 with gh:=dp S1.gh pr (some ⟨tr.t,tr.l.set i z,none⟩) } =some r-> ∃S',store P S.st t (V.v (.cl (.ptrT ⟨pr,[]⟩ sz i j))).av (V.v x).av=some (TS.st S')/\S'.ok/\dM S.gh S'.gh/\κ S'=some r:=by
          intro hh hk;obtain⟨Rh,rowh,g1,g2,g3,g4,g5,g6,g7⟩:=qx tr hy hh (by rw[h3]; exact h4);have hi:i<Rh.length:=(af.1 g2).1;have htk: (rowh.take j).length=j:=by simp; omega
          have hcl: (x.cells.map fun c=>T.ofSc c.av).length=x.cells.length:=by simp
          obtain⟨m1,m2,m3,m4,m5⟩:=lJ pr i S.gh.length sz ti.ty.csh x.cells j S S1 vs (Rh.set i (rowh.take j++x.cells.map (fun c=>T.ofSc c.av)++rowh.drop (j+ti.ty.width))) (rowh.take j++x.cells.map (fun c=>T.ofSc c.av)++rowh.drop (j+ti.ty.width)) hS hcok hvs (by simp[hi]) (by simp; omega) (fun k c hc=>by have hk:=(af.1 hc).1;rw[aN,aL (by omega),htk,Nat.add_sub_cancel_left,aF (by omega),an,hc];rfl)
          obtain⟨f1,f2,f3⟩:=fin S1 y z vs Rh rowh m1 hy (Ty.unflat_some _ _ _ hz) g5 g6 g7;refine⟨_,?_,f2,f3,hk⟩;rw[put y hy Rh rowh g1 g2 g4,hfl,if_neg (by simp),if_pos h5,m5,<-f1]
          congr 2
          rw[List.set_set]
          congr 1
          rw[aN,aN,List.take_append_of_le_length (by omega),List.take_take,Nat.min_self,<-aN]
          congr 1
          rw[<-aN,List.drop_append,bk,htk,hcl,hlen,cP,bP,bK (by simp; omega),bG]
         split at h
         ·rename_i hh;exact main (.inl hh) h
         ·rename_i i0 j0 hh;obtain⟨h6,h⟩:=cX h;simp only[al] at h6;obtain⟨h7,h⟩:=dh h;have h8:j=j0:=ao h6.1;have h9:ti.ty.width=1:=ao h6.2;exact main (.inr ⟨by rw[hh,h7,h8],h9⟩) h
        ·cases h
       ·cases h
     ·cases h
   ·cases h
end
end
section
open Go
theorem mh (X:St) (p:da) (i:Nat): ∀ (ss:List Nat) (vs:List AV) (j:Nat),ss.all (· ==0)=true->dg X p i j ss vs=some X:=by
 intro ss
 induction ss with
 |nil=>intro vs j _; cases vs<;>rfl
 |cons s ss ih=>
  intro vs j h;simp only[bN,al,beq_iff_eq] at h;cases vs with
  |nil=>rfl
  |cons v vs=>simp only[dg];rw[if_pos h.1];exact ih vs (j+1) h.2
def ic (no:Nat) (ss:List Nat):Nat->List V->St->Option St
 | _,[],X=>some X
 |k,v::vs,X=>(dg X ⟨no,[]⟩ k 0 ss v.av.cells).bind (ic no ss (k+1) vs)
theorem rr (el:Ty) (no N:Nat): ∀ (vs:List V) (k:Nat) (S S1:TS) (l:List el.D) (R:List (List T)),S.ok->S.gh.length=no->(∀v∈vs,v.ok S.gh)->ge el S vs=some (l,S1)->R.length=k+vs.length->
  (∀ (m:Nat) (v:V),vs[m]? =some v->R[k+m]? =some (v.av.cells.map T.ofSc))->
  uc S S1 no/\l.length=vs.length/\(∀v∈vs,v.av.cells.length=el.width/\v.av.isDead=false)/\ic no el.shs k vs (S.with no N el.width R)=some (S1.with no N el.width (R.take k++l.map el.row)):=by
 intro vs
 induction vs with
 |nil=>intro k S S1 l R hS hno hvs h hl ho;simp only[ge,ae,am] at h;obtain⟨rfl,rfl⟩:=h;refine⟨⟨hS,dM.refl _,rfl,rfl,rfl,rfl⟩,rfl,(fun v hv=>by cases hv),?_⟩;simp only[ic,bM,bm];rw[bW (by simp at hl; omega)]
 |cons v vs ih=>
  intro k S S1 l R hS hno hvs h hl ho;cases v with
  |tup x=>simp[ge] at h
  |v x=>
   simp only[ge] at h;split at h
   ·rename_i ws S2 hw;split at h
    ·rename_i y ys S3 hy hys;simp only[ae,am] at h;obtain⟨rfl,rfl⟩:=h;have hv:=hvs _ aE;have hrow:=ho 0 _ rfl;rw[bU] at hrow;have hk:k<R.length:=(af.1 hrow).1
     have hcok: ∀c∈x.cells,c.ok S.gh:=by
      cases x with
      |cl c=>intro c' hc'; simp only[V1.cells,aA] at hc'; subst hc'; exact hv
      |agg cs=>exact hv
      |fn f cs=>intro c' hc'; simp only[V1.cells,aA] at hc'; subst hc'; trivial
     rw[hno] at hw
     have hx:x≠ .cl .dead/\(∀f cs,x≠ .fn f cs):=by
      have nd: ∀ (cs:List Cl),cs= [.dead] ->fw no 0 S el.csh cs=some (ws,S2)->False:=by
       intro cs hcs h;subst hcs;cases hc:el.csh with
       |nil=>rw[hc] at h; simp[fw] at h
       |cons e es=>rw[hc] at h;cases e<;>simp[fw,dN] at h
      constructor
      ·intro e; subst e; exact nd _ rfl hw
      ·intro f cs e; subst e; exact nd _ rfl hw
     obtain⟨hc1,hc2⟩:=lK hx.1 hx.2
     obtain⟨m1,m2,m3,m4,m5⟩:=lJ no k N el.width el.csh x.cells 0 S S2 ws R ((V.v x).av.cells.map T.ofSc) hS hcok hw hrow (by rw[hc1]; simp) (fun m c hm=>by rw[hc1,aP,an,an,hm];rfl)
     have hwid:x.cells.length=el.width:=by
      rw[<-m2];cases el with
      |st n=>cases n<;>rfl
      | _=>rfl
     obtain⟨g1,g2,g3,g4⟩:=ih (k+1) S2 S3 ys (R.set k (el.row y)) m1.ok (m1.len.trans hno) (fun v hv=>V.ok_mono m1.gle (hvs v (az _ hv))) hys (by simp at hl ⊢; omega) (fun m v hm=>by rw[List.getElem?_set_ne (by omega),show k+1+m=k+(m+1) by omega];exact ho (m+1) v (by simpa using hm))
     refine⟨⟨g1.ok,m1.gle.trans g1.gle,g1.len.trans m1.len,g1.fz.trans m1.fz,g1.nt.trans m1.nt,g1.no.trans m1.no⟩,by simp[g2],fun v hv=> ?_,?_⟩
     ·rcases aV.1 hv with rfl|hv
      ·exact⟨by rw[hc1]; simpa using hwid,hc2⟩
      ·exact g3 v hv
     ·simp only[ic];have e1:el.shs=el.csh.map pi:=rfl;rw[hc1,e1,m5];simp only[ak]
      have e2: ((V.v x).av.cells.map T.ofSc).take 0++ws.map C.tree++((V.v x).av.cells.map T.ofSc).drop (0+x.cells.length)=el.row y:=by rw[hc1,cR,bG,bK (by simp),bm,el.row_flat,Ty.unflat_some _ _ _ hy]
      rw[e2,<-e1,g4]
      congr 2
      have e3: (R.set k (el.row y)).take (k+1)=R.take k++ [el.row y] :=by
       rw[List.take_set,List.take_add_one,ai hk,Option.toList_some];have hlen: (R.take k).length=k:=by simp; omega
       rw[List.set_append_right _ _ (by omega),hlen,cP];rfl
      rw[e3];simp
    ·cases h
   ·cases h
theorem oW (t:Ty):t.zcs.map C.tree=List.zipWith zc t.shs t.zvs:=by
 cases t with
 |st n=>cases n<;>rfl
 | _=>rfl
theorem pY: ∀ {a b:List Nat},wM a b=true->a=b
 | [],[],_=>rfl
 |a::l,b::m,h=>by
  simp only[wM] at h;cases hb:Nat.beq a b with
  |true=>rw[hb] at h;rw[ao hb,pY h]
  |false=>rw[hb] at h; cases h
 | [],_::_,h=>by cases h
 | _::_,[],h=>by cases h
theorem oX (no:Nat) (ss:List Nat) (e:Operand->AV): ∀ (ps:List (Nat×Operand)) (vs:List V) (k:Nat) (X:St),ps.map (·.1)=List.range' k ps.length->ps.map (fun x=>e x.2)=vs.map V.av->
  ps.foldlM (fun S' x=>dg S' ⟨no,[]⟩ x.1 0 ss (e x.2).cells) X=ic no ss k vs X:=by
 intro ps
 induction ps with
 |nil=>
  intro vs k X _ h;cases vs with
  |nil=>rfl
  |cons v vs=>cases h
 |cons p ps ih=>
  intro vs k X h1 h2;cases vs with
  |nil=>cases h2
  |cons v vs=>
   simp only[aJ,aY] at h2;simp only[aJ,ba,bZ,aY] at h1;simp only[List.foldlM_cons,ic,h1.1,h2.1];cases dg X ⟨no,[]⟩ k 0 ss v.av.cells with
   |none=>rfl
   |some X'=>exact ih vs (k+1) X' h1.2 h2.2
section
variable {ρ:Type} {P:Program} {Θ:fp} {S:TS} {Y:kI}
theorem ud {a:AV} {n:Int} (h:kM a=some n): ∃k,a= .sc (.int k n):=by
 unfold kM at h;split at h
 ·rename_i k m;simp only[ae] at h;subst h;exact⟨k,rfl⟩
 ·cases h
theorem ue (c:Cl):pj c.av=pR c:=by
 cases c with
 |c x=>cases x<;>rfl
 | _=>rfl
theorem nB (cs:List Cl): (cs.map Cl.av).any pj=cs.any pR:=by
 rw[List.any_map]
 congr 1
 funext c
 exact ue c
theorem km (c:Cl): (V.v (.cl c)).av.cells= [c.av] :=by
 cases c with
 |c x=>cases x<;>rfl
 | _=>rfl
theorem sU {v:V} (h:ly v=true):v.av.cells.any pj=true:=by
 cases v with
 |tup l=>cases h
 |v x=>
  cases x with
  |cl c=>rw[km];have h: [c].any pR=true:=h;rw[<-nB] at h;exact h
  |agg cs=>have h:cs.any pR=true:=h;rw[<-nB] at h;exact h
  |fn f cs=>cases h
theorem sV {v:V} (h:v.av.cells.any pj=true):ly v=true:=by
 cases v with
 |tup l=>cases h
 |v x=>
  cases x with
  |cl c=>rw[km] at h;show [c].any pR=true;rw[<-nB];exact h
  |agg cs=>show cs.any pR=true;rw[<-nB];exact h
  |fn f cs=>cases h
theorem lL: ∀ (ets:List (Option Ty)) (cs:List Cl) (xs:List C),eL ets cs=some xs->cs.length=ets.length/\l5 (ets.map fun |some e=>e.width|none=>0) (cs.map Cl.av)=some (xs.map C.tree)
 | [],[],xs,h=>by simp only[eL,ae] at h; subst h; exact⟨rfl,rfl⟩
 |et::ets, .c x::cs,xs,h=>by
  have h: (match eL ets cs with |some r=>some (x::r)|none=>none)=some xs:=by cases et<;>exact h
  split at h
  ·rename_i r hr;simp only[ae] at h;subst h;obtain⟨h1,h2⟩:=lL ets cs r hr;refine⟨by simp[h1],?_⟩;simp only[aJ,l5];have : ∀s,vV s (Cl.av (.c x))=some x.tree:=fun s=>by cases x<;>rfl
   rw[this,h2];rfl
  ·cases h
 |some t::ets, .em::cs,xs,h=>by
  simp only[eL] at h;split at h
  ·rename_i r hr;simp only[ae] at h;subst h;obtain⟨h1,h2⟩:=lL ets cs r hr;refine⟨by simp[h1],?_⟩;simp only[aJ,l5,h2];rfl
  ·cases h
 | [],_::_,xs,h=>by simp[eL] at h
 | _::_,[],xs,h=>by simp[eL] at h
 |none::ets, .em::cs,xs,h=>by simp[eL] at h
 | _::ets, .own _ _ _ _ _::cs,xs,h=>by simp[eL] at h
 | _::ets, .pro _::cs,xs,h=>by simp[eL] at h
 | _::ets, .ptrB _ _::cs,xs,h=>by simp[eL] at h
 | _::ets, .ptrT _ _ _ _::cs,xs,h=>by simp[eL] at h
 | _::ets, .dead::cs,xs,h=>by simp[eL] at h
theorem ko (el:Ty): ∀ (vs:List V) (l:List el.D),gt el vs=some l->l.length=vs.length/\gX el.shs (vs.map fun v=>v.av.cells)=some (l.map el.row)/\ ∀v∈vs,v.av.cells.length=el.width/\v.av.isDead=false
 | [],l,h=>by simp only[gt,ae] at h; subst h; exact⟨rfl,rfl,fun v hv=>by cases hv⟩
 | .v x::vs,l,h=>by
   simp only[gt] at h;split at h
   ·rename_i xs hx;split at h
    ·rename_i y ys hy hys;simp only[ae] at h;subst h;obtain⟨h1,h2,h3⟩:=ko el vs ys hys;obtain⟨g1,g2⟩:=lL _ _ _ hx
     have n1:x≠ .cl .dead:=fun e=>by
      subst e;have hx:eL el.csh [Cl.dead] =some xs:=hx;cases hc:el.csh with
      |nil=>rw[hc] at hx; simp[eL] at hx
      |cons a b=>rw[hc] at hx; simp[eL] at hx
     have n2: ∀f cs,x≠ .fn f cs:=fun f cs e=>by
      subst e;have hx:eL el.csh [Cl.dead] =some xs:=hx;cases hc:el.csh with
      |nil=>rw[hc] at hx; simp[eL] at hx
      |cons a b=>rw[hc] at hx; simp[eL] at hx
     obtain⟨hc,hd⟩:=lK n1 n2
     have hw:el.csh.length=el.width:=by have:=i7 el;unfold Ty.shs at this;simpa using this
     refine⟨by simp[h1],?_,fun v hv=> ?_⟩
     ·simp only[aJ,gX,hc];rw[show el.shs=el.csh.map fun |some e=>e.width|none=>0 from rfl,g2];simp only[ak];rw[show (el.csh.map fun |some e=>e.width|none=>0)=el.shs from rfl,h2,el.row_flat,Ty.unflat_some _ _ _ hy];rfl
     ·rcases aV.1 hv with rfl|hv
      ·exact⟨by rw[hc,ay,g1,hw],hd⟩
      ·exact h3 v hv
    ·cases h
   ·cases h
 | .tup _::vs,l,h=>by simp[gt] at h
theorem oY (hΘ:dA P Θ) (hY:fy P Y) (hS:S.ok) {o:Oper} {κ:V->TS->Option ρ} {r:ρ} (h:jq Θ Y S o κ=some r):
  ∃D v S',eY P D/\dR D P S.st o=some (V.av v,TS.st S')/\S'.ok/\v.ok S'.gh/\κ v S'=some r:=by
 have ok: ∀x,(S.opd x).ok S.gh:=fun x=>ew hS x
 have vals:lw Θ S o κ=some r->(∀D:fR,dR D P S.st o=(cY D P S.st o).map fun v=>(v,S.st))-> ∃D v S',eY P D/\dR D P S.st o=some (V.av v,TS.st S')/\S'.ok/\v.ok S'.gh/\κ v S'=some r:=by intro h he;obtain⟨v,S1,h1,h2,h3,h4,h5,h6⟩:=mD (D:=nR) hΘ hS h;exact⟨nR,v,S1,dQ,by rw[he,h1,ax,h2],h3,by rw[h4]; exact h5,h6⟩
 obtain⟨dst,op,ty,pos,aft,gd⟩:=o;unfold jq at h;cases op with
 |alloc t=>
  simp only at h;split at h
  ·rename_i ti hti;refine⟨nR,_,{ S with bx:=S.bx++ [ti.ty.zvs.map cC] },dQ,?_,⟨hS.env,fun cs hcs c hc=> ?_⟩,?_,h⟩
   ·simp only[dR,(hΘ _ _ hti).ze,ax];rw[pW,sH];rfl
   ·rcases bD.1 hcs with h1|h1
    ·exact hS.bx cs h1 c hc
    ·simp only[aA] at h1;subst h1;exact sI _ _ c hc
   ·trivial
  ·cases h
 |box t x=>
  have fin: ∀ (cs:List Cl),(∀c∈cs,c.ok S.gh)->dR nR P S.st ⟨dst, .box t x,ty,pos,aft,gd⟩=some (.ptrB S.bx.length 0,{ S.st with bx:=c9 S.st.bx S.bx.length (some (cs.map Cl.av)),nb:=S.bx.length+1 })->κ (.v (.cl (.ptrB S.bx.length 0))) { S with bx:=S.bx++ [cs] } =some r->
    ∃D v S',eY P D/\dR D P S.st ⟨dst, .box t x,ty,pos,aft,gd⟩=some (V.av v,TS.st S')/\S'.ok/\v.ok S'.gh/\κ v S'=some r:=by
   intro cs hcs h1 h2;refine⟨nR, .v (.cl (.ptrB S.bx.length 0)),{ S with bx:=S.bx++ [cs] },dQ,?_,⟨hS.env,fun cs' hcs' c hc=> ?_⟩,trivial,h2⟩
   ·rw[h1,pW]; rfl
   ·rcases bD.1 hcs' with h3|h3
    ·exact hS.bx cs' h3 c hc
    ·simp only[aA] at h3;subst h3;exact hcs c hc
  simp only at h;split at h
  ·cases h
  ·rename_i c hnd hx;have hc:=ok x;rw[hx] at hc;refine fin [c] (fun c' hc'=>by simp only[aA] at hc'; subst hc'; exact hc) ?_ h;simp only[dR,c4,hx];cases c with
   |dead=>exact absurd rfl hnd
   |c y=>cases y<;>rfl
   | _=>rfl
  ·rename_i cs hx;have hc:=ok x;rw[hx] at hc;refine fin cs hc ?_ h;simp only[dR,c4,hx];rfl
  ·cases h
 |store t a x=>simp only at h;obtain⟨S1,h1,h2,h3,h⟩:=sT hΘ hS (ok a) (ok x) h;refine⟨nR,_,S1,dQ,?_,h2,V.ok_dead _,h⟩;simp only[dR,c4,h1,ax];rfl
 |makeSlice t l c=>
  simp only at h;split at h
  ·rename_i ti hti;split at h
   ·rename_i el he;obtain⟨elT',g1,g2,g3,g4,g5,g6⟩:=(hΘ _ _ hti).el el he;obtain⟨n,h1,h⟩:=js h;obtain⟨m,h2,h⟩:=js h;split at h
    ·rename_i z hz;obtain⟨hb,h⟩:=dh h;have hz':=Ty.unflat_some _ _ _ hz
     have hzr:el.row z=List.zipWith zc el.shs el.zvs:=by rw[el.row_flat,hz',oW]
     refine⟨nR,_,{ S with gh:=S.gh++ [some ⟨el,List.replicate n.toNat z,none⟩] },dQ,?_,TS.ok_gh hS (dM.app _ _),?_,h⟩
     ·simp only[dR,g1,ak,c4,h1,h2];rw[kK g2 g5 g6];simp only[ak]
      have hn:n<=n*(ti.el:Int):=by
       have h1e: (1:Int)<=ti.el:=by omega
       have:=Int.mul_le_mul_of_nonneg_left h1e hb.1
       rwa [Int.mul_one] at this
      rw[if_pos ⟨hb.1,hb.2.1,by rw[g3,Int.mul_comm]; exact hb.2.2,Int.le_trans hn hb.2.2⟩];rw[lC,g2];simp only[de.tree,cU,hzr];rfl
     ·refine⟨by simp,fun _=>⟨rfl,rfl,fun tr htr=> ?_⟩⟩;rw[e9,if_pos rfl] at htr;cases htr;simp
    ·cases h
   ·cases h
  ·cases h
 |buildSlice t len parts=>
  simp only at h;split at h
  ·rename_i ti hti;split at h
   ·rename_i el he;obtain⟨elT',g1,g2,g3,g4,g5,g6⟩:=(hΘ _ _ hti).el el he;obtain⟨hb,h⟩:=cX h;simp only[al] at hb;have hb1:len*el.width<=1048576:=aw hb.1;have hb2:=pY hb.2
    have hpl:parts.toList.length=len:=by have:=congrArg List.length hb2;simpa using this
    cases hro: (parts.toList.map fun x=>S.opd x.2).any ly with
    |true=>
     rw[hro] at h;simp only[cond_true] at h;split at h
     ·rename_i l hl;obtain⟨m1,m2,m3⟩:=ko el _ l hl;refine⟨nR, .v (.cl (.c (.ls el l))),S,dQ,?_,hS,trivial,h⟩;simp only[dR,g1,ak]
      rw[if_pos ⟨by rw[g2]; exact hb1,hb2,by rw[g2]; exact el.width_pos,by rw[g6]; rfl,by rw[au];intro y hy;obtain⟨q1,q2⟩:=m3 (S.opd y.2) (aI.2 ⟨y,hy,rfl⟩);simp only[c4,q1,q2,g2];rfl⟩]
      have e1: (parts.toList.any fun x=>(opd S.st x.2).cells.any pj)=true:=by rw[bI] at hro ⊢;obtain⟨v,hv,hr⟩:=hro;obtain⟨x,hx,rfl⟩:=aI.1 hv;exact⟨x,hx,by rw[c4]; exact sU hr⟩
      have e2: (parts.toList.map fun x=>(opd S.st x.2).cells)=(parts.toList.map fun x=>S.opd x.2).map fun v=>v.av.cells:=by rw[aU];exact aG fun x _=>by simp only[Function.comp,c4]
      rw[if_pos e1,e2,g5,m2,g2];rfl
     ·cases h
    |false=>
    rw[hro] at h;simp only[cond_false] at h;split at h
    ·rename_i l S1 hp
     have hvok: ∀v∈parts.toList.map (fun x=>S.opd x.2),v.ok S.gh:=fun v hv=>by obtain⟨y,_,rfl⟩:=aI.1 hv;exact ok _
     have hR: ∀ (m:Nat) (v:V),(parts.toList.map fun x=>S.opd x.2)[m]? =some v->(parts.toList.map fun x=>(opd S.st x.2).cells.map T.ofSc)[0+m]? =some (v.av.cells.map T.ofSc):=by intro m v hm;rw[aP,an];rw[an] at hm;simp only[aj] at hm;obtain⟨y,hy,rfl⟩:=hm;rw[hy];simp only[ax,c4]
     obtain⟨m1,m2,m3,m4⟩:=rr el S.gh.length (S.gh.length+1) _ 0 S S1 l _ hS rfl hvok hp (by simp) hR;have hlen:l.length=len:=by rw[m2]; simp[hpl]
     refine⟨nR,_,{ S1 with gh:=S1.gh++ [some ⟨el,l,none⟩] },dQ,?_,TS.ok_gh m1.ok (dM.app _ _),?_,h⟩
     ·simp only[dR,g1,ak]
      rw[if_pos ⟨by rw[g2]; exact hb1,hb2,by rw[g2]; exact el.width_pos,by rw[g6]; rfl,by rw[au];intro y hy;obtain⟨q1,q2⟩:=m3 (S.opd y.2) (aI.2 ⟨y,hy,rfl⟩);simp only[c4,q1,q2,g2];rfl⟩]
      have hfold:=oX S.gh.length el.shs (opd S.st) parts.toList (parts.toList.map fun x=>S.opd x.2) 0 (S.with S.gh.length (S.gh.length+1) el.width (parts.toList.map fun x=>(opd S.st x.2).cells.map T.ofSc)) (by rw[hb2,hpl,b8]) (by rw[aU];exact aG fun y _=>c4 _)
      have e0: (parts.toList.any fun x=>(opd S.st x.2).cells.any pj)=false:=by rw[List.any_eq_false] at hro ⊢;intro x hx;have:=hro (S.opd x.2) (aI.2 ⟨x,hx,rfl⟩);rw[c4];exact fun hc=>this (sV hc)
      rw[if_neg (by rw[e0]; decide)]
      have hX: ({ S.st with gh:=c9 S.st.gh S.st.ng (some (.sl (P.cellsOf elT') (parts.toList.map fun x=>(opd S.st x.2).cells.map T.ofSc))),ng:=S.st.ng+1 }:St)=S.with S.gh.length (S.gh.length+1) el.width (parts.toList.map fun x=>(opd S.st x.2).cells.map T.ofSc):=by rw[g2]; rfl
      rw[hX,g5];have hng:S.st.ng=S.gh.length:=rfl;rw[hng]
      have hres: (if (el.shs.all (· ==0))=true then some (S.with S.gh.length (S.gh.length+1) el.width (parts.toList.map fun x=>(opd S.st x.2).cells.map T.ofSc)) else
        parts.toList.foldlM (fun S' x=>dg S' ⟨S.gh.length,[]⟩ x.1 0 el.shs (opd S.st x.2).cells) (S.with S.gh.length (S.gh.length+1) el.width (parts.toList.map fun x=>(opd S.st x.2).cells.map T.ofSc)))=some (S1.with S.gh.length (S.gh.length+1) el.width (l.map el.row)):=by
       rw[hfold];simp only[cR,bG] at m4;rw[m4];split
       ·rename_i hfl
        have : ∀ (vs:List V) (k:Nat) (X:St),ic S.gh.length el.shs k vs X=some X:=by
         intro vs
         induction vs with
         |nil=>intro k X; rfl
         |cons v vs ih=>intro k X; simp only[ic]; rw[mh _ _ _ _ _ _ hfl]; exact ih _ _
        rw[this] at m4;exact m4
       ·rfl
      rw[hres];simp only[ax];rw[lC,m1.len,g2];simp only[V.av,V1.av,Cl.av,hlen];rfl
     ·refine⟨by simp,fun _=>⟨rfl,rfl,fun tr htr=> ?_⟩⟩;rw[e9,if_pos rfl] at htr;cases htr;rfl
    ·cases h
   ·cases h
  ·cases h
 |call c=>
  obtain⟨cl,as,ts⟩:=c;cases cl with
  |value f=>simp only at h;exact sL hΘ hY hS h
  |invoke a b=>exact vals h (fun D=>rfl)
  |builtin b=>
   cases b with
   |append=>
    simp only at h;split at h
    ·rename_i s x t t' e1 e2;cases htb:Nat.beq t t' with
     |false=>
      rw[htb] at h;simp only[cond_false] at h;have hne: ¬t=t':=fun e=>by rw[e,cc] at htb; cases htb
      unfold uW at h;split at h
      ·rename_i ti hti;split at h
       ·rename_i el he hs;obtain⟨elT',g1,g2,g3,g4,g5,g6⟩:=(hΘ _ _ hti).el el he;obtain⟨n,h1,h⟩:=js h;split at h
        ·rename_i z hz;obtain⟨hb,h⟩:=dh h;have hz':=Ty.unflat_some _ _ _ hz
         have hzr:el.row z=List.zipWith zc el.shs el.zvs:=by rw[el.row_flat,hz',oW]
         obtain⟨kk,hkk⟩:=ud h1;refine⟨nR,_,{ S with gh:=S.gh++ [some ⟨el,List.replicate n.toNat z,none⟩] },dQ,?_,TS.ok_gh hS (dM.app _ _),?_,h⟩
         ·simp only[dR,e1,e2,if_neg hne,g1,ak];rw[kK g2 g5 g6];simp only[ak,c4,hs,hkk]
          have hn:n<=n*(ti.el:Int):=by
           have h1e: (1:Int)<=ti.el:=by omega
           have:=Int.mul_le_mul_of_nonneg_left h1e (Int.le_of_lt hb.1)
           rwa [Int.mul_one] at this
          show (if 0<n/\_ then _ else _)=_;rw[if_pos ⟨hb.1,by rw[g3,Int.mul_comm]; exact hb.2,Int.le_trans hn hb.2,by rw[g2]; exact el.width_pos⟩];rw[lC,g2];simp only[de.tree,cU,hzr];rfl
         ·refine⟨by simp,fun _=>⟨rfl,rfl,fun tr htr=> ?_⟩⟩;rw[e9,if_pos rfl] at htr;cases htr;simp
        ·cases h
       ·cases h
      ·cases h
     |true=>
     rw[htb] at h;simp only[cond_true] at h;have h':=h;have ht:t=t':=ao htb;clear h;subst ht;have e1:as= #[s,x] :=by apply Array.ext'; simpa using e1
     have e2:ts= #[t,t] :=by apply Array.ext'; simpa using e2
     subst e1 e2;obtain⟨v,S1,h1,h2,h3,h4⟩:=t9 (D:=nR) (dst:=dst) (ty:=ty) (pos:=pos) (aft:=aft) (gd:=gd) hΘ hS h';exact⟨nR,v,S1,dQ,h1,h2,h3,h4⟩
    ·cases h
   | _=>exact vals h (fun D=>rfl)
 | _=>exact vals h (fun D=>rfl)
end
end
end Go.Proofs.Ytpagmogboinlpaa.En
