import Derived.Test.YtadabkgmdllbfabGreatZX6
namespace Go.Proofs.YtadabkgmdllbfabGreat.En
section
open Go
theorem eH {α β:Type} {P:Program} (s:Sem α) (f:α->Sem β):eK P (s >>=f)=(eK P s).bind fun a=>eK P (f a):=by
 show eK P (s.bind f)=_
 induction s with
 |pure a=>rfl
 |program k ih=>exact ih P
 | _=>rfl
theorem eU {α:Type} {P:Program} (a:α):eK P (pure a)=some a:=rfl
theorem wi: ∀ {zs:List Value} {a:List Cl},lR zs a=true-> ∃xs:List Value,a=xs.map (fun x=>Cl.c (.sc x))
 | [],[],_=>⟨[],rfl⟩
 | .int k n::zs,a,h=>by
   unfold lR at h;split at h
   ·rename_i heq;cases heq
   ·rename_i k1 n1 zs1 k2 n2 cs h1;have hd:=h;cases hk:decide (k1=k2) with
    |false=>rw[hk] at h; cases h
    |true=>rw[hk] at h;obtain⟨xs,hx⟩:=wi (zs:=zs1) (a:=cs) h;exact⟨.int k2 n2::xs,by rw[hx]; rfl⟩
   all_goals grind
 | .bool b::zs,a,h=>by
   unfold lR at h;split at h
   ·rename_i heq;cases heq
   ·rename_i h1;cases h1
   ·rename_i b1 zs1 b2 cs h1;obtain⟨xs,hx⟩:=wi (zs:=zs1) (a:=cs) h;exact⟨.bool b2::xs,by rw[hx]; rfl⟩
   ·cases h
 | .float _ _::_,_,h=>by simp[lR] at h
 | .complex _ _ _::_,_,h=>by simp[lR] at h
 | .string _::_,_,h=>by simp[lR] at h
 | .pointer _::_,_,h=>by simp[lR] at h
 | .slice _ _ _::_,_,h=>by simp[lR] at h
 | .map _::_,_,h=>by simp[lR] at h
 | .chan _::_,_,h=>by simp[lR] at h
 | .func _ _ _::_,_,h=>by simp[lR] at h
 | .nilFunc::_,_,h=>by simp[lR] at h
 | .iface _ _::_,_,h=>by simp[lR] at h
 | .nilIface::_,_,h=>by simp[lR] at h
 | .agg _::_,_,h=>by simp[lR] at h
 | .tuple _::_,_,h=>by simp[lR] at h
 | [],_::_,h=>by simp[lR] at h
theorem KD (f:AV->Option Value) (hf: ∀v,f (.sc v)=some v): ∀xs:List Value,((xs.map fun x=>Cl.c (.sc x)).map Cl.av).mapM f=some xs
 | [] =>rfl
 |x::xs=>by simp only[aW,cT,KD f hf xs];show (f (.sc x)).bind _=_;rw[hf];rfl
theorem KE (xs:List Value):sf (V.v (.agg (xs.map fun x=>Cl.c (.sc x)))).av=some (.agg xs.toArray):=by simp only[V.av,V1.av,sf];rw[KD _ (fun _=>rfl)];rfl
theorem fG {P:Program} {t:TypeId} {d:TypeDesc} (h:P.underlying t=some d):eK P (underlying t)=some d:=by simp only[underlying,eH,program,eK,ae,h];rfl
section
variable {ρ:Type} {P:Program} {Θ:nD} {S:TS}
theorem Nm (hΘ:gz P Θ) {t:TypeId} {x y:V} {κ:Bool->Option ρ} {r:ρ} (h:SF Θ t x y κ=some r):
  ∃b,κ b=some r/\((∃k a c,x.av= .sc (.int k a)/\y.av= .sc (.int k c)/\b=(a==c))\/
   ((∀k a k' c,¬ (x.av= .sc (.int k a)/\y.av= .sc (.int k' c)))/\ ∃xv yv,sf x.av=some xv/\sf y.av=some yv/\(∀op xo yo,eK P (eqGuard op t xo yo xv yv)=some ())/\eK P (binOp .eql t xv yv)=some (.bool b)/\eK P (binOp .neq t xv yv)=some (.bool (!b)))):=by
 unfold SF at h;split at h
 ·rename_i k a k' c;split at h
  ·rename_i hk;subst hk;exact⟨_,h, .inl ⟨k,a,c,rfl,rfl,rfl⟩⟩
  ·cases h
 ·rename_i a c;split at h
  ·rename_i ti hti;split at h
   ·rename_i hb;have hu:=(hΘ _ _ hti).bool hb
    have hE:eK P (Op.equal t (.bool a) (.bool c))=some (a==c):=by show eK P (Op.equalIn (9999+1) t (.bool a) (.bool c))=_;rw[Op.equalIn];simp only[eH,fG hu,ae,eU]
    refine⟨_,h, .inr ⟨fun k a k' c hc=>by simp[V.av,V1.av,Cl.av,C.av] at hc, .bool a, .bool c,rfl,rfl,fun op xo yo=> ?_,?_,?_⟩⟩
    ·cases op<;>simp[eqGuard,eU]<;>rfl
    all_goals grind [binOp,eH,eU]
   ·cases h
  ·cases h
 ·rename_i a c;refine⟨_,h, .inr ⟨fun k a k' c hc=>by simp[V.av,V1.av,Cl.av,C.av] at hc, .string a, .string c,rfl,rfl,fun op xo yo=> ?_,?_,?_⟩⟩
  ·cases op<;>simp[eqGuard,eU]<;>rfl
  ·simp only[binOp,Op.stringOp,eU];rfl
  ·simp only[binOp,Op.stringOp,eU];rfl
 ·rename_i a c;split at h
  ·rename_i ti hti;obtain⟨h1,h'⟩:=ej h;simp only[al] at h1;obtain⟨⟨⟨h1,hfl⟩,h2⟩,h3⟩:=h1;split at h'
   ·rename_i b hb;obtain⟨xs,hx⟩:=wi h2;obtain⟨ys,hy⟩:=wi h3;have hok:=hΘ _ _ hti;have hE:=hok.eq h1 a c b xs ys h2 h3 hb hx hy;have hg:=hok.gu h1 hfl;refine⟨_,h', .inr ⟨fun k a k' c hc=>by simp[V.av,V1.av] at hc, .agg xs.toArray, .agg ys.toArray,by rw[hx]; exact KE xs,by rw[hy]; exact KE ys,fun op xo yo=> ?_,?_,?_⟩⟩
    ·cases op<;>simp[eqGuard,eH,eU,program,eK,hg]
    all_goals grind [binOp,eH,eU]
   ·cases h'
  ·cases h
 ·cases h
theorem ob {f:IntKind->Int->Int->Option ρ} {x y:V} {r:ρ} (h:V.ints f x y=some r): ∃k a b,x.av= .sc (.int k a)/\y.av= .sc (.int k b)/\f k a b=some r:=by
 unfold V.ints at h;split at h
 ·split at h
  ·rename_i k a k' b hk;subst hk;exact⟨k,a,b,rfl,rfl,h⟩
  ·cases h
 ·cases h
theorem PA (hΘ:gz P Θ) {D:rZ} {op:BinOp} {t t':TypeId} {x y:Operand} {κ:V->Option ρ} {r:ρ} (h:RH Θ op t (S.opd x) (S.opd y) κ=some r) {dst:Option Tmp} {ty:TypeId} {pos:String} {aft:Array Edge} {gd:Option (Nat×Bool)}:
  ∃v:V,eu D P S.st ⟨dst, .binOp op t x y t',ty,pos,aft,gd⟩=some v.av/\(∀G,v.ok G)/\κ v=some r:=by
 have eqs: ∀ (b:Bool) (xv yv:Value),sf (opd S.st x)=some xv->sf (opd S.st y)=some yv->eK P (eqGuard op t x y xv yv)=some ()->eK P (binOp op t xv yv)=some (.bool b)->
   eX P S.st ⟨dst, .binOp op t x y t',ty,pos,aft,gd⟩=some (.sc (.bool b)):=by
  intro b xv yv h1 h2 h3 h4;unfold eX;rw[if_pos (by simp[Op.operands,h1,h2])];simp only[execOp,h1,h2,bn,eH,h3,h4,ae,eU,SJ,o6,if_true]
 cases op with
 |lss=>obtain⟨k,a,b,h1,h2,h3⟩:=ob h; exact⟨_,by simp only[eu,ez,h1,h2,if_true]; rfl,fun G=>V.ok_sc G _,h3⟩
 |leq=>obtain⟨k,a,b,h1,h2,h3⟩:=ob h; exact⟨_,by simp only[eu,ez,h1,h2,if_true]; rfl,fun G=>V.ok_sc G _,h3⟩
 |gtr=>obtain⟨k,a,b,h1,h2,h3⟩:=ob h; exact⟨_,by simp only[eu,ez,h1,h2,if_true]; rfl,fun G=>V.ok_sc G _,h3⟩
 |geq=>obtain⟨k,a,b,h1,h2,h3⟩:=ob h; exact⟨_,by simp only[eu,ez,h1,h2,if_true]; rfl,fun G=>V.ok_sc G _,h3⟩
 |add=>
  have h:RG (S.opd x) (S.opd y) κ=some r:=h;unfold RG at h;split at h
  ·rename_i a b g1 g2;obtain⟨h0,h⟩:=fA h;have hx:sf (opd S.st x)=some (.string a):=by rw[ez,g1]; rfl
   have hy:sf (opd S.st y)=some (.string b):=by rw[ez,g2]; rfl
   refine⟨_,?_,fun G=>V.ok_sc G _,h⟩;simp only[eu,ez,g1,g2];show eX P S.st ⟨dst, .binOp .add t x y t',ty,pos,aft,gd⟩=_
   have hz: ¬ ((a.size+b.size:Nat):Int)>IntKind.i64.max:=by have :IntKind.i64.max=9223372036854775807:=rfl;omega
   have e:eK P (binOp .add t (.string a) (.string b))=some (.string (a++b)):=by simp only[binOp,Op.stringOp,if_neg hz,eU]
   have g:eK P (eqGuard .add t x y (.string a) (.string b))=some ():=rfl;unfold eX;rw[if_pos (by simp[Op.operands,hx,hy])];simp only[execOp,hx,hy,bn,eH,g,e,ae,eU,SJ,o6,if_true];rfl
  ·obtain⟨k,a,b,h1,h2,h3⟩:=ob h; exact⟨_,by simp only[eu,ez,h1,h2,if_true]; rfl,fun G=>V.ok_sc G _,h3⟩
 |sub=>obtain⟨k,a,b,h1,h2,h3⟩:=ob h; exact⟨_,by simp only[eu,ez,h1,h2,if_true]; rfl,fun G=>V.ok_sc G _,h3⟩
 |mul=>obtain⟨k,a,b,h1,h2,h3⟩:=ob h; exact⟨_,by simp only[eu,ez,h1,h2,if_true]; rfl,fun G=>V.ok_sc G _,h3⟩
 |eql=>
  have h':SF Θ t (S.opd x) (S.opd y) (fun r=>κ (V.sc (.bool r)))=some r:=h;obtain⟨b,h1,h2⟩:=Nm hΘ h';refine⟨_,?_,fun G=>V.ok_sc G _,h1⟩;rcases h2 with ⟨k,a,c,e1,e2,rfl⟩| ⟨hn,xv,yv,e1,e2,e3,e4,e5⟩
  ·simp only[eu,ez,e1,e2,if_true]; rfl
  ·simp only[eu];split
   ·grind [ez]
   ·exact eqs b xv yv (by rw[ez]; exact e1) (by rw[ez]; exact e2) (e3 _ _ _) e4
 |neq=>
  have h':SF Θ t (S.opd x) (S.opd y) (fun r=>κ (V.sc (.bool (!r))))=some r:=h;obtain⟨b,h1,h2⟩:=Nm hΘ h';refine⟨_,?_,fun G=>V.ok_sc G _,h1⟩;rcases h2 with ⟨k,a,c,e1,e2,rfl⟩| ⟨hn,xv,yv,e1,e2,e3,e4,e5⟩
  ·simp only[eu,ez,e1,e2,if_true]; rfl
  ·simp only[eu];split
   ·grind [ez]
   ·exact eqs (!b) xv yv (by rw[ez]; exact e1) (by rw[ez]; exact e2) (e3 _ _ _) e5
 |quo=>
  have h':V.ints (fun k a b=>if b=0 then none else κ (V.sc (.int k (k.wrap (a.tdiv b))))) (S.opd x) (S.opd y)=some r:=h;obtain⟨k,a,b,h1,h2,h3⟩:=ob h';split at h3
  ·cases h3
  ·rename_i hb;refine⟨_,?_,fun G=>V.ok_sc G _,h3⟩;have hx:sf (opd S.st x)=some (.int k a):=by rw[ez,h1]; rfl
   have hy:sf (opd S.st y)=some (.int k b):=by rw[ez,h2]; rfl
   simp only[eu];unfold eX;rw[if_pos (by simp[Op.operands,hx,hy])]
   have e:eK P (binOp .quo t (.int k a) (.int k b))=some (.int k (k.wrap (a.tdiv b))):=by simp only[binOp,ne_eq,not_true,if_false,Op.intDiv,if_neg hb,eU]
   have e2:eK P (execOp (fun x=>(sf (opd S.st x)).getD undef) ⟨dst, .binOp .quo t x y t',ty,pos,aft,gd⟩)=some (.value (.int k (k.wrap (a.tdiv b)))):=by show eK P (do pure (Next.value (<-(do eqGuard .quo t x y ((sf (opd S.st x)).getD undef) ((sf (opd S.st y)).getD undef); binOp .quo t ((sf (opd S.st x)).getD undef) ((sf (opd S.st y)).getD undef)))))=_;rw[hx,hy];have g:eK P (eqGuard .quo t x y (.int k a) (.int k b))=some ():=rfl;simp only[eH,bn,g,e,ae,eU]
   rw[e2];rfl
 |rem=>
  have h':V.ints (fun k a b=>if b=0 then none else κ (V.sc (.int k (a.tmod b)))) (S.opd x) (S.opd y)=some r:=h;obtain⟨k,a,b,h1,h2,h3⟩:=ob h';split at h3
  ·cases h3
  ·rename_i hb;refine⟨_,?_,fun G=>V.ok_sc G _,h3⟩;have hx:sf (opd S.st x)=some (.int k a):=by rw[ez,h1]; rfl
   have hy:sf (opd S.st y)=some (.int k b):=by rw[ez,h2]; rfl
   simp only[eu];unfold eX;rw[if_pos (by simp[Op.operands,hx,hy])]
   have e:eK P (binOp .rem t (.int k a) (.int k b))=some (.int k (a.tmod b)):=by simp only[binOp,ne_eq,not_true,if_false,Op.intDiv,if_neg hb,eU]
   have e2:eK P (execOp (fun x=>(sf (opd S.st x)).getD undef) ⟨dst, .binOp .rem t x y t',ty,pos,aft,gd⟩)=some (.value (.int k (a.tmod b))):=by show eK P (do pure (Next.value (<-(do eqGuard .rem t x y ((sf (opd S.st x)).getD undef) ((sf (opd S.st y)).getD undef); binOp .rem t ((sf (opd S.st x)).getD undef) ((sf (opd S.st y)).getD undef)))))=_;rw[hx,hy];have g:eK P (eqGuard .rem t x y (.int k a) (.int k b))=some ():=rfl;simp only[eH,bn,g,e,ae,eU]
   rw[e2];rfl
 | _=>simp[RH] at h
end
end
section
open Go
theorem HD {G:List (Option eT)}: ∀ (l:List V) (cs:List Cl),(∀v∈l,v.ok G)->Hp l=some cs->l.map V.av=cs.map Cl.av/\ ∀c∈cs,c.ok G
 | [],cs,_,h=>by simp_all [Hp]
 |v::l,cs,hl,h=>by
  unfold Hp at h;split at h
  ·rename_i heq; cases heq
  ·rename_i c l' heq;cases heq;split at h
   ·rename_i r hr;simp only[af] at h;subst h;obtain⟨h1,h2⟩:=HD l r (fun v hv=>hl v (aL _ hv)) hr;refine⟨by simp only[aW,h1]; rfl,fun x hx=> ?_⟩;rcases aX.1 hx with rfl|hx
    ·exact hl _ aK
    ·exact h2 x hx
   ·cases h
  ·cases h
section
variable {ρ:Type} {P:Program} {Θ:nD} {S:TS} {D:rZ}
theorem zC (hΘ:gz P Θ) (hS:S.ok) {o:Oper} {κ:V->TS->Option ρ} {r:ρ} (h:xy Θ S o κ=some r):
  ∃v S',eu D P S.st o=some v.av/\S'.st=S.st/\S'.ok/\S'.gh=S.gh/\v.ok S.gh/\κ v S'=some r:=by
 have ok: ∀x,(S.opd x).ok S.gh:=fun x=>nq hS x;have done: ∀ {v:V},eu D P S.st o=some v.av->v.ok S.gh->κ v S=some r-> ∃v S',eu D P S.st o=some v.av/\S'.st=S.st/\S'.ok/\S'.gh=S.gh/\v.ok S.gh/\κ v S'=some r:=fun h1 h2 h3=>⟨_,S,h1,rfl,hS,rfl,h2,h3⟩
 obtain⟨dst,op,ty,pos,aft,gd⟩:=o;unfold xy at h;cases op with
 |move x=>grind [eu,ez]
 |assign x=>grind [eu,ez]
 |pick c a b=>
  simp only at h;obtain⟨t,S1,h1,h2,h3,h4,h⟩:=B7 hS h;cases t with
  |true=>exact⟨_,S1,by simp only[eu,h1,if_true]; rw[<-h2,ez],h2,h3,h4,by rw[<-h4]; exact nq h3 _,h⟩
  |false=>exact⟨_,S1,by simp only[eu,h1,bc,if_false]; rw[<-h2,ez],h2,h3,h4,by rw[<-h4]; exact nq h3 _,h⟩
 |load t a=>grind [HC,eu,ez]
 |nilCheck x=>
  simp only at h;split at h<;>rename_i hx
  ·exact done (by simp only[eu,ez,hx]; rfl) (by rw[<-hx]; exact ok x) h
  ·exact done (by simp only[eu,ez,hx]; rfl) (by rw[<-hx]; exact ok x) h
  ·exact done (by simp only[eu,ez,hx]; rfl) (by rw[<-hx]; exact ok x) h
  ·exact done (by simp only[eu,ez,hx]; rfl) (by rw[<-hx]; exact ok x) h
  ·exact done (by simp only[eu,ez,hx]; rfl) (by rw[<-hx]; exact ok x) h
  ·cases h
 |fieldAddr t x k=>
  simp only at h;split at h
  ·rename_i ti hti;split at h
   ·rename_i off n ag hk;have hfd:=(hΘ _ _ hti).fd k;rw[hk] at hfd;cases hn:Nat.beq n 0 with
    |true=>rw[hn] at h; cases h
    |false=>
     rw[hn] at h;have hn': ¬n=0:=by intro h0; subst h0; cases hn
     simp only[cond_false] at h;split at h<;>rename_i hx
     ·refine done ?_ ?_ h
      ·simp only[eu,hfd,ae,ez,hx];rw[if_neg hn'];rfl
      ·trivial
     ·refine done ?_ ?_ h
      ·simp only[eu,hfd,ae,ez,hx];rw[if_neg hn'];rfl
      ·have:=ok x;rw[hx] at this;exact this
     ·refine done ?_ ?_ h
      ·simp_all [eu,ez,V.av,V1.av,Cl.av]
      ·trivial
     ·cases h
   ·cases h
  ·cases h
 |field t x k=>
  simp only at h;split at h
  ·rename_i ti hti;split at h
   ·rename_i off n ag hk;have hfd:=(hΘ _ _ hti).fd k;rw[hk] at hfd;split at h
    ·rename_i cs hx;obtain⟨h1,h⟩:=ej h;simp only[al] at h1;have h2:off+n<=cs.length:=ar h1.1;have h3:0<n:=ar h1.2;have hcs:=ok x;rw[hx] at hcs;obtain⟨v,h4,h5,h⟩:=Nk (G:=S.gh) (fun c hc=>hcs c (bV (bW hc))) h
     simp_all [eu,ez,V.av,V1.av]
    ·cases h
   ·cases h
  ·cases h
 |indexAddr t x ix=>
  simp only at h;split at h
  ·rename_i ti hti;split at h
   ·rename_i e he;obtain⟨el,g1,g2,_⟩:=(hΘ _ _ hti).el e he;obtain⟨i,h1,h⟩:=uj h;split at h
    ·rename_i a hx;have ha:=ok x;rw[hx] at ha;obtain⟨c,h2,h3,h⟩:=Px ha h;refine done ?_ ?_ h
     ·simp only[eu,g1,ae,ez,h1,hx,g2];exact h2
     ·exact h3
    ·cases h
   ·cases h
  ·cases h
 |build t parts=>
  simp only at h;split at h
  ·rename_i ti hti;obtain⟨h1,h⟩:=ej h;split at h
   ·rename_i cs hcs;have hok:=hΘ _ _ hti
    obtain⟨g1,g2⟩:=Pz (G:=S.gh) _ _ _ _ (fun c hc=>by
     obtain⟨v,_,rfl⟩:=aM.1 hc;exact KB _ _) (fun y hy=>by
     grind) hcs
    refine done ?_ ?_ h
    ·simp only[eu,hok.pl h1,hok.ze,ae]
     have e1:ti.ty.zvs.map Bk=(ti.ty.zvs.map cC).map Cl.av:=by rw[bK];exact aI fun v _=>(qu v).symm
     have e2:parts.toList.map (fun x=>(x.1,opd S.st x.2))=(parts.toList.map fun x=>(x.1,S.opd x.2)).map fun x=>(x.1,x.2.av):=by rw[bK];exact aI fun x _=>by simp[ez]
     rw[e1,e2,g1];rfl
    ·exact g2
   ·cases h
  ·cases h
 |slice t x lo hi mx=>
  cases mx with
  |some m=>simp at h
  |none=>
   simp only at h;split at h
   ·rename_i ti hti;split at h
    ·rename_i e he;obtain⟨el,g1,g2,_⟩:=(hΘ _ _ hti).el e he;split at h
     ·rename_i a hx;have ha:=ok x;rw[hx] at ha;obtain⟨n,h1,h⟩:=KC ha h;obtain⟨l,h2,h⟩:=EI h;obtain⟨m,h3,h⟩:=EI h;obtain⟨c,h4,h5,h⟩:=Py ha h;refine done ?_ ?_ h
      ·simp only[eu,ez,hx];split
       ·rename_i s hs;have hs':a.av= .sc (.string s):=hs;rw[hs'] at h1;cases h1
       ·show (tZ P t).bind _=_;rw[g1];simp only[ae];show (uE a.av).bind _=_;rw[h1];simp only[ae,h2,h3,g2];exact h4
      ·exact h5
     ·cases h
    ·cases h
   ·cases h
 |extract x k=>
  simp only at h;split at h
  ·rename_i vs hx;split at h
   ·rename_i v hv;have hvs:=ok x;rw[hx] at hvs;rw[gv] at hv;refine done ?_ ?_ h
    ·simp only[eu,ez,hx,V.av,ap,hv,aH]
    ·exact hvs v (au hv)
   ·cases h
  ·cases h
 |makeFunc fn first caps=>
  cases fn with
  |func f=>
   simp only at h;obtain⟨h1,h⟩:=ej h;split at h
   ·rename_i cs hcs
    obtain⟨g1,g2⟩:=HD (G:=S.gh) _ _ (fun v hv=>by grind) hcs
    refine done ?_ ?_ h
    ·simp only[eu,h1,if_true]
     have e:caps.toList.map (opd S.st)=(caps.toList.map S.opd).map V.av:=by rw[bK];exact aI fun x _=>ez x
     rw[e,g1];rfl
    ·exact g2
   ·cases h
  | _=>simp at h
 |unOp op t x=>
  cases op with
  |not=>
   simp only at h;split at h
   ·rename_i b hx;refine done ?_ ?_ h
    ·simp only[eu,ez,hx]; rfl
    ·trivial
   ·cases h
  |neg=>
   simp only at h;split at h
   ·rename_i k n hx;refine done ?_ (V.ok_sc _ _) h;have hxv:sf (opd S.st x)=some (.int k n):=by rw[ez,hx]; rfl
    simp only[eu];unfold eX;rw[if_pos (by simp[Op.operands,hxv])]
    have e2:eK P (execOp (fun x=>(sf (opd S.st x)).getD undef) ⟨dst, .unOp .neg t x,ty,pos,aft,gd⟩)=some (.value (.int k (k.wrap (0-n)))):=by show eK P (do pure (Next.value (<-Go.Op.unary .neg ((sf (opd S.st x)).getD undef))))=_;rw[hxv];rfl
    rw[e2];rfl
   ·cases h
  | _=>simp at h
 |binOp op t x y t'=>simp only at h;obtain⟨v,h1,h2,h⟩:=PA (D:=D) (t':=t') (dst:=dst) (ty:=ty) (pos:=pos) (aft:=aft) (gd:=gd) hΘ h;exact done h1 (h2 _) h
 |call c=>
  obtain⟨cl,as,ts⟩:=c;cases cl with
  |value f=>simp at h
  |invoke a b=>simp at h
  |builtin b=>
   cases b with
   |cap=>
    simp only at h;split at h
    ·rename_i x t e1 e2;split at h
     ·rename_i ti hti;split at h
      ·rename_i e he;obtain⟨el,g1,g2,_⟩:=(hΘ _ _ hti).el e he;split at h
       ·rename_i hx;refine done ?_ ?_ h
        ·simp only[eu,e1,e2,g1,Option.isSome_some,if_true,ez,hx];rfl
        ·trivial
       ·cases h
      ·cases h
     ·cases h
    ·cases h
   |len=>
    simp only at h;split at h
    ·rename_i x t e1 e2;split at h
     ·rename_i ti hti;split at h
      ·rename_i e he;obtain⟨el,g1,g2,_⟩:=(hΘ _ _ hti).el e he;split at h
       ·rename_i a hx;have ha:=ok x;rw[hx] at ha;obtain⟨n,h1,h⟩:=KC ha h;refine done ?_ ?_ h
        ·simp only[eu,e1,e2,g1,Option.isSome_some,if_true,ez,hx];show (uE a.av).map _=_;rw[h1];rfl
        ·trivial
       ·cases h
      ·rename_i hs;split at h
       ·rename_i s hx;refine done ?_ (V.ok_sc _ _) h
        have hus:P.underlying t=some .string:=by
         have:=(hΘ _ _ hti).str;rw[hs] at this;unfold zd at this;split at this
         ·assumption
         ·cases this
        have hxv:sf (opd S.st x)=some (.string s):=by rw[ez,hx]; rfl
        have he:tZ P t=none:=by simp[tZ,hus]
        have ea:as= #[x] :=by rw[<-dJ (xs:=as),e1]
        have et:ts= #[t] :=by rw[<-dJ (xs:=ts),e2]
        subst ea et;simp only[eu,he,Option.isSome_none];rw[if_neg (by simp)];unfold eX;rw[if_pos (by simp[Op.operands,Call.operands,hxv])]
        have e2:eK P (execOp (fun x=>(sf (opd S.st x)).getD undef) ⟨dst, .call ⟨.builtin .len,#[x],#[t]⟩,ty,pos,aft,gd⟩)=some (.value (.int .i64 s.size)):=by show eK P (do let d <-resolve _ _ ty; invoke d.target d.args)=_;simp only[eH,resolve,eU,ae,invoke,builtin,List.map_toArray,aW,cL,Builtin.len_,cB,aP,fG hus,hxv,bn];rfl
        rw[e2];rfl
       ·cases h
      ·cases h
     ·cases h
    ·cases h
   |max=>
    simp only at h;split at h
    ·rename_i x y e1;obtain⟨k,a,b,h1,h2,h⟩:=ob h;refine done ?_ (V.ok_sc _ _) h;simp only[eu,e1,aW,cL,ez,h1,h2];rfl
    ·cases h
   |min=>
    simp only at h;split at h
    ·rename_i x y e1;obtain⟨k,a,b,h1,h2,h⟩:=ob h;refine done ?_ (V.ok_sc _ _) h;simp only[eu,e1,aW,cL,ez,h1,h2];rfl
    ·cases h
   | _=>simp at h
 |convert s d x=>
  simp only at h;split at h
  ·rename_i si di hs hd;split at h
   ·rename_i k' hk;split at h
    ·rename_i k n hx;refine done ?_ (V.ok_sc _ _) h;have hud:=(hΘ _ _ hd).int _ hk
     obtain⟨ds,hus⟩: ∃ds,P.underlying s=some ds:=by
      have:=(hΘ _ _ hs).ag;unfold Dz at this
      grind
     have hxv:sf (opd S.st x)=some (.int k n):=by rw[ez,hx]; rfl
     simp only[eu];unfold eX;rw[if_pos (by simp[Op.operands,hxv])]
     have e:eK P (Go.convert s d (.int k n))=some (.int k' (k'.wrap n)):=by unfold Go.convert;simp only[eH,fG hus,fG hud,ae];cases ds<;>rfl
     have e2:eK P (execOp (fun x=>(sf (opd S.st x)).getD undef) ⟨dst, .convert s d x,ty,pos,aft,gd⟩)=some (.value (.int k' (k'.wrap n))):=by show eK P (do pure (Next.value (<-Go.convert s d ((sf (opd S.st x)).getD undef))))=_;rw[hxv];simp only[eH,bn,e,ae,eU]
     rw[e2];rfl
    ·cases h
   ·cases h
  ·cases h
 |index t x ix=>
  simp only at h;split at h
  ·rename_i ti hti;split at h
   ·rename_i hs;split at h
    ·rename_i s k i hx hi;unfold iteP at h;split at h
     ·rename_i h0;obtain⟨b,hb,h⟩:=ai.1 h;refine done ?_ (V.ok_sc _ _) h
      have hus:P.underlying t=some .string:=by
       have:=(hΘ _ _ hti).str;rw[hs] at this;unfold zd at this;split at this
       ·assumption
       ·cases this
      have hxv:sf (opd S.st x)=some (.string s):=by rw[ez,hx]; rfl
      have hiv:sf (opd S.st ix)=some (.int k i):=by rw[ez,hi]; rfl
      have hxa:opd S.st x= .sc (.string s):=by rw[ez,hx]; rfl
      simp only[eu,hxa];unfold eX;rw[if_pos (by simp[Op.operands,hxv,hiv])]
      have e:eK P (Instr.index t (.string s) (.int k i))=some (.int .u8 b.toNat):=by unfold Instr.index;simp only[eH,asIntOf,eU,ae,fG hus];rw[if_pos h0,hb];rfl
      have e2:eK P (execOp (fun x=>(sf (opd S.st x)).getD undef) ⟨dst, .index t x ix,ty,pos,aft,gd⟩)=some (.value (.int .u8 b.toNat)):=by show eK P (do pure (Next.value (<-Instr.index t ((sf (opd S.st x)).getD undef) ((sf (opd S.st ix)).getD undef))))=_;rw[hxv,hiv];simp only[eH,bn,e,ae,eU]
      rw[e2];rfl
     ·cases h
    ·cases h
   ·cases h
  ·cases h
 | _=>simp at h
end
end
section
open Go
theorem lp {G:List (Option eT)} {x:Option eT} (r:Nat):fW (G++ [x]) r=if r=G.length then x else fW G r:=by
 unfold fW;rw[gv,gv]
 grind
theorem zD {G:List (Option eT)} (l:List eT) (r:Nat):fW (G++l.map some) r=if G.length<=r then l[r-G.length]? else fW G r:=by
 unfold fW;rw[gv,gv]
 grind
theorem zE {G:List (Option eT)} {r:Nat} (h:G.length<=r):fW G r=none:=by unfold fW;rw[gv,b9 h];rfl
theorem uk {G:List (Option eT)} {r:Nat} {tr:eT} (h:fW G r=some tr):r<G.length:=by grind [zE]
theorem pL {G:List (Option eT)} {x:Option eT} (q r:Nat) (hq:q<G.length\/x=none):fW (fL G q x) r=if r=q then x else fW G r:=by
 unfold fW;rw[gv,gv,ik,b7]
 grind
theorem jb.app (G:List (Option eT)) (x:Option eT):jb G (G++ [x]):=⟨by simp,fun r tr hr h=>by rw[lp,if_neg (by omega)] at h;exact⟨tr,h,rfl⟩⟩
theorem jb.apps (G:List (Option eT)) (l:List eT):jb G (G++l.map some):=⟨by simp,fun r tr hr h=>by simp_all [zD,if_neg]⟩
theorem jb.gone (G:List (Option eT)) (q:Nat):jb G (fL G q none):=⟨by rw[ik]; simp,fun r tr hr h=>by simp_all [pL]⟩
theorem jb.put {G:List (Option eT)} {q:Nat} {tr tr':eT} (h:fW G q=some tr) (hl:tr'.l.length=tr.l.length):jb G (fL G q (some tr')):=⟨by rw[ik]; simp,fun r t hr h'=>by
 rw[pL q r (.inl (uk h))] at h'
 grind⟩
theorem TS.ok_gh {S:TS} (hS:S.ok) {G:List (Option eT)} (hG:jb S.gh G): ({ S with gh:=G }:TS).ok:=
 ⟨fun x hx=>V.ok_mono hG (hS.env x hx),fun cs hcs c hc=>Cl.ok_mono hG (hS.bx cs hcs c hc)⟩
theorem B8 (S:TS) (x:eT): ({ S with gh:=S.gh++ [some x] }:TS).st= { S.st with gh:=fp S.st.gh S.gh.length (some x.tree),ng:=S.gh.length+1 } :=by
 unfold TS.st;simp only[az,aB]
 congr 1
 funext r
 rw[lp];unfold fp;split<;>rfl
theorem yn (S:TS) (q:Nat): ({ S with gh:=fL S.gh q none }:TS).st= { S.st with gh:=fp S.st.gh q none } :=by
 unfold TS.st;simp only;have : (fL S.gh q none).length=S.gh.length:=by rw[ik]; simp
 rw[this]
 congr 1
 funext r
 rw[pL q r (.inr rfl)];unfold fp;split<;>rfl
theorem xB (S:TS) {q:Nat} (x:eT) (hq:q<S.gh.length): ({ S with gh:=fL S.gh q (some x) }:TS).st= { S.st with gh:=fp S.st.gh q (some x.tree) } :=by
 unfold TS.st;simp only;have : (fL S.gh q (some x)).length=S.gh.length:=by rw[ik]; simp
 rw[this]
 congr 1
 funext r
 rw[pL q r (.inl hq)];unfold fp;split<;>rfl
theorem Js (S:TS) (cs:List Cl): ({ S with bx:=S.bx++ [cs] }:TS).st= { S.st with bx:=fp S.st.bx S.bx.length (some (cs.map Cl.av)),nb:=S.bx.length+1 } :=by
 unfold TS.st;simp only[az,aB]
 congr 1
 funext n
 unfold fp;simp only[gv]
 grind
theorem LM (S:TS) {b:Nat} (cs:List Cl) (hb:b<S.bx.length): ({ S with bx:=fL S.bx b cs }:TS).st= { S.st with bx:=fp S.st.bx b (some (cs.map Cl.av)) } :=by
 unfold TS.st;have : (fL S.bx b cs).length=S.bx.length:=by rw[ik]; simp
 simp only;rw[this]
 congr 1
 funext n
 unfold fp;simp only[gv];rw[ik,b7]
 grind
theorem Nn (t:Ty): (t.zvs.map cC).map Cl.av=t.zvs.map DA:=by
 cases t with
 |st n=>cases n<;>rfl
 | _=>rfl
theorem Np (G:List (Option eT)) (t:Ty): ∀c∈t.zvs.map cC,c.ok G:=fun c hc=>by obtain⟨v,_,rfl⟩:=aM.1 hc;exact KB _ _
def vl [dY] (P:Program) (g:FuncId) (args:List V1) (b:Bool) (res:V) (out:List eT):Prop:=
 ∃ (t:Ty) (x:t.D) (as:List V1),args=KA t x::as/\jI P g ((LK t x 0).av::as.map V1.av) ((qA (t.flat x)).map eT.tree) (bif b then (qA (t.flat x)).length else 0) res.av (out.map eT.tree)
def KF [dY] (P:Program) (g:FuncId) (args:List V1) (res:V) (out:List eT):Prop:=
 ∃ (el:Ty) (l:List el.D) (as:List V1),args= .cl (.c (.ls el l))::as/\jI P g (.ptrT ⟨0,[]⟩ el.width 0 0::as.map V1.av) [.sl el.width (l.map el.row)] 1 res.av (out.map eT.tree)
structure wM [dY] (P:Program) (f:Nat) (args:List V1) (res:V) (out:List eT):Prop where
 fn:f<jy->qZ P f (args.map V1.av) [] res.av (out.map eT.tree)
 io: ∀g,f=AU g->g<jy->vl P g args true res out
 mv: ∀g,f=DN g->g<jy->vl P g args false res out
 pt: ∀g,f=BZ g->g<jy->KF P g args res out
theorem Nq (g:Nat): ¬AU g<jy:=Nat.not_lt.2 (Nat.le_add_left jy g)
theorem DQ {g g':Nat} (hg:g<jy) (hg':g'<jy):AU g≠DN g'/\AU g≠BZ g'/\DN g≠BZ g'/\ ¬DN g<jy/\ ¬BZ g<jy:=by grind [AU,DN,BZ,Ks,Hq]
theorem wM.of_fn [dY] {P:Program} {f:Nat} {args:List V1} {res:V} {out:List eT} (h:qZ P f (args.map V1.av) [] res.av (out.map eT.tree)) (hf:f<jy):wM P f args res out:=
 ⟨fun _=>h,fun g e _=>absurd (e ▸ hf) (Nq g),fun g e hg=>absurd (e ▸ hf) (DQ hg hg).2.2.2.1,fun g e hg=>absurd (e ▸ hf) (DQ hg hg).2.2.2.2⟩
theorem wM.of_io [dY] {P:Program} {g:Nat} {args:List V1} {res:V} {out:List eT} (h:vl P g args true res out) (hg:g<jy):wM P (AU g) args res out:=
 ⟨fun h'=>absurd h' (Nq g),fun g' e _=>by rw[<-dK (e:g+jy=g'+jy)]; exact h,fun g' e hg'=>absurd e (DQ hg hg').1,fun g' e hg'=>absurd e (DQ hg hg').2.1⟩
theorem wM.of_mv [dY] {P:Program} {g:Nat} {args:List V1} {res:V} {out:List eT} (h:vl P g args false res out) (hg:g<jy):wM P (DN g) args res out:=
 ⟨fun h'=>absurd h' (DQ hg hg).2.2.2.1,fun g' e hg'=>absurd e.symm (DQ hg' hg).1,fun g' e _=>by rw[<-dK (e:g+Hq=g'+Hq)]; exact h,fun g' e hg'=>absurd e (DQ hg hg').2.2.1⟩
theorem wM.of_pt [dY] {P:Program} {g:Nat} {args:List V1} {res:V} {out:List eT} (h:KF P g args res out) (hg:g<jy):wM P (BZ g) args res out:=
 ⟨fun h'=>absurd h' (DQ hg hg).2.2.2.2,fun g' e hg'=>absurd e.symm (DQ hg' hg).2.1,fun g' e hg'=>absurd e.symm (DQ hg' hg).2.2.1,fun g' e _=>by rw[<-dK (e:g+Ks=g'+Ks)]; exact h⟩
theorem KF.get [dY] {P:Program} {g:FuncId} {el:Ty} {l:List el.D} {as:List V1} {res:V} {out:List eT} (h:KF P g (.cl (.c (.ls el l))::as) res out):jI P g (.ptrT ⟨0,[]⟩ el.width 0 0::as.map V1.av) [.sl el.width (l.map el.row)] 1 res.av (out.map eT.tree):=by obtain⟨t,x,as',he,h⟩:=h;cases he;exact h
theorem vl.get [dY] {P:Program} {g:FuncId} {el:Ty} {l:List el.D} {as:List V1} {b:Bool} {res:V} {out:List eT} (h:vl P g (.cl (.c (.ls el l))::as) b res out):jI P g (.own ⟨0,[]⟩ el.width 0 l.length::as.map V1.av) [.sl el.width (l.map el.row)] (bif b then 1 else 0) res.av (out.map eT.tree):=by
 obtain⟨t,x,as',he,h⟩:=h;simp only[bN] at he;obtain⟨he,rfl⟩:=he;cases t with
 |ls el'=>have he':V1.cl (.c (.ls el l))= .cl (.c (.ls el' x)):=he;cases he';exact h
 |st n=>cases n<;>cases he
 | _=>cases he
theorem vl.getA [dY] {P:Program} {g:FuncId} {ys:List C} {as:List V1} {res:V} {out:List eT} (h:vl P g (.agg (ys.map .c)::as) true res out):jI P g (.agg ((xA ys 0).map Cl.av)::as.map V1.av) ((qA ys).map eT.tree) (qA ys).length res.av (out.map eT.tree):=by
 obtain⟨t,x,as',he,h⟩:=h;simp only[bN] at he;obtain⟨he,rfl⟩:=he;cases t with
 |st n=>
  have he':V1.agg (ys.map Cl.c)= .agg ((n.flat x).map Cl.c):=he;simp only[V1.agg.injEq] at he'
  have :ys=n.flat x:=by
   have hi: ∀ (l m:List C),l.map Cl.c=m.map Cl.c->l=m:=by
    intro l
    induction l with
    |nil=>simp_all
    |cons a l ih=>intro m hm;cases m<;>grind
   exact hi _ _ he'
  subst this;exact h
 | _=>cases he
def lN [dY] (P:Program) (Y:ya):Prop:= ∀f args ρ κ r,Y f args ρ κ=some r-> ∃res out,wM P f args res out/\res.ok (out.map some)/\κ res out=some r
section
variable {ρ:Type} {P:Program} {Θ:nD} {S:TS}
theorem Fz {α β:Type} {f:α->(β->Option ρ)->Option ρ} {R:α->β->Prop} (hf: ∀a κ r,f a κ=some r-> ∃b,R a b/\κ b=some r):
  ∀ (l:List α) (κ:List β->Option ρ) (r:ρ),Ht f l κ=some r-> ∃bs,l.length=bs.length/\(∀ (k:Nat) (a:α) (b:β),l[k]? =some a->bs[k]? =some b->R a b)/\κ bs=some r:=by
 intro l
 induction l with
 |nil=>intro κ r h; exact⟨[],rfl,fun k a b ha=>by simp at ha,h⟩
 |cons a l ih=>
  intro κ r h;obtain⟨b,h1,h⟩:=hf a _ r h
  grind
theorem Nr {α β γ:Type} {f:α->γ} {g:β->γ} {l:List α} {bs:List β} (h1:l.length=bs.length) (h2: ∀ (k:Nat) (a:α) (b:β),l[k]? =some a->bs[k]? =some b->f a=g b):l.map f=bs.map g:=by
 apply bI
 grind
theorem vm {p:fg} {sz lo len:Nat} {t:Ty} {l:List t.D} (hc: (Cl.own p sz lo len true).ok S.gh) (h:p.l= [] ->fW S.gh p.r=some ⟨t,l,none⟩):p.l= [] /\lo=0/\len=l.length:=by
 obtain⟨_,h2⟩:=hc
 grind
theorem B9 (hS:S.ok) {et:Option Ty} {c:Cl} (hc:c.ok S.gh) {κ:Cl->Option ρ} {r:ρ} (h:O3 S et c κ=some r): ∃c',(∀sz,(∀t,et=some t->sz=t.width)->gT S.st sz c.av=c'.av)/\κ c'=some r:=by
 unfold O3 at h;split at h
 ·rename_i x;exact⟨_,fun sz _=>by cases x<;>rfl,h⟩
 ·split at h
  ·rename_i t;exact⟨_,fun sz hsz=>by rw[hsz t rfl]; rfl,h⟩
  ·cases h
 ·rename_i p sz lo len;obtain⟨t,l,h1,h2,h⟩:=ic h;obtain⟨h3,h⟩:=ej h;have h3:t.width=sz:=ao h3;obtain⟨h4,h5,h6⟩:=vm hc h2;refine⟨_,fun sz' _=> ?_,h⟩
  simp_all [Cl.av,gT,kV,C.av,bD]
 ·rename_i p sz lo len;obtain⟨t,l,h1,h2,h⟩:=ic h;obtain⟨h3,h⟩:=ej h;have h3:t.width=sz:=ao h3;obtain⟨h4,h⟩:=fA h;refine⟨_,fun sz' _=> ?_,h⟩
  simp_all [Cl.av,gT,kV,C.av]
 ·exact⟨_,fun _ _=>rfl,h⟩
 ·rename_i p sz i j;obtain⟨t,l,h1,h2,h⟩:=ic h;obtain⟨h3,h⟩:=ej h;have h3:t.width=sz:=ao h3;obtain⟨x,hx,h⟩:=ai.1 h;refine⟨_,fun sz' _=> ?_,h⟩;simp only[Cl.av,gT,<-h3,kV h1];have e1: (l.map t.row).getD i [] =t.row x:=by simp[aF,hx]
  rw[e1,t.row_flat,cQ]
 ·rename_i b j;split at h
  ·rename_i cs hcs
   obtain⟨bs,h1,h2,h⟩:=Fz (R:=fun (c:Cl) (x:C)=>c.ok S.gh->T.ofAV S.st 0 c.av=x.tree) (fun c κ r h=>by
    split at h
    ·rename_i x;exact⟨x,fun _=>by cases x<;>rfl,h⟩
    ·rename_i p sz lo len;obtain⟨t,l,h1,h2,h⟩:=ic h;obtain⟨h3,h⟩:=ej h;have h3:t.width=sz:=ao h3;refine⟨_,fun hc=> ?_,h⟩;obtain⟨h4,h5,h6⟩:=vm hc h2
     simp_all [Cl.av,T.ofAV,kV,C.tree,bD]
    ·cases h) _ _ _ h
   refine⟨_,fun sz _=> ?_,h⟩;simp only[Cl.av,gT,TS.st,hcs,aH];rw[<-cQ,bK]
   congr 1
   refine Nr h1 (fun k a b ha hb=>h2 k a b ha hb ?_);rw[gv] at hcs;exact hS.bx cs (au hcs) a (bV (au ha))
  ·cases h
 ·exact⟨_,fun _ _=>rfl,h⟩
theorem PB (hS:S.ok): ∀ (ets:List (Option Ty)) (cs:List Cl) (κ:List Cl->Option ρ) (r:ρ),(∀c∈cs,c.ok S.gh)->Pp S ets cs κ=some r->
  ∃cs',ets.length=cs.length/\List.zipWith (gT S.st) (ets.map fun |some e=>e.width|none=>0) (cs.map Cl.av)=cs'.map Cl.av/\κ cs'=some r:=by
 intro ets
 induction ets with
 |nil=>
  intro cs κ r hcs h;cases cs with
  |nil=>exact⟨[],rfl,rfl,h⟩
  |cons c cs=>cases h
 |cons et ets ih=>
  intro cs κ r hcs h;cases cs with
  |nil=>cases h
  |cons c cs=>
   unfold Pp at h;obtain⟨c',h1,h⟩:=B9 hS (hcs c aK) h;obtain⟨cs',h2,h3,h⟩:=ih cs _ r (fun x hx=>hcs x (aL _ hx)) h;refine⟨c'::cs',by simp[h2],?_,h⟩
   simp_all
theorem Ns (hΘ:gz P Θ) (hS:S.ok) {t:TypeId} {v:V} (hv:v.ok S.gh) {κ:V1->Option ρ} {r:ρ} (h:Ud Θ S t v κ=some r): ∃v1:V1,kN S.st (nU P 9 t) v.av=v1.av/\κ v1=some r:=by
 unfold Ud at h;split at h
 ·cases h
 ·rename_i f cs
  obtain⟨bs,h1,h2,h⟩:=Fz (R:=fun (c c':Cl)=>c.ok S.gh->gT S.st 0 c.av=c'.av) (fun c κ r h=>by
   by_cases hc:c.ok S.gh
   ·grind [B9]
   ·have : ∃c',κ c'=some r:=by
     unfold O3 at h;split at h
     ·exact⟨_,h⟩
     ·cases h
     ·obtain⟨t,l,_,_,h⟩:=ic h; exact⟨_,(ej h).2⟩
     ·obtain⟨t,l,_,_,h⟩:=ic h; exact⟨_,(fA (ej h).2).2⟩
     ·exact⟨_,h⟩
     ·obtain⟨t,l,_,_,h⟩:=ic h; grind
     ·split at h
      ·obtain⟨bs,_,_,h⟩:=Fz (R:=fun _ _=>True) (fun c κ r h=>by
        split at h
        ·exact⟨_,trivial,h⟩
        ·obtain⟨t,l,_,_,h⟩:=ic h; exact⟨_,trivial,(ej h).2⟩
        ·cases h) _ _ _ h
       exact⟨_,h⟩
      ·cases h
     ·exact⟨_,h⟩
    grind) _ _ _ h
  refine⟨_,?_,h⟩;simp only[V.av,V1.av,kN,bK]
  congr 1
  exact Nr h1 (fun k a b ha hb=>h2 k a b ha hb (hv a (au ha)))
 ·rename_i cs;split at h
  ·rename_i ti hti;obtain⟨cs',h1,h2,h⟩:=PB hS _ _ _ _ hv h;refine⟨_,?_,h⟩;have e: (ti.ty.csh.map fun |some e=>e.width|none=>0)=ti.ty.shs:=rfl;simp only[V.av,V1.av,kN,(hΘ _ _ hti).sh]
   grind
  ·cases h
 ·exact⟨_,rfl,h⟩
 ·rename_i c hne
  have gO: ∀ (szs:List Nat),kN S.st szs (V.v (.cl c)).av=gT S.st (szs.headD 0) c.av:=by
   intro szs;cases c with
   |c x=>cases x<;>rfl
   |em=>exact absurd rfl hne
   | _=>rfl
  split at h
  ·rename_i ti hti;obtain⟨c',h1,h⟩:=B9 hS hv h;refine⟨_,?_,h⟩;rw[gO];refine h1 _ (fun t ht=> ?_);rw[(hΘ _ _ hti).sh];unfold Ty.shs;cases hc:ti.ty.csh with
   |nil=>rw[hc] at ht; cases ht
   |cons a l=>grind
  ·obtain⟨c',h1,h⟩:=B9 hS hv h;exact⟨_,by rw[gO]; exact h1 _ (fun t ht=>by cases ht),h⟩
theorem vn (hΘ:gz P Θ) (hS:S.ok): ∀ (ts:List TypeId) (as:List Operand) (κ:List V1->Option ρ) (r:ρ),wK Θ S ts as κ=some r->
  ∃vs:List V1,List.zipWith (fun t a=>kN S.st (nU P 9 t) (opd S.st a)) ts as=vs.map V1.av/\κ vs=some r:=by
 intro ts
 induction ts with
 |nil=>
  intro as κ r h;cases as with
  |nil=>exact⟨[],rfl,h⟩
  |cons a as=>cases h
 |cons t ts ih=>
  intro as κ r h;cases as with
  |nil=>cases h
  |cons a as=>
   unfold wK at h;obtain⟨v,h1,h⟩:=Ns hΘ hS (nq hS a) h
   grind [List.zipWith_cons_cons,ez]
end
end
section
open Go
open Classical in
noncomputable def LN (d:Option Tmp) (g:FuncId) (args:List AV) (res:AV×List T):rZ:=fun d' g' a' gs'=>if d'=d/\g'=g/\a'=args/\gs'= [] then some res else none
theorem Ca [dY] {P:Program} {d:Option Tmp} {g:FuncId} {args:List AV} {res:AV} {out:List T} (h:qZ P g args [] res out):lj P (LN d g args (res,out)):=by
 intro d' g' a' gs' r' o' h'
 simp_all [LN]
theorem KG (d:Option Tmp) (g:FuncId) (args:List AV) (res:AV×List T):LN d g args res d g args [] =some res:=by simp_all [LN]
def FA:rZ:=fun _ _ _ _=>none
theorem iT [dY] {P:Program}:lj P FA:=fun _ _ _ _ _ _ h=>by cases h
theorem LO (n:Nat) (c:Cl): (Fu n c).av=kT n c.av:=by
 cases c with
 |c x=>cases x<;>rfl
 | _=>rfl
theorem Cb (n:Nat) (v:V1): (wd n v).av=ka n v.av:=by
 cases v with
 |cl c=>cases c with
  |c x=>cases x<;>rfl
  | _=>rfl
 |agg cs=>simp_all [wd,V1.av,ka,LO]
 |fn f cs=>rfl
theorem wj (n:Nat) (v:V): (rc n v).av=shift n v.av:=by
 cases v with
 |v x=>
  have :shift n x.av=ka n x.av:=by
   cases x with
   |cl c=>cases c with
    |c x=>cases x<;>rfl
    | _=>rfl
   | _=>rfl
  show (wd n x).av=shift n x.av;rw[this,Cb]
 |tup l=>simp_all [rc,V.av,shift,Cb]
theorem EJ {G:List (Option eT)} {out:List eT} {c:Cl} (h:c.ok (out.map some)): (Fu G.length c).ok (G++out.map some):=by
 cases c with
 |own p sz lo len w=>
  obtain⟨h1,h2⟩:=h;refine⟨by simp at h1 ⊢; omega,fun hw=> ?_⟩;obtain⟨a,b,c⟩:=h2 hw;refine⟨a,b,fun tr htr=>c tr ?_⟩;rw[zD,if_pos (by simp)] at htr
  simp_all [fW,gv]
 |c x=>cases x<;>trivial
 |ptrT p sz i j=>show p.r+G.length< (G++out.map some).length; have h:p.r< (out.map some).length:=h; simp at h ⊢; omega
 | _=>trivial
theorem Cc {G:List (Option eT)} {out:List eT} {v:V1} (h:v.ok (out.map some)): (wd G.length v).ok (G++out.map some):=by
 cases v with
 |cl c=>exact EJ h
 |agg cs=>intro c hc;obtain⟨x,hx,rfl⟩:=aM.1 hc;exact EJ (h x hx)
 |fn f cs=>trivial
theorem wk {G:List (Option eT)} {out:List eT} {v:V} (h:v.ok (out.map some)): (rc G.length v).ok (G++out.map some):=by
 cases v with
 |v x=>exact Cc h
 |tup l=>intro c hc;obtain⟨x,hx,rfl⟩:=aM.1 hc;exact Cc (h x hx)
theorem ul (S:TS) (v:AV) (out:List eT): ({ S with gh:=S.gh++out.map some }:TS).st=(sg S.st (v,out.map eT.tree)).2:=by
 unfold TS.st sg;simp only[az,aN]
 congr 1
 funext r
 rw[zD];by_cases h:S.gh.length<=r
 ·rw[if_pos h];by_cases h2:r<S.gh.length+out.length
  ·rw[if_pos ⟨h,h2⟩,ap]
  ·rw[if_neg (fun hh=>h2 hh.2),b9 (by omega),zE h]
 ·rw[if_neg h,if_neg (fun hh=>h hh.1)]
section
variable {ρ:Type} {P:Program} {Θ:nD} {S:TS} {Y:ya}
theorem Cd (hS:S.ok): ∀ (caps:List Cl) (κ':List Cl->Option ρ) (r:ρ),(∀c∈caps,c.ok S.gh)->Ht (O3 S none) caps κ'=some r-> ∃cs,(caps.map Cl.av).map (gT S.st 0)=cs.map Cl.av/\κ' cs=some r:=by
 intro caps
 induction caps with
 |nil=>intro κ' r _ h; exact⟨[],rfl,h⟩
 |cons c caps ih=>intro κ' r hc h;unfold Ht at h;obtain⟨c',g1,h⟩:=B9 hS (hc c aK) h;obtain⟨cs,g2,h⟩:=ih _ r (fun x hx=>hc x (aL _ hx)) h;exact⟨c'::cs,by simp_all,h⟩
theorem Nt [dY] (hΘ:gz P Θ) (hY:lN P Y) (hS:S.ok) {f:Operand} {ts:Array TypeId} {as:Array Operand} {κ:V->TS->Option ρ} {r:ρ} (h:Kt Θ Y S f ts.toList as.toList κ=some r) {dst:Option Tmp} {ty:TypeId} {pos:String} {aft:Array Edge} {gd:Option (Nat×Bool)}:
  ∃D v S',lj P D/\step D P S.st ⟨dst, .call { callee:= .value f,args:=as,argTypes:=ts },ty,pos,aft,gd⟩=some (V.av v,TS.st S')/\S'.ok/\v.ok S'.gh/\κ v S'=some r:=by
 have fin: ∀ (g:FuncId) (caps:List AV) (vs:List V1),g<jy->callee S.st f=some (g,caps)->args P S.st ts as caps=vs.map V1.av->Y g vs ρ (fun res out=>κ (rc S.gh.length res) { S with gh:=S.gh++out.map some })=some r->
   ∃D v S',lj P D/\step D P S.st ⟨dst, .call { callee:= .value f,args:=as,argTypes:=ts },ty,pos,aft,gd⟩=some (V.av v,TS.st S')/\S'.ok/\v.ok S'.gh/\κ v S'=some r:=by
  intro g caps vs hg h1 h2 h3;obtain⟨res,out,h4,h5,h6⟩:=hY _ _ _ _ _ h3;have h4:=h4.fn hg;refine⟨LN dst g (vs.map V1.av) (res.av,out.map eT.tree),_,_,Ca h4,?_,TS.ok_gh hS (jb.apps _ _),wk h5,h6⟩;simp only[step,h1,ae,h2];rw[KG];simp only[aH];rw[ul S res.av out,wj];rfl
 unfold Kt at h;split at h
 ·rename_i g x y hf;obtain⟨hg,h⟩:=ej h;have hg:g<jy:=ar hg;obtain⟨vs,h1,h⟩:=vn hΘ hS _ _ _ _ h;refine fin g [] vs hg ?_ ?_ h
  ·unfold callee;rw[ez,hf];rfl
  grind [args]
 ·rename_i g caps hf;obtain⟨hg,h⟩:=ej h;have hg:g<jy:=ar hg;obtain⟨vs,h1,h⟩:=vn hΘ hS _ _ _ _ h
  have hcaps: ∀c∈caps,c.ok S.gh:=by have:=nq hS f;rw[hf] at this;exact this
  obtain⟨cs,h2,h⟩:=Cd hS _ _ _ hcaps h;refine fin g (caps.map Cl.av) (vs++cs.map .cl) hg ?_ ?_ h
  ·unfold callee;rw[ez,hf];rfl
  ·unfold args;rw[h1,h2,b0,bK];rfl
 ·cases h
theorem ia {t t':Ty} {l:List t.D} {l':List t'.D} (h:vk t t' l=some l'): ∃e:t=t',e ▸ l=l':=by grind [vk]
theorem LP {t:Ty} (h:t.flatB=true) (x:t.D): (t.row x).all T.flat=true:=by
 cases t with
 |st n=>cases n<;>first |rfl|cases h
 |ls t=>cases h
 | _=>rfl
theorem wl (t:Ty): (t.shs.all (· ==0))=t.flatB:=by
 cases t with
 |st n=>cases n<;>rfl
 |ls t=>
  show ((t.width==0)&&true)=false;have:=t.width_pos
  grind
 | _=>rfl
theorem tf {t:Ty} (h:t.flatB=true) (l:List t.D): (l.map t.row).all (fun r=>r.all T.flat)=true:=by simp_all [LP]
theorem PC (hS:S.ok) {el:Ty} {v:Cl} (hv:v.ok S.gh) {κ:List el.D->TS->Option ρ} {r:ρ} (h:Nc S el v κ=some r):
  ∃more S',jH S.st el.width el.flatB v.av=some (more.map el.row,S'.st)/\S'.ok/\jb S.gh S'.gh/\S'.gh.length=S.gh.length/\S'.fz=S.fz/\κ more S'=some r:=by
 unfold Nc at h;split at h
 ·exact⟨[],S,rfl,hS,jb.refl _,rfl,rfl,h⟩
 ·rename_i t l;obtain⟨h1,h⟩:=ej h;split at h
  ·rename_i l' hl;obtain⟨e,hl⟩:=ia hl;subst e;simp only at hl;subst hl;refine⟨l,S,?_,hS,jb.refl _,rfl,rfl,h⟩;simp only[Cl.av,C.av,jH];rw[if_pos ⟨trivial,tf h1 l⟩]
  ·cases h
 ·rename_i p sz lo len w;obtain⟨h0,h⟩:=ej h;have h0:el.width=sz:=ao h0;cases hfl:el.flatB with
  |true=>
   rw[hfl] at h;simp only[cond_true] at h;obtain⟨t,l,h1,h2,h⟩:=ic h;split at h
   ·rename_i l' hl;obtain⟨e,hl⟩:=ia hl;subst e;simp only at hl;subst hl
    have src: ∀ (lo len:Nat),lo+len<=l.length->jH S.st t.width true (.own p sz lo len)=some (((l.drop lo).take len).map t.row,S.st):=by intro lo len hle;simp only[jH];rw[if_pos h0.symm,kV h1];simp only[ae,Bool.true_eq_false,false_and,if_false,aN];rw[if_pos ⟨hle,by grind [tf]⟩];simp[cz,cQ]
    cases w with
    |true=>
     obtain⟨e1,e2,e3⟩:=vm hv h2;refine⟨l,S,?_,hS,jb.refl _,rfl,rfl,h⟩
     grind [Cl.av]
    |false=>simp only[cond_false] at h;obtain⟨h3,h⟩:=fA h;exact⟨_,S,src lo len h3,hS,jb.refl _,rfl,rfl,h⟩
   ·cases h
  |false=>
   rw[hfl] at h;simp only[cond_false] at h;split at h
   ·rename_i hp;obtain⟨h3,h6⟩:=ej h;clear h;simp only[al] at h3;obtain⟨hw,h4⟩:=h3;have h4:S.fz<=p.r:=ar h4;subst hw;obtain⟨t,l,h1,h2,h⟩:=ic h6;split at h
    ·rename_i l' hl;obtain⟨e,hl⟩:=ia hl;subst e;simp only at hl;subst hl;obtain⟨e1,e2,e3⟩:=vm hv h2;refine⟨l,_,?_,TS.ok_gh hS (jb.gone _ _),jb.gone _ _,by simp[ik],rfl,h⟩;simp only[Cl.av,jH];rw[if_pos h0.symm,kV h1];simp only[ae,aN];rw[if_pos ⟨trivial,hp,e2,e3,h4⟩,yn]
    ·cases h
   ·cases h
 ·cases h
end
end
section
open Go
theorem Jt (t:Ty):t.zvs.length=t.width:=by
 cases t with
 |st n=>cases n<;>rfl
 | _=>rfl
theorem xC (t:Ty):t.shs.length=t.width:=by
 cases t with
 |st n=>cases n<;>rfl
 | _=>rfl
theorem yp {P:Program} {el:TypeId} {e:Ty} (h1:P.cellsOf el=e.width) (h2:nU P 9 el=e.shs) (h3:za P el=some e.zvs):zh P el=some (List.zipWith zc e.shs e.zvs):=by simp_all [zh,Jt,xC]
section
variable {ρ:Type} {P:Program} {Θ:nD} {S:TS}
theorem Nu (hS:S.ok) {el:Ty} {v:Cl} (hv:v.ok S.gh) {more:List el.D} {κ:List el.D->TS->Option ρ} {r:ρ} (h:Hu S el v more κ=some r):
  ∃l S',i5 S.st v.av el.width (more.map el.row)=some (.own ⟨S.gh.length,[]⟩ el.width 0 l.length,{ S'.st with gh:=fp S'.st.gh S.gh.length (some (.sl el.width (l.map el.row))),ng:=S.gh.length+1 })/\
   S'.ok/\jb S.gh S'.gh/\S'.gh.length=S.gh.length/\κ l S'=some r:=by
 unfold Hu at h;split at h
 ·refine⟨more,S,?_,hS,jb.refl _,rfl,h⟩;simp only[Cl.av,i5,aN];rfl
 ·rename_i p sz lo len w;obtain⟨h0,h'⟩:=ej h;clear h;simp only[al] at h0;have hfz:S.fz<=p.r:=ar h0.1;have hsz:el.width=sz:=ao h0.2;split at h'
  ·rename_i hp;obtain⟨t,l,h1,h2,h⟩:=ic h';split at h
   ·rename_i l' hl;obtain⟨e,hl⟩:=ia hl;subst e;simp only at hl;subst hl
    have fin: ∀ (len:Nat),¬l.length<len->i5 S.st (.own p sz 0 len) t.width (more.map t.row)=some (.own ⟨S.gh.length,[]⟩ t.width 0 (l.take len++more).length,{ ({ S with gh:=fL S.gh p.r none }:TS).st with gh:=fp ({ S with gh:=fL S.gh p.r none }:TS).st.gh S.gh.length (some (.sl t.width ((l.take len++more).map t.row))),ng:=S.gh.length+1 }):=by
     intro len hlen;simp only[i5];rw[if_pos ⟨hsz.symm,trivial,hfz⟩,kV h1];simp only[ae,aN];rw[if_neg hlen,if_pos hp,yn];have e1: (l.take len++more).length=len+more.length:=by simp; omega
     rw[e1,b0,cz];rfl
    cases w with
    |true=>grind [vm,TS.ok_gh,jb.gone,ik,Cl.av]
    |false=>
     simp only[cond_false] at h
     grind [fA,zA,TS.ok_gh,jb.gone,ik,Cl.av]
   ·cases h
  ·rename_i i j hp;split at h'
   ·rename_i tr htr;split at h'
    ·rename_i hh;obtain⟨t,l,h1,h2,h⟩:=ic h';split at h
     ·rename_i l' hl;obtain⟨e,hl⟩:=ia hl;subst e;simp only at hl;subst hl;obtain⟨h3,h⟩:=fA h;obtain⟨h4,h⟩:=zA h;have hg:=eT.look htr;have hput:jb S.gh (fL S.gh p.r (some (eT.mk tr.t tr.l (some (i,j))))):=jb.put hg rfl;refine⟨_,{ S with gh:=fL S.gh p.r (some (eT.mk tr.t tr.l (some (i,j)))) },?_,TS.ok_gh hS hput,hput,by simp[ik],h⟩;simp only[Cl.av,i5];rw[if_pos ⟨hsz.symm,h3,hfz⟩,kV h1];simp only[ae,aN];rw[if_neg h4,if_neg (by rw[hp]; simp),xB _ _ (uk hg)];have e1: (l.take len++more).length=len+more.length:=by simp; omega
      rw[e1,b0,cz]
      have e2:S.st.setAt p .dd= { S.st with gh:=fp S.st.gh p.r (some (eT.tree ⟨tr.t,tr.l,some (i,j)⟩)) } :=by
       unfold St.setAt
       congr 2
       show ((fW S.gh p.r).map eT.tree).map _=_;rw[hg,hp];obtain⟨t0,l0,hole⟩:=tr;simp only at hh;subst hh;rfl
      rw[e2];rfl
     ·cases h
    ·cases h'
   ·cases h'
  ·cases h'
 ·cases h
theorem PD (hΘ:gz P Θ) (hS:S.ok) {t:TypeId} {s x:Operand} {κ:V->TS->Option ρ} {r:ρ} (h:Pq Θ S t (S.opd s) (S.opd x) κ=some r) {dst:Option Tmp} {ty:TypeId} {pos:String} {aft:Array Edge} {gd:Option (Nat×Bool)} {D:rZ}:
  ∃v S',step D P S.st ⟨dst, .call { callee:= .builtin .append,args:= #[s,x],argTypes:= #[t,t] },ty,pos,aft,gd⟩=some (V.av v,TS.st S')/\S'.ok/\v.ok S'.gh/\κ v S'=some r:=by
 unfold Pq at h;split at h
 ·rename_i ti hti;split at h
  ·rename_i el sv xv he hs hx;obtain⟨elT',g1,g2,g3,g4,g5,g6⟩:=(hΘ _ _ hti).el el he;have hsv:=nq hS s;rw[hs] at hsv;have hxv:=nq hS x;rw[hx] at hxv;obtain⟨more,S1,h1,k1,k2,k3,k4,h⟩:=PC hS (show xv.ok S.gh from hxv) h;obtain⟨l,S2,h2,m1,m2,m3,h⟩:=Nu k1 (Cl.ok_mono k2 (show sv.ok S.gh from hsv)) h;obtain⟨hb,h⟩:=fA h;have hgl:jb S1.gh (S2.gh++ [some ⟨el,l,none⟩]):=m2.trans (jb.app _ _);refine⟨_,_,?_,TS.ok_gh m1 (jb.app _ _),?_,h⟩
   ·simp only[step];rw[if_pos trivial,g1];simp only[ae,g2,g5,wl,ez,hs,hx];show (jH S.st el.width el.flatB xv.av).bind _=_;rw[h1];simp only[ae];show (i5 S1.st sv.av el.width _).bind _=_;rw[h2];simp only[ae];have hlen:l.length<=2 ^ 40:=aO (Nat.le_mul_of_pos_right _ g4) hb;rw[if_pos ⟨by rw[g3]; exact hb,hlen,el.width_pos,by rw[yp g2 g5 g6]; rfl⟩];rw[B8,m3];rfl
   ·refine⟨by simp,fun _=>⟨rfl,rfl,fun tr htr=> ?_⟩⟩;rw[lp,if_pos rfl] at htr;cases htr;rfl
  ·cases h
 ·cases h
end
end
section
open Go
theorem PE (a b:Nat): (a==b)=Nat.beq a b:=by
 rw[cb,beq_iff_eq]
 simp_all
theorem Nv (a b:Nat): (a==b)=Nat.beq b a:=by
 rw[cb,beq_iff_eq]
 grind [Nat.beq_refl,Nat.eq_of_beq_eq_true]
theorem Ce (r i j pr i' j':Nat) (l:List (Nat×Nat)):under ⟨r,[(i,j)]⟩ ⟨pr,(i',j')::l⟩=(Nat.beq pr r&&Nat.beq j j'):=by simp only[under,zf,dw];rw[Nv,PE]
theorem Cf (r i j pr:Nat):under ⟨r,[(i,j)]⟩ ⟨pr,[]⟩=false:=by simp[under,zf]
theorem yq (r i j:Nat) (c:Cl): (qs r j c).av=qp ⟨r,[(i,j)]⟩ c.av:=by
 cases c with
 |own p sz lo len w=>
  obtain⟨pr,pl⟩:=p;cases pl with
  |nil=>simp only[qs,Cl.av,qp,Cf]; rfl
  |cons a l=>obtain⟨i',j'⟩:=a;simp only[qs,Cl.av,qp,Ce];cases (Nat.beq pr r&&Nat.beq j j')<;>rfl
 |ptrT p sz a b=>
  obtain⟨pr,pl⟩:=p;cases pl with
  |nil=>simp only[qs,Cl.av,qp,Cf]; rfl
  |cons a' l=>obtain⟨i',j'⟩:=a';simp only[qs,Cl.av,qp,Ce];cases (Nat.beq pr r&&Nat.beq j j')<;>rfl
 |c x=>cases x<;>rfl
 | _=>rfl
theorem EK (r i j:Nat) (v:V1): (sL r j v).av=s9 ⟨r,[(i,j)]⟩ v.av:=by
 cases v with
 |cl c=>
  have :s9 ⟨r,[(i,j)]⟩ (V1.cl c).av=qp ⟨r,[(i,j)]⟩ c.av:=by
   cases c with
   |c x=>cases x<;>rfl
   | _=>rfl
  rw[this];exact yq r i j c
 |agg cs=>
  simp only[sL,V1.av,s9,bK]
  congr 1
  grind [List.map_congr_left,yq]
 |fn f cs=>
  simp only[sL,V1.av,s9,bK]
  congr 1
  grind [List.map_congr_left,yq]
theorem Nw (r i j:Nat) (v:V): (EH r j v).av=kill ⟨r,[(i,j)]⟩ v.av:=by
 cases v with
 |v x=>
  have :kill ⟨r,[(i,j)]⟩ (V.v x).av=s9 ⟨r,[(i,j)]⟩ x.av:=by
   cases x with
   |cl c=>cases c with
    |c x=>cases x<;>rfl
    | _=>rfl
   | _=>rfl
  rw[this];exact EK r i j x
 |tup l=>
  simp only[EH,V.av,kill,bK]
  congr 1
  grind [List.map_congr_left,EK]
theorem HE (f:V->V) (hf:f V.dead=V.dead): ∀ (l:List (Nat×V)) (t:Nat),jx (l.map fun x=>(x.1,f x.2)) t=f (jx l t)
 | [],t=>hf.symm
 | (u,v)::l,t=>by
   simp only[aW,jx];cases Nat.beq u t with
   |true=>rfl
   |false=>exact HE f hf l t
theorem PF (S:TS) (r i j:Nat): (S.kill r j).st=S.st.killU ⟨r,[(i,j)]⟩:=by
 unfold TS.kill TS.st St.killU;simp only[aN]
 congr 1
 ·funext t
  rw[HE _ rfl];exact Nw r i j _
 ·funext n
  rw[gv,gv,ap];cases S.bx[n]? with
  |none=>rfl
  |some cs=>
   simp only[aH,bK]
   congr 1
   grind [List.map_congr_left,yq]
theorem yr {G:List (Option eT)} {r j:Nat} {c:Cl} (h:c.ok G): (qs r j c).ok G:=by
 cases c with
 |own p sz lo len w=>
  simp only[qs];split
  ·cases (Nat.beq p.r r&&Nat.beq j _)<;>first |exact h|trivial
  ·exact h
 |ptrT p sz a b=>
  simp only[qs];split
  ·cases (Nat.beq p.r r&&Nat.beq j _)<;>first |exact h|trivial
  ·exact h
 | _=>exact h
theorem EL {G:List (Option eT)} {r j:Nat} {v:V1} (h:v.ok G): (sL r j v).ok G:=by
 cases v with
 |cl c=>exact yr h
 |agg cs=>intro c hc;obtain⟨x,hx,rfl⟩:=aM.1 hc;exact yr (h x hx)
 |fn f cs=>intro c hc;obtain⟨x,hx,rfl⟩:=aM.1 hc;exact yr (h x hx)
theorem KH {S:TS} (hS:S.ok) (r j:Nat): (S.kill r j).ok:=by
 refine⟨fun x hx=> ?_,fun cs hcs c hc=> ?_⟩
 ·obtain⟨y,hy,rfl⟩:=aM.1 hx;have:=hS.env y hy;obtain⟨t,v⟩:=y;cases v with
  |v x=>exact EL this
  |tup l=>intro c hc;obtain⟨z,hz,rfl⟩:=aM.1 hc;exact EL (this z hz)
 ·obtain⟨y,hy,rfl⟩:=aM.1 hcs;obtain⟨z,hz,rfl⟩:=aM.1 hc;exact yr (hS.bx y hy z hz)
def TS.with (S:TS) (no N w:Nat) (R:List (List T)):St:= { S.st with gh:=fp S.st.gh no (some (.sl w R)),ng:=N }
theorem EM (S:TS) (r i j no N w:Nat) (R:List (List T)): (S.with no N w R).killU ⟨r,[(i,j)]⟩=(S.kill r j).with no N w R:=by
 unfold TS.with
 rw[PF S r i j];rfl
theorem KI {α:Type} (f:Nat->α) (t:Nat) (x y:α):fp (fp f t x) t y=fp f t y:=by
 funext u
 unfold fp;split<;>rfl
theorem HF {α:Type} (f:Nat->α) (t:Nat) (x:α):fp f t x t=x:=by unfold fp; rw[if_pos rfl]
theorem Nx {α:Type} (f:Nat->α) {t u:Nat} (h:t≠u) (x y:α):fp (fp f t x) u y=fp (fp f u y) t x:=by
 funext v
 unfold fp
 grind
structure PG (S S1:TS) (no:Nat):Prop where
 ok:S1.ok
 gle:jb S.gh S1.gh
 len:S1.gh.length=S.gh.length
 fz:S1.fz=S.fz
 nt:S1.nt=S.nt
 no:fW S1.gh no=fW S.gh no
def HG:Option Ty->Nat|some e=>e.width|none=>0
def T5 (X:St) (no i j:Nat) (c:AV):Option Ty->Option St
 |none=>some X
 |some t=>qq X ⟨no,[]⟩ i j t.width c
def Ny (R:List (List T)) (i j:Nat) (x:C):Option Ty->List (List T)
 |none=>R
 |some _=>R.set i ((R.getD i []).set j x.tree)
theorem Nz {S S1:TS} (hS:S.ok) {no j:Nat} (i N w:Nat) {et:Option Ty} {c:Cl} {x:C} (hc:c.ok S.gh) (h:jG S no j et c=some (x,S1)) (R:List (List T)):
  PG S S1 no/\c≠ .dead/\(et=none->T.ofSc c.av=x.tree)/\T5 (S.with no N w R) no i j c.av et=some (S1.with no N w (Ny R i j x et)):=by
 cases c with
 |c y=>
  cases y with
  |sc v=>
   cases et with
   |none=>simp only[jG,af,an] at h;obtain⟨rfl,rfl⟩:=h;exact⟨⟨hS,jb.refl _,rfl,rfl,rfl,rfl⟩,(fun h=>by cases h),fun _=>rfl,rfl⟩
   |some t=>simp[jG] at h
  |ls t l=>cases et<;>simp[jG] at h
 |em=>
  cases et with
  |none=>simp[jG] at h
  |some t=>
   simp only[jG,af,an] at h;obtain⟨rfl,rfl⟩:=h;refine⟨⟨KH hS _ _,jb.refl _,rfl,rfl,rfl,rfl⟩,(fun h=>by cases h),(fun h=>by cases h),?_⟩;simp only[T5,Cl.av,qq,fg.sub,be,EM,Ny]
   congr 1
   unfold St.setAt TS.with
   simp only;rw[HF,KI];rfl
 |own p sz lo len wh=>
  obtain⟨pr,pl⟩:=p;cases wh with
  |false=>cases et<;>simp[jG] at h
  |true=>
   cases et with
   |none=>simp[jG] at h
   |some t=>
    cases pl with
    |cons a l=>simp[jG] at h
    |nil=>
     simp only[jG] at h;obtain⟨h1,h⟩:=ej h;simp only[al,b8] at h1;obtain⟨⟨h1,h2⟩,h3⟩:=h1;have h1:t.width=sz:=ao h1;have h2:S.fz<=pr:=ar h2;have h3:pr≠no:=by intro e; rw[e,cX] at h3; cases h3
     split at h
     ·rename_i tr htr;split at h
      ·rename_i hh;obtain⟨h4,h⟩:=ej h;have h4':tr.t.width=sz:=ao h4;simp only[af,an] at h;obtain⟨rfl,rfl⟩:=h;have hg:=eT.look htr;obtain⟨tt,l,hole⟩:=tr;simp only at hh h4';subst hh;obtain⟨e1,e2,e3⟩:=vm hc (fun _=>hg);refine⟨⟨KH (TS.ok_gh hS (jb.gone _ _)) _ _,jb.gone _ _,by simp[TS.kill,ik],rfl,rfl,?_⟩,(fun h=>by cases h),(fun h=>by cases h),?_⟩
       ·show fW (fL S.gh pr none) no=_;rw[pL _ _ (.inr rfl),if_neg (fun e=>h3 e.symm)]
       ·simp only[T5,Ny,Cl.av,qq]
        have hrows: (S.with no N w R).rows ⟨pr,[]⟩ sz=some (l.map tt.row):=by
         have : (S.with no N w R).look ⟨pr,[]⟩= .sl tt.width (l.map tt.row):=by
          unfold St.look TS.with
          simp only[fp];rw[if_neg h3];show (match (fW S.gh pr).map eT.tree with |some t=>t.go [] |none=> .dd)=_;rw[hg];rfl
         unfold St.rows;rw[this];simp[h4']
        rw[if_pos ⟨trivial,h1.symm,e2,h2,h3⟩,hrows];simp only[ae,aN];rw[if_pos (by omega),e3]
        congr 1
        have e4: (l.map tt.row).take l.length=l.map tt.row:=bD (by simp);rw[e4];simp only[fg.sub,be,EM];unfold TS.with
        simp only;rw[HF,Nx _ (fun e=>h3 e.symm),KI];have e5: ({ S with gh:=fL S.gh pr none }:TS).kill no j= { S.kill no j with gh:=fL (S.kill no j).gh pr none } :=rfl;rw[e5,yn];simp only[C.tree,h4'];rfl
      ·cases h
     ·cases h
 |pro cs=>cases et<;>simp[jG] at h
 |ptrB n j=>cases et<;>simp[jG] at h
 |ptrT p sz a b=>cases et<;>simp[jG] at h
 |dead=>cases et<;>simp[jG] at h
theorem RP (X:St) (no i j:Nat) (c:AV) (et:Option Ty): (if HG et=0 then some X else qq X ⟨no,[]⟩ i j (HG et) c)=T5 X no i j c et:=by
 cases et with
 |none=>rfl
 |some t=>exact if_neg (by show ¬t.width=0; have:=t.width_pos; omega)
theorem NA {R:List (List T)} {i j:Nat} {x:C} {et:Option Ty} {row:List T} (hr:R[i]? =some row) (hj:j<row.length) (h:et=none->row[j]? =some x.tree):Ny R i j x et=R.set i (row.set j x.tree):=by
 cases et with
 |none=>
  have h:=h rfl
  have e1:row.set j x.tree=row:=by
   apply bI;intro k;rw[b7];split
   ·grind
   ·rfl
  rw[e1];apply bI;intro k;show R[k]? =_
  grind
 |some t=>simp_all [Ny]
theorem Cg (no i N w:Nat): ∀ (ets:List (Option Ty)) (cs:List Cl) (j:Nat) (S S1:TS) (xs:List C) (R:List (List T)) (row:List T),S.ok->(∀c∈cs,c.ok S.gh)->qt no j S ets cs=some (xs,S1)->R[i]? =some row->
  j+cs.length<=row.length->(∀ (k:Nat) (c:Cl),cs[k]? =some c->row[j+k]? =some (T.ofSc c.av))->
  PG S S1 no/\ets.length=cs.length/\xs.length=cs.length/\(∀c∈cs,c≠ .dead)/\
   fK (S.with no N w R) ⟨no,[]⟩ i j (ets.map HG) (cs.map Cl.av)=some (S1.with no N w (R.set i (row.take j++xs.map C.tree++row.drop (j+cs.length)))):=by
 intro ets
 induction ets with
 |nil=>
  intro cs j S S1 xs R row hS hcs h hr hl ho;cases cs with
  |cons c cs=>simp[qt] at h
  |nil=>
   simp only[qt,af,an] at h;obtain⟨rfl,rfl⟩:=h;refine⟨⟨hS,jb.refl _,rfl,rfl,rfl,rfl⟩,rfl,rfl,(fun c hc=>by cases hc),?_⟩;simp only[cL,fK,bT,cd,bX,dj]
   congr 2
   apply bI
   grind
 |cons et ets ih=>
  intro cs j S S1 xs R row hS hcs h hr hl ho;cases cs with
  |nil=>simp[qt] at h
  |cons c cs=>
   simp only[qt] at h;split at h
   ·rename_i x S2 hx;split at h
    ·rename_i xs' S3 hxs;simp only[af,an] at h;obtain⟨rfl,rfl⟩:=h;obtain⟨k1,k2,k3,k4⟩:=Nz hS i N w (hcs c aK) hx R;have hj:j<row.length:=by simp at hl; omega
     have hput:=NA (et:=et) hr hj (x:=x) (fun he=>by rw[<-k3 he]; exact ho 0 c rfl);rw[hput] at k4;have hi:i<R.length:=(aj.1 hr).1
     obtain⟨m1,m2,m3,m4,m5⟩:=ih cs (j+1) S2 S3 xs' (R.set i (row.set j x.tree)) (row.set j x.tree) k1.ok (fun y hy=>Cl.ok_mono k1.gle (hcs y (aL _ hy))) hxs (by simp[hi]) (by simp at hl ⊢; omega) (fun k y hy=>by rw[ch (by omega),show j+1+k=j+(k+1) by omega];exact ho (k+1) y (by simpa using hy))
     refine⟨⟨m1.ok,k1.gle.trans m1.gle,m1.len.trans k1.len,m1.fz.trans k1.fz,m1.nt.trans k1.nt,m1.no.trans k1.no⟩,by simp[m2],by simp[m3],fun y hy=> ?_,?_⟩
     ·grind
     ·simp only[aW,fK];rw[RP,k4];simp only[ae];rw[m5,dL]
      congr 3
      have e2: (row.set j x.tree).take (j+1)=row.take j++ [x.tree] :=by
       rw[List.take_set,bH,ah hj];rw[dz];have hlen: (row.take j).length=j:=by simp; omega
       rw[List.set_append_right _ _ (by omega),hlen,dg];rfl
      grind [List.drop_set_of_lt]
    ·cases h
   ·cases h
end
section
open Go
theorem HH: ∀ {cs:List Cl} {vs:List C},RI cs=some vs->cs.map (fun c=>T.ofSc c.av)=vs.map C.tree/\vs.length=cs.length
 | [],vs,h=>by simp_all [RI]
 |c::cs,vs,h=>by
  cases c with
  |c y=>cases y with
   |sc v=>
    simp only[RI] at h;split at h
    ·rename_i r hr;simp only[af] at h;subst h;obtain⟨h1,h2⟩:=HH hr;exact⟨by simp only[aW,h1]; rfl,by simp[h2]⟩
    ·cases h
   |ls t l=>simp[RI] at h
  | _=>simp[RI] at h
theorem Ch {x:V1} (h1:x≠ .cl .dead) (h2: ∀f cs,x≠ .fn f cs): (V.v x).av.cells=x.cells.map Cl.av/\(V.v x).av.isDead=false:=by
 cases x with
 |cl c=>cases c with
  |c y=>cases y<;>exact⟨rfl,rfl⟩
  |dead=>exact absurd rfl h1
  | _=>exact⟨rfl,rfl⟩
 |agg cs=>exact⟨rfl,rfl⟩
 |fn f cs=>exact absurd rfl (h2 f cs)
section
variable {ρ:Type} {P:Program} {Θ:nD} {S:TS}
theorem KJ (tr:eT) {i j n:Nat} {y:tr.t.D} (hy:tr.l[i]? =some y) (hh:tr.hole=none\/(tr.hole=some (i,j)/\n=1)) (hn:j+n<=tr.t.width):
  ∃Rh rowh,tr.tree= .sl tr.t.width Rh/\Rh[i]? =some rowh/\Rh.length=tr.l.length/\rowh.length=tr.t.width/\rowh.take j=(tr.t.row y).take j/\rowh.drop (j+n)=(tr.t.row y).drop (j+n)/\ ∀X,Rh.set i X=(tr.l.map tr.t.row).set i X:=by
 obtain⟨t,l,hole⟩:=tr;simp only at hy hh hn y;have hi:=(aj.1 hy).1;rcases hh with hh| ⟨hh,rfl⟩
 ·subst hh;exact⟨l.map t.row,t.row y,rfl,by rw[ap,hy]; rfl,by simp,t.row_length y,rfl,rfl,fun _=>rfl⟩
 ·subst hh;have e1: (l.map t.row).getD i [] =t.row y:=by simp[aF,hy]
  refine⟨(l.map t.row).set i ((t.row y).set j .dd),(t.row y).set j .dd,by simp only[eT.tree,e1],by simp[hi],by simp,by simp[t.row_length],?_,?_,fun X=>by rw[dL]⟩
  all_goals grind [List.take_set,List.set_eq_of_length_le,List.drop_set_of_lt]
theorem NB (hΘ:gz P Θ) (hS:S.ok) {t:TypeId} {a v:V} (ha:a.ok S.gh) (hv:v.ok S.gh) {κ:TS->Option ρ} {r:ρ} (h:Jn Θ S t a v κ=some r): ∃S',store P S.st t a.av v.av=some (TS.st S')/\S'.ok/\jb S.gh S'.gh/\κ S'=some r:=by
 unfold Jn at h;split at h
 ·cases h
 ·rename_i ti hti;have hok:=hΘ _ _ hti;split at h
  ·cases h
  ·cases h
  ·cases h
  ·rename_i x hx1 hx2;obtain⟨hc1,hc2⟩:=Ch (x:=x) (fun e=>hx1 (by rw[e])) (fun f cs e=>hx2 f cs (by rw[e]));obtain⟨h1,h'⟩:=ej h;clear h;have h:=h';clear h';have hlen:x.cells.length=ti.ty.width:=ao h1
   have hcok: ∀c∈x.cells,c.ok S.gh:=by
    cases x with
    |cl c=>intro c' hc'; simp only[V1.cells,aD] at hc'; subst hc'; exact hv
    |agg cs=>exact hv
    |fn f cs=>exact absurd rfl (hx2 f cs)
   have hfst: ¬ ((V.v x).av.cells.length≠P.cellsOf t\/(V.v x).av.isDead=true):=by rw[hc1,hc2,hok.cells];simp[hlen]
   split at h
   ·rename_i b j;split at h
    ·rename_i cs hcs;obtain⟨h2,h⟩:=ej h;have h2:j+x.cells.length<=cs.length:=ar h2;have hcs':S.bx[b]? =some cs:=by rw[<-gv]; exact hcs
     have hb:b<S.bx.length:=(aj.1 hcs').1;refine⟨{ S with bx:=fL S.bx b (cs.take j++x.cells++cs.drop (j+x.cells.length)) },?_,⟨hS.env,fun cs' hcs'' c hc=> ?_⟩,jb.refl _,h⟩
     ·have e0:store P S.st t (V.v (.cl (.ptrB b j))).av (V.v x).av=(S.st.bx b).bind fun cs=>if j+(V.v x).av.cells.length<=cs.length then some { S.st with bx:=fp S.st.bx b (some (cs.take j++(V.v x).av.cells++cs.drop (j+(V.v x).av.cells.length))) } else none:=by
       unfold store;simp only;rw[if_neg hfst];rfl
      have e1:S.st.bx b=some (cs.map Cl.av):=by show (o2 S.bx b).map _=_; rw[hcs]; rfl
      simp_all [LM]
     ·rw[ik] at hcs'';rcases ck hcs'' with h3|h3
      ·exact hS.bx _ h3 c hc
      ·subst h3;simp only[aY] at hc;have hm:=au hcs';rcases hc with (hc|hc)|hc
       ·exact hS.bx _ hm c (bW hc)
       ·exact hcok c hc
       ·exact hS.bx _ hm c (bV hc)
    ·cases h
   ·rename_i p sz i j;obtain⟨pr,pl⟩:=p;cases pl with
    |cons a l=>cases h
    |nil=>
     simp only at h;split at h
     ·rename_i tr htr;have hg:=eT.look htr;obtain⟨h2,h⟩:=ej h;simp only[al] at h2;have h3:tr.t.width=sz:=ao h2.1.1;have h4:j+ti.ty.width<=sz:=ar h2.1.2;have hgst:S.st.gh pr=some tr.tree:=by show (fW S.gh pr).map _=_; rw[hg]; rfl
      have e2: (V1.av x).cells=x.cells.map Cl.av:=hc1
      have put: ∀ (y:tr.t.D) (hy:tr.l[i]? =some y) (Rh:List (List T)) (rowh:List T),tr.tree= .sl tr.t.width Rh->Rh[i]? =some rowh->rowh.length=tr.t.width->
        store P S.st t (V.v (.cl (.ptrT ⟨pr,[]⟩ sz i j))).av (V.v x).av=(if ti.ty.flatB then some (S.with pr S.gh.length sz (Rh.set i (rowh.take j++x.cells.map (fun c=>T.ofSc c.av)++rowh.drop (j+ti.ty.width)))) else
         if S.fz<=pr then fK (S.with pr S.gh.length sz (Rh.set i (rowh.take j++x.cells.map (fun c=>T.ofSc c.av)++rowh.drop (j+ti.ty.width)))) ⟨pr,[]⟩ i j (ti.ty.csh.map HG) (x.cells.map Cl.av) else none):=by
       intro y hy Rh rowh g1 g2 g3;have hi:i<Rh.length:=(aj.1 g2).1
       have e0:store P S.st t (V.v (.cl (.ptrT ⟨pr,[]⟩ sz i j))).av (V.v x).av=(m0 S.st ⟨pr,[]⟩ sz i j ((V.v x).av.cells.map T.ofSc)).bind fun S'=>if (nU P 9 t).all (· ==0) then some S' else if S.st.fz<=pr then fK S' ⟨pr,[]⟩ i j (nU P 9 t) (V.v x).av.cells else none:=by unfold store;simp only;rw[if_neg hfst];rfl
       rw[e0,hc1]
       have hrows:S.st.rows ⟨pr,[]⟩ sz=some Rh:=by unfold St.rows St.look;simp only[hgst,g1,T.go,h3,if_true]
       unfold m0;rw[hrows];simp only[aN];have hgd:Rh.getD i [] =rowh:=by simp[aF,g2]
       rw[hgd,if_pos ⟨hi,by rw[g3,hlen,h3]; exact h4⟩];simp only[ae,hok.sh,wl]
       have hset:S.st.setAt ⟨pr,[]⟩ (.sl sz (Rh.set i (rowh.take j++(x.cells.map Cl.av).map T.ofSc++rowh.drop (j+x.cells.length))))=S.with pr S.gh.length sz (Rh.set i (rowh.take j++x.cells.map (fun c=>T.ofSc c.av)++rowh.drop (j+ti.ty.width))):=by
        unfold St.setAt TS.with
        simp only[hgst,aH,T.put,bK,hlen];rfl
       rw[hset];rfl
      have fin: ∀ (S1:TS) (y z:tr.t.D) (vs:List C) (Rh:List (List T)) (rowh:List T),PG S S1 pr->tr.l[i]? =some y->tr.t.flat z=(tr.t.flat y).take j++vs++(tr.t.flat y).drop (j+ti.ty.width)->
        rowh.take j=(tr.t.row y).take j->rowh.drop (j+ti.ty.width)=(tr.t.row y).drop (j+ti.ty.width)->(∀X,Rh.set i X=(tr.l.map tr.t.row).set i X)->
        S1.with pr S.gh.length sz (Rh.set i (rowh.take j++vs.map C.tree++rowh.drop (j+ti.ty.width)))=({ S1 with gh:=fL S1.gh pr (some ⟨tr.t,tr.l.set i z,none⟩) }:TS).st/\
        ({ S1 with gh:=fL S1.gh pr (some ⟨tr.t,tr.l.set i z,none⟩) }:TS).ok/\jb S.gh (fL S1.gh pr (some ⟨tr.t,tr.l.set i z,none⟩)):=by
       intro S1 y z vs Rh rowh hT hy hz q1 q2 q3;have hg1:fW S1.gh pr=some tr:=hT.no.trans hg;have hgle:jb S1.gh (fL S1.gh pr (some ⟨tr.t,tr.l.set i z,none⟩)):=jb.put hg1 (by simp);refine⟨?_,TS.ok_gh hT.ok hgle,hT.gle.trans hgle⟩;rw[xB _ _ (uk hg1)];unfold TS.with
       rw[q1,q2,q3]
       have hrow:tr.t.row z=(tr.t.row y).take j++vs.map C.tree++(tr.t.row y).drop (j+ti.ty.width):=by rw[tr.t.row_flat,hz,tr.t.row_flat];simp[cz,cQ]
       have hng:S.gh.length=S1.st.ng:=hT.len.symm;rw[hng]
       congr 3
       simp only[eT.tree,h3];rw[<-hrow,List.map_set]
      cases hfl:ti.ty.flatB with
      |true=>
       rw[hfl] at h;simp only[cond_true] at h;split at h
       ·rename_i vs hh hvs;obtain⟨y,hy,h⟩:=ai.1 h;split at h
        ·rename_i z hz;obtain⟨k1,k2⟩:=HH hvs;obtain⟨Rh,rowh,g1,g2,g3,g4,g5,g6,g7⟩:=KJ tr hy (.inl hh) (by rw[h3]; exact h4);obtain⟨f1,f2,f3⟩:=fin S y z vs Rh rowh ⟨hS,jb.refl _,rfl,rfl,rfl,rfl⟩ hy (Ty.unflat_some _ _ _ hz) g5 g6 g7
         grind
        ·cases h
       ·cases h
      |false=>
       rw[hfl] at h;simp only[cond_false] at h;obtain⟨h5,h⟩:=ej h;have h5:S.fz<=pr:=ar h5;split at h
       ·rename_i vs S1 hvs;obtain⟨y,hy,h⟩:=ai.1 h;split at h
        ·rename_i z hz
         have main: (tr.hole=none\/(tr.hole=some (i,j)/\ti.ty.width=1))->κ { S1 with gh:=fL S1.gh pr (some ⟨tr.t,tr.l.set i z,none⟩) } =some r-> ∃S',store P S.st t (V.v (.cl (.ptrT ⟨pr,[]⟩ sz i j))).av (V.v x).av=some (TS.st S')/\S'.ok/\jb S.gh S'.gh/\κ S'=some r:=by
          intro hh hk;obtain⟨Rh,rowh,g1,g2,g3,g4,g5,g6,g7⟩:=KJ tr hy hh (by rw[h3]; exact h4);have hi:i<Rh.length:=(aj.1 g2).1;have htk: (rowh.take j).length=j:=by simp; omega
          have hcl: (x.cells.map fun c=>T.ofSc c.av).length=x.cells.length:=by simp
          obtain⟨m1,m2,m3,m4,m5⟩:=Cg pr i S.gh.length sz ti.ty.csh x.cells j S S1 vs (Rh.set i (rowh.take j++x.cells.map (fun c=>T.ofSc c.av)++rowh.drop (j+ti.ty.width))) (rowh.take j++x.cells.map (fun c=>T.ofSc c.av)++rowh.drop (j+ti.ty.width)) hS hcok hvs (by simp[hi]) (by simp; omega) (fun k c hc=>by grind)
          obtain⟨f1,f2,f3⟩:=fin S1 y z vs Rh rowh m1 hy (Ty.unflat_some _ _ _ hz) g5 g6 g7;refine⟨_,?_,f2,f3,hk⟩;rw[put y hy Rh rowh g1 g2 g4,hfl,if_neg (by simp),if_pos h5,m5,<-f1]
          congr 2
          rw[dL]
          congr 1
          rw[bF,bF,db (by omega),List.take_take,Nat.min_self,<-bF]
          congr 1
          rw[<-bF,List.drop_append,az,htk,hcl,hlen,dg,bP,cw (by simp; omega),be]
         split at h
         ·grind
         ·rename_i i0 j0 hh;obtain⟨h6,h⟩:=ej h;simp only[al] at h6
          grind [fA,Nat.eq_of_beq_eq_true]
        ·cases h
       ·cases h
     ·cases h
   ·cases h
end
end
section
open Go
theorem DR (X:St) (p:fg) (i:Nat): ∀ (ss:List Nat) (vs:List AV) (j:Nat),ss.all (· ==0)=true->fK X p i j ss vs=some X:=by
 intro ss
 induction ss with
 |nil=>intro vs j _; cases vs<;>rfl
 |cons s ss ih=>
  intro vs j h;simp only[cy,al,beq_iff_eq] at h;cases vs with
  |nil=>rfl
  |cons v vs=>simp_all [fK]
def vo (no:Nat) (ss:List Nat):Nat->List V->St->Option St
 | _,[],X=>some X
 |k,v::vs,X=>(fK X ⟨no,[]⟩ k 0 ss v.av.cells).bind (vo no ss (k+1) vs)
theorem LQ (el:Ty) (no N:Nat): ∀ (vs:List V) (k:Nat) (S S1:TS) (l:List el.D) (R:List (List T)),S.ok->S.gh.length=no->(∀v∈vs,v.ok S.gh)->sM el S vs=some (l,S1)->R.length=k+vs.length->
  (∀ (m:Nat) (v:V),vs[m]? =some v->R[k+m]? =some (v.av.cells.map T.ofSc))->
  PG S S1 no/\l.length=vs.length/\(∀v∈vs,v.av.cells.length=el.width/\v.av.isDead=false)/\vo no el.shs k vs (S.with no N el.width R)=some (S1.with no N el.width (R.take k++l.map el.row)):=by
 intro vs
 induction vs with
 |nil=>
  intro k S S1 l R hS hno hvs h hl ho;simp only[sM,af,an] at h;obtain⟨rfl,rfl⟩:=h;refine⟨⟨hS,jb.refl _,rfl,rfl,rfl,rfl⟩,rfl,(fun v hv=>by cases hv),?_⟩
  grind [vo,List.take_of_length_le]
 |cons v vs ih=>
  intro k S S1 l R hS hno hvs h hl ho;cases v with
  |tup x=>simp[sM] at h
  |v x=>
   simp only[sM] at h;split at h
   ·rename_i ws S2 hw;split at h
    ·rename_i y ys S3 hy hys;simp only[af,an] at h;obtain⟨rfl,rfl⟩:=h;have hv:=hvs _ aK;have hrow:=ho 0 _ rfl;rw[bX] at hrow;have hk:k<R.length:=(aj.1 hrow).1
     have hcok: ∀c∈x.cells,c.ok S.gh:=by
      cases x with
      |cl c=>intro c' hc'; simp only[V1.cells,aD] at hc'; subst hc'; exact hv
      |agg cs=>exact hv
      |fn f cs=>intro c' hc'; simp only[V1.cells,aD] at hc'; subst hc'; trivial
     rw[hno] at hw
     have hx:x≠ .cl .dead/\(∀f cs,x≠ .fn f cs):=by
      have nd: ∀ (cs:List Cl),cs= [.dead] ->qt no 0 S el.csh cs=some (ws,S2)->False:=by
       intro cs hcs h;subst hcs;cases hc:el.csh with
       |nil=>rw[hc] at h; simp[qt] at h
       |cons e es=>grind [qt,jG]
      constructor
      ·intro e; subst e; exact nd _ rfl hw
      ·intro f cs e; subst e; exact nd _ rfl hw
     obtain⟨hc1,hc2⟩:=Ch hx.1 hx.2
     obtain⟨m1,m2,m3,m4,m5⟩:=Cg no k N el.width el.csh x.cells 0 S S2 ws R ((V.v x).av.cells.map T.ofSc) hS hcok hw hrow (by rw[hc1]; simp) (fun m c hm=>by grind)
     have hwid:x.cells.length=el.width:=by
      rw[<-m2];cases el with
      |st n=>cases n<;>rfl
      | _=>rfl
     obtain⟨g1,g2,g3,g4⟩:=ih (k+1) S2 S3 ys (R.set k (el.row y)) m1.ok (m1.len.trans hno) (fun v hv=>V.ok_mono m1.gle (hvs v (aL _ hv))) hys (by simp at hl ⊢; omega) (fun m v hm=>by rw[ch (by omega),show k+1+m=k+(m+1) by omega];exact ho (m+1) v (by simpa using hm))
     refine⟨⟨g1.ok,m1.gle.trans g1.gle,g1.len.trans m1.len,g1.fz.trans m1.fz,g1.nt.trans m1.nt,g1.no.trans m1.no⟩,by simp[g2],fun v hv=> ?_,?_⟩
     ·grind
     ·simp only[vo];have e1:el.shs=el.csh.map HG:=rfl;rw[hc1,e1,m5];simp only[ae]
      have e2: ((V.v x).av.cells.map T.ofSc).take 0++ws.map C.tree++((V.v x).av.cells.map T.ofSc).drop (0+x.cells.length)=el.row y:=by rw[hc1,df,be,cw (by simp),bT,el.row_flat,Ty.unflat_some _ _ _ hy]
      rw[e2,<-e1,g4]
      congr 2
      have e3: (R.set k (el.row y)).take (k+1)=R.take k++ [el.row y] :=by
       rw[List.take_set,bH,ah hk,dz];have hlen: (R.take k).length=k:=by simp; omega
       rw[List.set_append_right _ _ (by omega),hlen,dg];rfl
      rw[e3];simp
    ·cases h
   ·cases h
theorem Ci (t:Ty):t.zcs.map C.tree=List.zipWith zc t.shs t.zvs:=by
 cases t with
 |st n=>cases n<;>rfl
 | _=>rfl
theorem FB: ∀ {a b:List Nat},SP a b=true->a=b
 | [],[],_=>rfl
 |a::l,b::m,h=>by
  simp only[SP] at h;cases hb:Nat.beq a b with
  |true=>rw[hb] at h;rw[ao hb,FB h]
  |false=>rw[hb] at h; cases h
 | [],_::_,h=>by cases h
 | _::_,[],h=>by cases h
theorem HI (no:Nat) (ss:List Nat) (e:Operand->AV): ∀ (ps:List (Nat×Operand)) (vs:List V) (k:Nat) (X:St),ps.map (·.1)=List.range' k ps.length->ps.map (fun x=>e x.2)=vs.map V.av->
  ps.foldlM (fun S' x=>fK S' ⟨no,[]⟩ x.1 0 ss (e x.2).cells) X=vo no ss k vs X:=by
 intro ps
 induction ps with
 |nil=>
  intro vs k X _ h;cases vs with
  |nil=>rfl
  |cons v vs=>cases h
 |cons p ps ih=>
  intro vs k X h1 h2;cases vs with
  |nil=>cases h2
  |cons v vs=>
   simp only[aW,bN] at h2;simp only[aW,bB,cJ,bN] at h1;simp only[List.foldlM_cons,vo,h1.1,h2.1];cases fK X ⟨no,[]⟩ k 0 ss v.av.cells with
   |none=>rfl
   |some X'=>exact ih vs (k+1) X' h1.2 h2.2
section
variable {ρ:Type} {P:Program} {Θ:nD} {S:TS} {Y:ya}
theorem PH {a:AV} {n:Int} (h:zg a=some n): ∃k,a= .sc (.int k n):=by
 unfold zg at h
 grind
theorem PI (c:Cl):E7 c.av=Jo c:=by
 cases c with
 |c x=>cases x<;>rfl
 | _=>rfl
theorem FC (cs:List Cl): (cs.map Cl.av).any E7=cs.any Jo:=by
 rw[List.any_map]
 congr 1
 funext c
 exact PI c
theorem Ap (c:Cl): (V.v (.cl c)).av.cells= [c.av] :=by
 cases c with
 |c x=>cases x<;>rfl
 | _=>rfl
theorem NC {v:V} (h:B0 v=true):v.av.cells.any E7=true:=by
 cases v with
 |tup l=>cases h
 |v x=>
  cases x with
  |cl c=>rw[Ap];have h: [c].any Jo=true:=h;rw[<-FC] at h;exact h
  |agg cs=>have h:cs.any Jo=true:=h;rw[<-FC] at h;exact h
  |fn f cs=>cases h
theorem ND {v:V} (h:v.av.cells.any E7=true):B0 v=true:=by
 cases v with
 |tup l=>cases h
 |v x=>
  cases x with
  |cl c=>rw[Ap] at h;show [c].any Jo=true;rw[<-FC];exact h
  |agg cs=>show cs.any Jo=true;rw[<-FC];exact h
  |fn f cs=>cases h
theorem Cj: ∀ (ets:List (Option Ty)) (cs:List Cl) (xs:List C),n9 ets cs=some xs->cs.length=ets.length/\DB (ets.map fun |some e=>e.width|none=>0) (cs.map Cl.av)=some (xs.map C.tree)
 | [],[],xs,h=>by simp only[n9,af] at h; subst h; exact⟨rfl,rfl⟩
 |et::ets, .c x::cs,xs,h=>by
  have h: (match n9 ets cs with |some r=>some (x::r)|none=>none)=some xs:=by cases et<;>exact h
  split at h
  ·rename_i r hr;simp only[af] at h;subst h;obtain⟨h1,h2⟩:=Cj ets cs r hr;refine⟨by simp[h1],?_⟩;simp only[aW,DB];have : ∀s,SK s (Cl.av (.c x))=some x.tree:=fun s=>by cases x<;>rfl
   rw[this,h2];rfl
  ·cases h
 |some t::ets, .em::cs,xs,h=>by
  simp only[n9] at h;split at h
  ·rename_i r hr;simp only[af] at h;subst h;obtain⟨h1,h2⟩:=Cj ets cs r hr;refine⟨by simp[h1],?_⟩;simp only[aW,DB,h2];rfl
  ·cases h
 | [],_::_,xs,h=>by simp[n9] at h
 | _::_,[],xs,h=>by simp[n9] at h
 |none::ets, .em::cs,xs,h=>by simp[n9] at h
 | _::ets, .own _ _ _ _ _::cs,xs,h=>by simp[n9] at h
 | _::ets, .pro _::cs,xs,h=>by simp[n9] at h
 | _::ets, .ptrB _ _::cs,xs,h=>by simp[n9] at h
 | _::ets, .ptrT _ _ _ _::cs,xs,h=>by simp[n9] at h
 | _::ets, .dead::cs,xs,h=>by simp[n9] at h
theorem Aq (el:Ty): ∀ (vs:List V) (l:List el.D),te el vs=some l->l.length=vs.length/\u7 el.shs (vs.map fun v=>v.av.cells)=some (l.map el.row)/\ ∀v∈vs,v.av.cells.length=el.width/\v.av.isDead=false
 | [],l,h=>by simp only[te,af] at h; subst h; exact⟨rfl,rfl,fun v hv=>by cases hv⟩
 | .v x::vs,l,h=>by
   simp only[te] at h;split at h
   ·rename_i xs hx;split at h
    ·rename_i y ys hy hys;simp only[af] at h;subst h;obtain⟨h1,h2,h3⟩:=Aq el vs ys hys;obtain⟨g1,g2⟩:=Cj _ _ _ hx
     have n1:x≠ .cl .dead:=fun e=>by
      subst e;have hx:n9 el.csh [Cl.dead] =some xs:=hx
      grind [n9]
     have n2: ∀f cs,x≠ .fn f cs:=fun f cs e=>by
      subst e;have hx:n9 el.csh [Cl.dead] =some xs:=hx
      grind [n9]
     obtain⟨hc,hd⟩:=Ch n1 n2
     have hw:el.csh.length=el.width:=by have:=xC el;unfold Ty.shs at this;simpa using this
     refine⟨by simp[h1],?_,fun v hv=> ?_⟩
     ·simp only[aW,u7,hc];rw[show el.shs=el.csh.map fun |some e=>e.width|none=>0 from rfl,g2];simp only[ae];rw[show (el.csh.map fun |some e=>e.width|none=>0)=el.shs from rfl,h2,el.row_flat,Ty.unflat_some _ _ _ hy];rfl
     grind
    ·cases h
   ·cases h
 | .tup _::vs,l,h=>by simp[te] at h
theorem vp [dY] (hΘ:gz P Θ) (hY:lN P Y) (hS:S.ok) {o:Oper} {κ:V->TS->Option ρ} {r:ρ} (h:uL Θ Y S o κ=some r):
  ∃D v S',lj P D/\step D P S.st o=some (V.av v,TS.st S')/\S'.ok/\v.ok S'.gh/\κ v S'=some r:=by
 have ok: ∀x,(S.opd x).ok S.gh:=fun x=>nq hS x
 have vals:xy Θ S o κ=some r->(∀D:rZ,step D P S.st o=(eu D P S.st o).map fun v=>(v,S.st))-> ∃D v S',lj P D/\step D P S.st o=some (V.av v,TS.st S')/\S'.ok/\v.ok S'.gh/\κ v S'=some r:=by intro h he;obtain⟨v,S1,h1,h2,h3,h4,h5,h6⟩:=zC (D:=FA) hΘ hS h;exact⟨FA,v,S1,iT,by rw[he,h1,aH,h2],h3,by rw[h4]; exact h5,h6⟩
 obtain⟨dst,op,ty,pos,aft,gd⟩:=o;unfold uL at h;cases op with
 |alloc t=>
  simp only at h;split at h
  ·rename_i ti hti;refine⟨FA,_,{ S with bx:=S.bx++ [ti.ty.zvs.map cC] },iT,?_,⟨hS.env,fun cs hcs c hc=> ?_⟩,?_,h⟩
   ·simp only[step,(hΘ _ _ hti).ze,aH];rw[Js,Nn];rfl
   ·rcases aY.1 hcs with h1|h1
    ·exact hS.bx cs h1 c hc
    grind [Np]
   ·trivial
  ·cases h
 |box t x=>
  have fin: ∀ (cs:List Cl),(∀c∈cs,c.ok S.gh)->step FA P S.st ⟨dst, .box t x,ty,pos,aft,gd⟩=some (.ptrB S.bx.length 0,{ S.st with bx:=fp S.st.bx S.bx.length (some (cs.map Cl.av)),nb:=S.bx.length+1 })->κ (.v (.cl (.ptrB S.bx.length 0))) { S with bx:=S.bx++ [cs] } =some r->
    ∃D v S',lj P D/\step D P S.st ⟨dst, .box t x,ty,pos,aft,gd⟩=some (V.av v,TS.st S')/\S'.ok/\v.ok S'.gh/\κ v S'=some r:=by
   intro cs hcs h1 h2;refine⟨FA, .v (.cl (.ptrB S.bx.length 0)),{ S with bx:=S.bx++ [cs] },iT,?_,⟨hS.env,fun cs' hcs' c hc=> ?_⟩,trivial,h2⟩
   ·rw[h1,Js]; rfl
   ·rcases aY.1 hcs' with h3|h3
    ·exact hS.bx cs' h3 c hc
    grind
  simp only at h;split at h
  ·cases h
  ·rename_i c hnd hx;have hc:=ok x;rw[hx] at hc;refine fin [c] (fun c' hc'=>by simp only[aD] at hc'; subst hc'; exact hc) ?_ h;simp only[step,ez,hx];cases c with
   |dead=>exact absurd rfl hnd
   |c y=>cases y<;>rfl
   | _=>rfl
  ·rename_i cs hx;have hc:=ok x;rw[hx] at hc;refine fin cs hc ?_ h;simp only[step,ez,hx];rfl
  ·cases h
 |store t a x=>simp only at h;obtain⟨S1,h1,h2,h3,h⟩:=NB hΘ hS (ok a) (ok x) h;refine⟨FA,_,S1,iT,?_,h2,V.ok_dead _,h⟩;simp only[step,ez,h1,aH];rfl
 |makeSlice t l c=>
  simp only at h;split at h
  ·rename_i ti hti;split at h
   ·rename_i el he;obtain⟨elT',g1,g2,g3,g4,g5,g6⟩:=(hΘ _ _ hti).el el he;obtain⟨n,h1,h⟩:=uj h;obtain⟨m,h2,h⟩:=uj h;split at h
    ·rename_i z hz;obtain⟨hb,h⟩:=fA h;have hz':=Ty.unflat_some _ _ _ hz
     have hzr:el.row z=List.zipWith zc el.shs el.zvs:=by rw[el.row_flat,hz',Ci]
     refine⟨FA,_,{ S with gh:=S.gh++ [some ⟨el,List.replicate n.toNat z,none⟩] },iT,?_,TS.ok_gh hS (jb.app _ _),?_,h⟩
     ·simp only[step,g1,ae,ez,h1,h2];rw[yp g2 g5 g6];simp only[ae]
      have hn:n<=n*(ti.el:Int):=by
       have h1e: (1:Int)<=ti.el:=by omega
       have:=de h1e hb.1
       rwa [Int.mul_one] at this
      rw[if_pos ⟨hb.1,hb.2.1,by rw[g3,Int.mul_comm]; exact hb.2.2,Int.le_trans hn hb.2.2⟩];rw[B8,g2];simp only[eT.tree,List.map_replicate,hzr];rfl
     ·refine⟨by simp,fun _=>⟨rfl,rfl,fun tr htr=> ?_⟩⟩;rw[lp,if_pos rfl] at htr;cases htr;simp
    ·cases h
   ·cases h
  ·cases h
 |buildSlice t len parts=>
  simp only at h;split at h
  ·rename_i ti hti;split at h
   ·rename_i el he;obtain⟨elT',g1,g2,g3,g4,g5,g6⟩:=(hΘ _ _ hti).el el he;obtain⟨hb,h⟩:=ej h;simp only[al] at hb;have hb1:len*el.width<=1048576:=ar hb.1;have hb2:=FB hb.2
    have hpl:parts.toList.length=len:=by have:=congrArg List.length hb2;simpa using this
    cases hro: (parts.toList.map fun x=>S.opd x.2).any B0 with
    |true=>
     rw[hro] at h;simp only[cond_true] at h;split at h
     ·rename_i l hl;obtain⟨m1,m2,m3⟩:=Aq el _ l hl;refine⟨FA, .v (.cl (.c (.ls el l))),S,iT,?_,hS,trivial,h⟩;simp only[step,g1,ae]
      rw[if_pos ⟨by rw[g2]; exact hb1,hb2,by rw[g2]; exact el.width_pos,by rw[g6]; rfl,by
       rw[ay];intro y hy;obtain⟨q1,q2⟩:=m3 (S.opd y.2) (aM.2 ⟨y,hy,rfl⟩)
       simp_all [ez]⟩]
      have e1: (parts.toList.any fun x=>(opd S.st x.2).cells.any E7)=true:=by rw[cg] at hro ⊢;obtain⟨v,hv,hr⟩:=hro;obtain⟨x,hx,rfl⟩:=aM.1 hv;exact⟨x,hx,by rw[ez]; exact NC hr⟩
      have e2: (parts.toList.map fun x=>(opd S.st x.2).cells)=(parts.toList.map fun x=>S.opd x.2).map fun v=>v.av.cells:=by rw[bK];exact aI fun x _=>by simp only[Function.comp,ez]
      rw[if_pos e1,e2,g5,m2,g2];rfl
     ·cases h
    |false=>
    rw[hro] at h;simp only[cond_false] at h;split at h
    ·rename_i l S1 hp
     have hvok: ∀v∈parts.toList.map (fun x=>S.opd x.2),v.ok S.gh:=fun v hv=>by grind
     have hR: ∀ (m:Nat) (v:V),(parts.toList.map fun x=>S.opd x.2)[m]? =some v->(parts.toList.map fun x=>(opd S.st x.2).cells.map T.ofSc)[0+m]? =some (v.av.cells.map T.ofSc):=by intro m v hm;rw[aQ,ap];rw[ap] at hm;simp only[ak] at hm;obtain⟨y,hy,rfl⟩:=hm;rw[hy];simp only[aH,ez]
     obtain⟨m1,m2,m3,m4⟩:=LQ el S.gh.length (S.gh.length+1) _ 0 S S1 l _ hS rfl hvok hp (by simp) hR;have hlen:l.length=len:=by rw[m2]; simp[hpl]
     refine⟨FA,_,{ S1 with gh:=S1.gh++ [some ⟨el,l,none⟩] },iT,?_,TS.ok_gh m1.ok (jb.app _ _),?_,h⟩
     ·simp only[step,g1,ae]
      rw[if_pos ⟨by rw[g2]; exact hb1,hb2,by rw[g2]; exact el.width_pos,by rw[g6]; rfl,by
       rw[ay];intro y hy;obtain⟨q1,q2⟩:=m3 (S.opd y.2) (aM.2 ⟨y,hy,rfl⟩)
       simp_all [ez]⟩]
      have hfold:=HI S.gh.length el.shs (opd S.st) parts.toList (parts.toList.map fun x=>S.opd x.2) 0 (S.with S.gh.length (S.gh.length+1) el.width (parts.toList.map fun x=>(opd S.st x.2).cells.map T.ofSc)) (by rw[hb2,hpl,cq]) (by grind [List.map_congr_left,ez])
      have e0: (parts.toList.any fun x=>(opd S.st x.2).cells.any E7)=false:=by rw[List.any_eq_false] at hro ⊢;intro x hx;have:=hro (S.opd x.2) (aM.2 ⟨x,hx,rfl⟩);rw[ez];exact fun hc=>this (ND hc)
      rw[if_neg (by rw[e0]; decide)]
      have hX: ({ S.st with gh:=fp S.st.gh S.st.ng (some (.sl (P.cellsOf elT') (parts.toList.map fun x=>(opd S.st x.2).cells.map T.ofSc))),ng:=S.st.ng+1 }:St)=S.with S.gh.length (S.gh.length+1) el.width (parts.toList.map fun x=>(opd S.st x.2).cells.map T.ofSc):=by rw[g2]; rfl
      rw[hX,g5];have hng:S.st.ng=S.gh.length:=rfl;rw[hng]
      have hres: (if (el.shs.all (· ==0))=true then some (S.with S.gh.length (S.gh.length+1) el.width (parts.toList.map fun x=>(opd S.st x.2).cells.map T.ofSc)) else
        parts.toList.foldlM (fun S' x=>fK S' ⟨S.gh.length,[]⟩ x.1 0 el.shs (opd S.st x.2).cells) (S.with S.gh.length (S.gh.length+1) el.width (parts.toList.map fun x=>(opd S.st x.2).cells.map T.ofSc)))=some (S1.with S.gh.length (S.gh.length+1) el.width (l.map el.row)):=by
       rw[hfold];simp only[df,be] at m4;rw[m4];split
       ·rename_i hfl
        have : ∀ (vs:List V) (k:Nat) (X:St),vo S.gh.length el.shs k vs X=some X:=by
         intro vs
         induction vs with
         |nil=>intro k X; rfl
         |cons v vs ih=>grind [vo,DR]
        rw[this] at m4;exact m4
       ·rfl
      rw[hres];simp only[aH];rw[B8,m1.len,g2];simp only[V.av,V1.av,Cl.av,hlen];rfl
     ·refine⟨by simp,fun _=>⟨rfl,rfl,fun tr htr=> ?_⟩⟩;rw[lp,if_pos rfl] at htr;cases htr;rfl
    ·cases h
   ·cases h
  ·cases h
 |call c=>
  obtain⟨cl,as,ts⟩:=c;cases cl with
  |value f=>simp only at h;exact Nt hΘ hY hS h
  |invoke a b=>exact vals h (fun D=>rfl)
  |builtin b=>
   cases b with
   |append=>
    simp only at h;split at h
    ·rename_i s x t t' e1 e2;cases htb:Nat.beq t t' with
     |false=>
      rw[htb] at h;simp only[cond_false] at h;have hne: ¬t=t':=fun e=>by rw[e,cX] at htb; cases htb
      unfold Q0 at h;split at h
      ·rename_i ti hti;split at h
       ·rename_i el he hs;obtain⟨elT',g1,g2,g3,g4,g5,g6⟩:=(hΘ _ _ hti).el el he;obtain⟨n,h1,h⟩:=uj h;split at h
        ·rename_i z hz;obtain⟨hb,h⟩:=fA h;have hz':=Ty.unflat_some _ _ _ hz
         have hzr:el.row z=List.zipWith zc el.shs el.zvs:=by rw[el.row_flat,hz',Ci]
         obtain⟨kk,hkk⟩:=PH h1;refine⟨FA,_,{ S with gh:=S.gh++ [some ⟨el,List.replicate n.toNat z,none⟩] },iT,?_,TS.ok_gh hS (jb.app _ _),?_,h⟩
         ·simp only[step,e1,e2,if_neg hne,g1,ae];rw[yp g2 g5 g6];simp only[ae,ez,hs,hkk]
          have hn:n<=n*(ti.el:Int):=by
           have h1e: (1:Int)<=ti.el:=by omega
           have:=de h1e (dG hb.1)
           rwa [Int.mul_one] at this
          show (if 0<n/\_ then _ else _)=_;rw[if_pos ⟨hb.1,by rw[g3,Int.mul_comm]; exact hb.2,Int.le_trans hn hb.2,by rw[g2]; exact el.width_pos⟩];rw[B8,g2];simp only[eT.tree,List.map_replicate,hzr];rfl
         ·refine⟨by simp,fun _=>⟨rfl,rfl,fun tr htr=> ?_⟩⟩;rw[lp,if_pos rfl] at htr;cases htr;simp
        ·cases h
       ·cases h
      ·cases h
     |true=>
     rw[htb] at h;simp only[cond_true] at h;have h':=h;have ht:t=t':=ao htb;clear h;subst ht;have e1:as= #[s,x] :=by apply Array.ext'; simpa using e1
     have e2:ts= #[t,t] :=by apply Array.ext'; simpa using e2
     subst e1 e2;obtain⟨v,S1,h1,h2,h3,h4⟩:=PD (D:=FA) (dst:=dst) (ty:=ty) (pos:=pos) (aft:=aft) (gd:=gd) hΘ hS h'
     grind [iT]
    ·cases h
   | _=>exact vals h (fun D=>rfl)
 |convert s d x=>
  simp only at h;split at h
  ·rename_i p sz lo len wh hx;split at h
   ·rename_i si di hsi hdi;split at h
    ·rename_i hs8 hds;obtain⟨t,l,g1,g0,h⟩:=ic h;clear g0;unfold SQ at h;split at h
     ·rename_i l;obtain⟨hb,h⟩:=ej h;have hb:sz=1:=ao hb;subst hb;unfold iteP at h;split at h
      ·rename_i hc;obtain⟨u,u1,u2,_⟩:=(hΘ _ _ hsi).el _ hs8;have u8:=(hΘ _ _ hsi).el8 _ _ hs8 u1;have hd:zd P d=true:=by rw[(hΘ _ _ hdi).str,hds]
       refine⟨FA,_,S,iT,?_,hS,V.ok_sc _ _,h⟩
       have hrows:S.st.rows p 1=some (l.map (Ty.row (.i .u8))):=by unfold St.rows;rw[g1];rfl
       have hbt:u9 (((l.map (Ty.row (.i .u8))).drop lo).take len)=some ((l.drop lo).take len):=by
        rw[<-cQ,<-cz];generalize (l.drop lo).take len=m
        induction m with
        |nil=>rfl
        |cons n m ih=>simp_all [u9,Ty.row]
       have ex:opd S.st x= .own p 1 lo len:=by rw[ez,hx]; rfl
       simp only[step,ex,u1,ae];rw[if_pos ⟨by unfold Rn; rw[u8],hd,by first |exact trivial|exact rfl,hc.1⟩,hrows];simp only[ae];rw[if_pos (by rw[aN]; exact hc.2),hbt];rfl
      ·cases h
     ·cases h
    ·cases h
   ·cases h
  ·rename_i hno;refine vals h (fun D=> ?_);simp only[step];split
   ·rename_i p sz lo len he;exfalso;rw[ez] at he;cases hv:S.opd x with
    |v y=>
     cases y with
     |cl c=>
      cases c with
      |own p' sz' lo' len' w=>exact hno _ _ _ _ _ hv
      |c y=>rw[hv] at he; cases y<;>cases he
      | _=>rw[hv] at he; cases he
     | _=>rw[hv] at he; cases he
    | _=>rw[hv] at he; cases he
   ·rfl
 | _=>exact vals h (fun D=>rfl)
end
end
end Go.Proofs.YtadabkgmdllbfabGreat.En
