/- Activation: the plain law. -/
import Derived.Test.YtjnleglhcppgcaaGreatZPSeal
namespace Go.Proofs.YtjnleglhcppgcaaGreat.En
open Go
abbrev z0:Int×Unit×Unit×Unit×Int×Int×Int×Int×Int×Unit×Unit:=(0,(),(),(),0,0,0,0,0,(),())
abbrev fy (x:eg):Int×Unit×Unit×Unit×Int×Int×Int×Int×Int×Unit×Unit:=(x.now,(),(),(),x.master.activated,x.masterUp,x.lease.epoch,x.lease.holder,x.lease.ends,(),())
theorem Nk (x:eg) (S:List eo) (hS:S.length=5/\ ∀s∈S,iZ 1048576 s) (n:ej) (hn:iH 1048576 n) (htn:xw n<=20) (l:List eu) (hl:l.length<=1048576) (m:List Int) (m3:m.length<=10) (m4: ∀y∈m,0<=y/\y<5): ∃T,((T.length=5/\ ∀s∈T,iZ 1048576 s)/\oq uJ T<=oq uJ S+(m.length:Int)*1048600)/\
  zV (((),(),(),(),(),(),0,()),(fx x,z0,fy x,(n.epoch,n.primary,(),(),()),()),(l,m,S,x.sides,x.master.configs,x.places,n.replicas,n.witnesses,()))=some (((),(),(),(),()),(fx x,z0,fy x,(n.epoch,n.primary,(),(),()),()),(T,x.sides,x.master.configs,x.places,n.replicas,n.witnesses,()))/\
  z8 (((),(),(),(),(),(m.length:Int),0,()),(z0,(n.epoch,n.primary,(),(),()),fy x,()),(l,m,n.replicas,n.witnesses,S,x.sides,x.master.configs,x.places,()))=some (((),(),(),()),(z0,(n.epoch,n.primary,(),(),()),fy x,()),(n.replicas,n.witnesses,T,x.sides,x.master.configs,x.places,())):=by
 have mm:m.length<=maxLen:=by unfold maxLen; omega
 refine pc (B1:=m9) (B2:=np) m.length (fun k (S:List eo)=>(((),(),(),(),(),(),(k:Int),()),(fx x,z0,fy x,(n.epoch,n.primary,(),(),()),()),(l,m,S,x.sides,x.master.configs,x.places,n.replicas,n.witnesses,()))) (fun k S=>(((),(),(),(),(),(m.length:Int),(k:Int),()),(z0,(n.epoch,n.primary,(),(),()),fy x,()),(l,m,n.replicas,n.witnesses,S,x.sides,x.master.configs,x.places,()))) (fun k S'=>(S'.length=5/\ ∀s∈S',iZ 1048576 s)/\oq uJ S'<=oq uJ S+(k:Int)*1048600)
  (fun T=>(((),(),(),(),()),(fx x,z0,fy x,(n.epoch,n.primary,(),(),()),()),(T,x.sides,x.master.configs,x.places,n.replicas,n.witnesses,()))) (fun T=>(((),(),(),()),(z0,(n.epoch,n.primary,(),(),()),fy x,()),(n.replicas,n.witnesses,T,x.sides,x.master.configs,x.places,())))
  (fun S _=> ?_) (fun k S' hk hS'=> ?_) S ⟨hS,by omega⟩
 ·simp only[m9,np,ei];exact⟨if_neg (by omega),if_neg (by omega)⟩
 ·have c1: (k:Int)< (m.length:Int):=by omega
  have c2: (0:Int)<=(k:Int)/\(k:Int)< (m.length:Int):=by omega
  have hz:=m4 _ (aV hk);generalize hzz:m[k] =z at hz;have hg:m[k]? =some z:=by rw[<-hzz]; exact ah hk
  obtain⟨hS',hsum⟩:=hS';have hlt:z.toNat<S'.length:=by rw[hS'.1]; omega
  have c3:0<=z/\z< (S'.length:Int):=by rw[hS'.1]; omega
  have s1:S'[z.toNat]? =some S'[z.toNat] :=ah hlt;have s2:=hS'.2 _ (aV hlt);generalize S'[z.toNat] =s at s1 s2;obtain⟨r,b,r1,r2,r3,r4,_⟩:=Hh s n z l s2 hn hl;have zl:lw l=(l.length:Int):=rfl;simp only[m9,np,fx,fy,z0,ei,ek,if_pos c1,if_pos c2,ap,hg,ae,if_pos c3,s1,aU,ay,if_true,bJ,be,r1,r2,ey mm hk];refine⟨S'.set z.toNat r,rfl,rfl,⟨by simp[hS'.1],fun t ht=> ?_⟩,by rw[Rv s1]; omega⟩;rcases cx ht with h|h
  ·exact hS'.2 t h
  ·rw[h]; exact r3
theorem RC (x:eg) (ok:gX 1048576 x) (vc:VC x) (S:List eo) (ok':gX 1048576 (fJ x S)) (vc':VC (fJ x S)) (se:RP x (fJ x S)) (n:ej) (l:List eu) (m:List Int) (m3:m.length<=10) (m4: ∀y∈m,0<=y/\y<5):
  (vn (((),(),(),(),(),(),0,()),(fx x,z0,fy x,(n.epoch,n.primary,(),(),()),()),(l,m,S,x.sides,x.master.configs,x.places,n.replicas,n.witnesses,()))=some (.inr (((),(),(),(),(),(),(),()),(fx x,z0,fy x,(n.epoch,n.primary,(),(),()),()),(l,m,S,x.sides,x.master.configs,x.places,n.replicas,n.witnesses,())))/\fv m (fJ x S)=some (false,()))\/
  (vn (((),(),(),(),(),(),0,()),(fx x,z0,fy x,(n.epoch,n.primary,(),(),()),()),(l,m,S,x.sides,x.master.configs,x.places,n.replicas,n.witnesses,()))=some (.inl (((),(),10,(),(),(),(),()),(fx x,fy x,fy x,(n.epoch,n.primary,(),(),()),()),(l,m,S,x.sides,x.master.configs,x.places,n.replicas,n.witnesses,())))/\fv m (fJ x S)=some (true,())):=by
 have mm:m.length<=maxLen:=by unfold maxLen; omega
 have hsl:=uG (ff ok.2.1) vc.sides;have hsl':=uG (ff ok'.2.1) vc'.sides
 have gE:=jS (B1:=m8) (B2:=fE) m.length (fun k=>(((),(),(),(),(),(),(k:Int),()),(fx x,z0,fy x,(n.epoch,n.primary,(),(),()),()),(l,m,S,x.sides,x.master.configs,x.places,n.replicas,n.witnesses,()))) (fun k=>((m,(fJ x S,()),(m.length:Int),(k:Int),()),(),()))
  (.inr (((),(),(),(),(),(),(),()),(fx x,z0,fy x,(n.epoch,n.primary,(),(),()),()),(l,m,S,x.sides,x.master.configs,x.places,n.replicas,n.witnesses,()))) (.inr (((),()),(),()))
  (fun _=> .inl (((),(),10,(),(),(),(),()),(fx x,fy x,fy x,(n.epoch,n.primary,(),(),()),()),(l,m,S,x.sides,x.master.configs,x.places,n.replicas,n.witnesses,()))) (fun k=> .inl (((k:Int),()),(),()))
  (fun _=>True) (fun _=>True)
  (by simp only[m8]; rw[ei,if_neg (by omega)])
  (by simp only[fE]; rw[ei,if_neg (by omega)])
  (fun k hk=>by
    have c1: (k:Int)< (m.length:Int):=by omega
    have c2: (0:Int)<=(k:Int)/\(k:Int)< (m.length:Int):=by omega
    have hz:=m4 _ (aV hk);generalize hzz:m[k] =z at hz;have hg:m[k]? =some z:=by rw[<-hzz]; exact ah hk
    obtain⟨s,s1,s2,_⟩:=ow ok vc hz;obtain⟨e,e1⟩:=se.srv _ _ s1;have hside:z.toNat<x.sides.length:=by omega
    have d1:x.sides[z.toNat]? =some x.sides[z.toNat] :=ah hside
    have hu:oY z (fJ x S)=some (!(s.up&&(x.sides[z.toNat] ==0)),()):=by have e1':S[z.toNat]? =some (vx s e):=e1;unfold oY nV;simp only[ek,if_pos hz.1,e1',ae,d1];cases s.up<;>rfl
    simp only[m8,fE,fx,fy,z0,ei,fi,ek,if_pos c1,if_pos c2,if_pos c2.1,ap,hg,ae,if_pos hz.1,s1,d1,hu,ey mm hk];cases s.up with
    |false=>exact .inr ⟨rfl,rfl,trivial⟩
    |true=>
     cases (x.sides[z.toNat] ==0) with
     |false=>exact .inr ⟨rfl,rfl,trivial⟩
     |true=>exact .inl ⟨rfl,rfl,trivial⟩)
 unfold fv il;rcases gE with ⟨k1,k2,_⟩| ⟨k,_,k1,k2,_⟩
 ·refine .inl ⟨k1,?_⟩;rw[show i8 ((m,(fJ x S,()),(m.length:Int),0,()),(),())=_ from k2];rfl
 ·refine .inr ⟨k1,?_⟩;rw[show i8 ((m,(fJ x S,()),(m.length:Int),0,()),(),())=_ from k2];simp only[ae,b7];rw[decide_eq_true (by omega)]
theorem Nl (x:eg) (ok:gX 1048576 x) (vc:VC x) (S:List eo) (se:RP x (fJ x S)) (n:ej) (l:List eu) (m:List Int) (m3:m.length<=10) (m4: ∀y∈m,0<=y/\y<5) {b:Bool} (hb:kv l=some (b,())):
  (vp (((),(),(),(),(),(),0,()),(fx x,z0,fy x,(n.epoch,n.primary,(),(),()),()),(l,m,S,x.sides,x.master.configs,x.places,n.replicas,n.witnesses,()))=some (.inr (((),(),(),(),(),(),(),()),(fx x,z0,fy x,(n.epoch,n.primary,(),(),()),()),(l,m,S,x.sides,x.master.configs,x.places,n.replicas,n.witnesses,())))/\(b=false\/fw m (fJ x S)=some (false,())))\/
  (vp (((),(),(),(),(),(),0,()),(fx x,z0,fy x,(n.epoch,n.primary,(),(),()),()),(l,m,S,x.sides,x.master.configs,x.places,n.replicas,n.witnesses,()))=some (.inl (((),(),6,(),(),(),(),()),(fx x,fy x,fy x,(n.epoch,n.primary,(),(),()),()),(l,m,S,x.sides,x.master.configs,x.places,n.replicas,n.witnesses,())))/\b=true/\fw m (fJ x S)=some (true,())):=by
 have mm:m.length<=maxLen:=by unfold maxLen; omega
 have common: ∀k,(hk:k<m.length)-> ∃s:eo,jr (((),(),(),(),(),(),(k:Int),()),(fx x,z0,fy x,(n.epoch,n.primary,(),(),()),()),(l,m,S,x.sides,x.master.configs,x.places,n.replicas,n.witnesses,()))=(if (s.version==1&&b)=true then some (.inr (.inl (((),(),6,(),(),(),(),()),(fx x,fy x,fy x,(n.epoch,n.primary,(),(),()),()),(l,m,S,x.sides,x.master.configs,x.places,n.replicas,n.witnesses,())))) else some (.inl (((),(),(),(),(),(),((k+1:Nat):Int),()),(fx x,z0,fy x,(n.epoch,n.primary,(),(),()),()),(l,m,S,x.sides,x.master.configs,x.places,n.replicas,n.witnesses,()))))/\
   fg ((m,(fJ x S,()),(m.length:Int),(k:Int),()),(),())=(if (s.version==1)=true then some (.inr (.inl (((k:Int),()),(),()))) else some (.inl ((m,(fJ x S,()),(m.length:Int),((k+1:Nat):Int),()),(),()))):=by
  intro k hk;have c1: (k:Int)< (m.length:Int):=by omega
  have c2: (0:Int)<=(k:Int)/\(k:Int)< (m.length:Int):=by omega
  have hz:=m4 _ (aV hk);generalize hzz:m[k] =z at hz;have hg:m[k]? =some z:=by rw[<-hzz]; exact ah hk
  obtain⟨s,s1,s2,_⟩:=ow ok vc hz;obtain⟨e,e1⟩:=se.srv _ _ s1;have e1':S[z.toNat]? =some (vx s e):=e1;refine⟨s,?_,?_⟩
  ·simp only[jr,fx,fy,z0,ei,ek,if_pos c1,if_pos c2,ap,hg,ae,if_pos hz.1,s1,hb,ey mm hk];cases (s.version==1)<;>cases b<;>rfl
  ·simp only[fg,rA,ei,ek,if_pos c1,if_pos c2.1,ap,hg,ae,if_pos hz.1,e1',ey mm hk];cases (s.version==1)<;>rfl
 cases b with
 |false=>
  have gE:=iB (B:=jr) m (fun k (_:Unit)=>(((),(),(),(),(),(),(k:Int),()),(fx x,z0,fy x,(n.epoch,n.primary,(),(),()),()),(l,m,S,x.sides,x.master.configs,x.places,n.replicas,n.witnesses,()))) (fun _ _=>True) (fun _ _ _=> .inr (((),(),(),(),(),(),(),()),(fx x,z0,fy x,(n.epoch,n.primary,(),(),()),()),(l,m,S,x.sides,x.master.configs,x.places,n.replicas,n.witnesses,())))
   (fun _ _=>by simp only[jr];rw[ei,if_neg (by omega)])
   (fun k _ z hz _=>by obtain⟨s,h1,_⟩:=common k (i5 hz);exact .inl ⟨(),by rw[h1]; simp,trivial,rfl⟩)
   0 () (aI _) trivial
  exact .inl ⟨gE, .inl rfl⟩
 |true=>
  have gE:=jS (B1:=jr) (B2:=fg) m.length (fun k=>(((),(),(),(),(),(),(k:Int),()),(fx x,z0,fy x,(n.epoch,n.primary,(),(),()),()),(l,m,S,x.sides,x.master.configs,x.places,n.replicas,n.witnesses,()))) (fun k=>((m,(fJ x S,()),(m.length:Int),(k:Int),()),(),()))
   (.inr (((),(),(),(),(),(),(),()),(fx x,z0,fy x,(n.epoch,n.primary,(),(),()),()),(l,m,S,x.sides,x.master.configs,x.places,n.replicas,n.witnesses,()))) (.inr (((),()),(),()))
   (fun _=> .inl (((),(),6,(),(),(),(),()),(fx x,fy x,fy x,(n.epoch,n.primary,(),(),()),()),(l,m,S,x.sides,x.master.configs,x.places,n.replicas,n.witnesses,()))) (fun k=> .inl (((k:Int),()),(),()))
   (fun _=>True) (fun _=>True)
   (by simp only[jr]; rw[ei,if_neg (by omega)])
   (by simp only[fg]; rw[ei,if_neg (by omega)])
   (fun k hk=>by
     obtain⟨s,h1,h2⟩:=common k hk;rw[h1,h2];cases (s.version==1) with
     |true=>exact .inr ⟨rfl,rfl,trivial⟩
     |false=>exact .inl ⟨rfl,rfl,trivial⟩)
  unfold fw im;rcases gE with ⟨k1,k2,_⟩| ⟨k,_,k1,k2,_⟩
  ·refine .inl ⟨k1, .inr ?_⟩;rw[show i9 ((m,(fJ x S,()),(m.length:Int),0,()),(),())=_ from k2];rfl
  ·refine .inr ⟨k1,rfl,?_⟩;rw[show i9 ((m,(fJ x S,()),(m.length:Int),0,()),(),())=_ from k2];simp only[ae,b7];rw[decide_eq_true (by omega)]
end Go.Proofs.YtjnleglhcppgcaaGreat.En
