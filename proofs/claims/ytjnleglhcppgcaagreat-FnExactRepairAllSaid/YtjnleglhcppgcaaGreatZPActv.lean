/- Activation: the plain law. -/
import Derived.Test.YtjnleglhcppgcaaGreatZPSeal
namespace Go.Proofs.YtjnleglhcppgcaaGreat.En
open Go
abbrev z0:Int×Unit×Unit×Unit×Int×Int×Int×Int×Int×Unit×Unit:=(0,(),(),(),0,0,0,0,0,(),())
abbrev fy (x:dT):Int×Unit×Unit×Unit×Int×Int×Int×Int×Int×Unit×Unit:=(x.now,(),(),(),x.master.activated,x.masterUp,x.lease.epoch,x.lease.holder,x.lease.ends,(),())
theorem La (x:dT) (S:List dX) (hS:S.length=5/\ ∀s∈S,gW 1048576 s) (n:dW) (hn:gK 1048576 n) (htn:ue n<=20) (l:List ea) (hl:l.length<=1048576) (m:List Int) (m3:m.length<=10) (m4: ∀y∈m,0<=y/\y<5): ∃T,((T.length=5/\ ∀s∈T,gW 1048576 s)/\eN sB T<=eN sB S+(m.length:Int)*1048600)/\
  xH (((),(),(),(),(),(),0,()),(fx x,z0,fy x,(n.epoch,n.primary,(),(),()),()),(l,m,S,x.sides,x.master.configs,x.places,n.replicas,n.witnesses,()))=some (((),(),(),(),()),(fx x,z0,fy x,(n.epoch,n.primary,(),(),()),()),(T,x.sides,x.master.configs,x.places,n.replicas,n.witnesses,()))/\
  tu (((),(),(),(),(),(m.length:Int),0,()),(z0,(n.epoch,n.primary,(),(),()),fy x,()),(l,m,n.replicas,n.witnesses,S,x.sides,x.master.configs,x.places,()))=some (((),(),(),()),(z0,(n.epoch,n.primary,(),(),()),fy x,()),(n.replicas,n.witnesses,T,x.sides,x.master.configs,x.places,())):=by
 have mm:m.length<=maxLen:=by unfold maxLen; omega
 refine s5 (B1:=l9) (B2:=mf) m.length (fun k (S:List dX)=>(((),(),(),(),(),(),(k:Int),()),(fx x,z0,fy x,(n.epoch,n.primary,(),(),()),()),(l,m,S,x.sides,x.master.configs,x.places,n.replicas,n.witnesses,()))) (fun k S=>(((),(),(),(),(),(m.length:Int),(k:Int),()),(z0,(n.epoch,n.primary,(),(),()),fy x,()),(l,m,n.replicas,n.witnesses,S,x.sides,x.master.configs,x.places,()))) (fun k S'=>(S'.length=5/\ ∀s∈S',gW 1048576 s)/\eN sB S'<=eN sB S+(k:Int)*1048600)
  (fun T=>(((),(),(),(),()),(fx x,z0,fy x,(n.epoch,n.primary,(),(),()),()),(T,x.sides,x.master.configs,x.places,n.replicas,n.witnesses,()))) (fun T=>(((),(),(),()),(z0,(n.epoch,n.primary,(),(),()),fy x,()),(n.replicas,n.witnesses,T,x.sides,x.master.configs,x.places,())))
  (fun S _=> ?_) (fun k S' hk hS'=> ?_) S ⟨hS,by omega⟩
 ·simp only[l9,mf,dV];exact⟨if_neg (by omega),if_neg (by omega)⟩
 ·have c1: (k:Int)< (m.length:Int):=by omega
  have c2: (0:Int)<=(k:Int)/\(k:Int)< (m.length:Int):=by omega
  have hz:=m4 _ (aW hk);generalize hzz:m[k] =z at hz;have hg:m[k]? =some z:=by rw[<-hzz]; exact ah hk
  obtain⟨hS',hsum⟩:=hS';have hlt:z.toNat<S'.length:=by rw[hS'.1]; omega
  have c3:0<=z/\z< (S'.length:Int):=by rw[hS'.1]; omega
  have s1:S'[z.toNat]? =some S'[z.toNat] :=ah hlt;have s2:=hS'.2 _ (aW hlt);generalize S'[z.toNat] =s at s1 s2;obtain⟨r,b,r1,r2,r3,r4,_⟩:=Fv s n z l s2 hn hl;have zl:ev l=(l.length:Int):=rfl;simp only[l9,mf,fx,fy,z0,dV,dZ,if_pos c1,if_pos c2,ao,hg,ae,if_pos c3,s1,aV,ay,if_true,bJ,aX,r1,r2,ec mm hk];refine⟨S'.set z.toNat r,rfl,rfl,⟨by simp[hS'.1],fun t ht=> ?_⟩,by rw[OZ s1]; omega⟩;rcases cS ht with h|h
  ·exact hS'.2 t h
  ·rw[h]; exact r3
theorem O7 (x:dT) (ok:iq 1048576 x) (vc:VC x) (S:List dX) (ok':iq 1048576 (ly x S)) (vc':VC (ly x S)) (se:Pa x (ly x S)) (n:dW) (l:List ea) (m:List Int) (m3:m.length<=10) (m4: ∀y∈m,0<=y/\y<5):
  (th (((),(),(),(),(),(),0,()),(fx x,z0,fy x,(n.epoch,n.primary,(),(),()),()),(l,m,S,x.sides,x.master.configs,x.places,n.replicas,n.witnesses,()))=some (.inr (((),(),(),(),(),(),(),()),(fx x,z0,fy x,(n.epoch,n.primary,(),(),()),()),(l,m,S,x.sides,x.master.configs,x.places,n.replicas,n.witnesses,())))/\eZ m (ly x S)=some (false,()))\/
  (th (((),(),(),(),(),(),0,()),(fx x,z0,fy x,(n.epoch,n.primary,(),(),()),()),(l,m,S,x.sides,x.master.configs,x.places,n.replicas,n.witnesses,()))=some (.inl (((),(),10,(),(),(),(),()),(fx x,fy x,fy x,(n.epoch,n.primary,(),(),()),()),(l,m,S,x.sides,x.master.configs,x.places,n.replicas,n.witnesses,())))/\eZ m (ly x S)=some (true,())):=by
 have mm:m.length<=maxLen:=by unfold maxLen; omega
 have hsl:=sC (eR ok.2.1) vc.sides;have hsl':=sC (eR ok'.2.1) vc'.sides
 have gA:=lA (B1:=l8) (B2:=ff) m.length (fun k=>(((),(),(),(),(),(),(k:Int),()),(fx x,z0,fy x,(n.epoch,n.primary,(),(),()),()),(l,m,S,x.sides,x.master.configs,x.places,n.replicas,n.witnesses,()))) (fun k=>((m,(ly x S,()),(m.length:Int),(k:Int),()),(),()))
  (.inr (((),(),(),(),(),(),(),()),(fx x,z0,fy x,(n.epoch,n.primary,(),(),()),()),(l,m,S,x.sides,x.master.configs,x.places,n.replicas,n.witnesses,()))) (.inr (((),()),(),()))
  (fun _=> .inl (((),(),10,(),(),(),(),()),(fx x,fy x,fy x,(n.epoch,n.primary,(),(),()),()),(l,m,S,x.sides,x.master.configs,x.places,n.replicas,n.witnesses,()))) (fun k=> .inl (((k:Int),()),(),()))
  (fun _=>True) (fun _=>True)
  (by simp only[l8]; rw[dV,if_neg (by omega)])
  (by simp only[ff]; rw[dV,if_neg (by omega)])
  (fun k hk=>by
    have c1: (k:Int)< (m.length:Int):=by omega
    have c2: (0:Int)<=(k:Int)/\(k:Int)< (m.length:Int):=by omega
    have hz:=m4 _ (aW hk);generalize hzz:m[k] =z at hz;have hg:m[k]? =some z:=by rw[<-hzz]; exact ah hk
    obtain⟨s,s1,s2,_⟩:=sD ok vc hz;obtain⟨e,e1⟩:=se.srv _ _ s1;have hside:z.toNat<x.sides.length:=by omega
    have d1:x.sides[z.toNat]? =some x.sides[z.toNat] :=ah hside
    have hu:nS z (ly x S)=some (!(s.up&&(x.sides[z.toNat] ==0)),()):=by have e1':S[z.toNat]? =some (tz s e):=e1;unfold nS mX;simp only[dZ,if_pos hz.1,e1',ae,d1];cases s.up<;>rfl
    simp only[l8,ff,fx,fy,z0,dV,fg,dZ,if_pos c1,if_pos c2,if_pos c2.1,ao,hg,ae,if_pos hz.1,s1,d1,hu,ec mm hk];cases s.up with
    |false=>exact .inr ⟨rfl,rfl,trivial⟩
    |true=>
     cases (x.sides[z.toNat] ==0) with
     |false=>exact .inr ⟨rfl,rfl,trivial⟩
     |true=>exact .inl ⟨rfl,rfl,trivial⟩)
 unfold eZ gG;rcases gA with ⟨k1,k2,_⟩| ⟨k,_,k1,k2,_⟩
 ·refine .inl ⟨k1,?_⟩;rw[show im ((m,(ly x S,()),(m.length:Int),0,()),(),())=_ from k2];rfl
 ·refine .inr ⟨k1,?_⟩;rw[show im ((m,(ly x S,()),(m.length:Int),0,()),(),())=_ from k2];simp only[ae,b8];rw[decide_eq_true (by omega)]
theorem Lb (x:dT) (ok:iq 1048576 x) (vc:VC x) (S:List dX) (se:Pa x (ly x S)) (n:dW) (l:List ea) (m:List Int) (m3:m.length<=10) (m4: ∀y∈m,0<=y/\y<5) {b:Bool} (hb:jy l=some (b,())):
  (tj (((),(),(),(),(),(),0,()),(fx x,z0,fy x,(n.epoch,n.primary,(),(),()),()),(l,m,S,x.sides,x.master.configs,x.places,n.replicas,n.witnesses,()))=some (.inr (((),(),(),(),(),(),(),()),(fx x,z0,fy x,(n.epoch,n.primary,(),(),()),()),(l,m,S,x.sides,x.master.configs,x.places,n.replicas,n.witnesses,())))/\(b=false\/fa m (ly x S)=some (false,())))\/
  (tj (((),(),(),(),(),(),0,()),(fx x,z0,fy x,(n.epoch,n.primary,(),(),()),()),(l,m,S,x.sides,x.master.configs,x.places,n.replicas,n.witnesses,()))=some (.inl (((),(),6,(),(),(),(),()),(fx x,fy x,fy x,(n.epoch,n.primary,(),(),()),()),(l,m,S,x.sides,x.master.configs,x.places,n.replicas,n.witnesses,())))/\b=true/\fa m (ly x S)=some (true,())):=by
 have mm:m.length<=maxLen:=by unfold maxLen; omega
 have common: ∀k,(hk:k<m.length)-> ∃s:dX,iI (((),(),(),(),(),(),(k:Int),()),(fx x,z0,fy x,(n.epoch,n.primary,(),(),()),()),(l,m,S,x.sides,x.master.configs,x.places,n.replicas,n.witnesses,()))=(if (s.version==1&&b)=true then some (.inr (.inl (((),(),6,(),(),(),(),()),(fx x,fy x,fy x,(n.epoch,n.primary,(),(),()),()),(l,m,S,x.sides,x.master.configs,x.places,n.replicas,n.witnesses,())))) else some (.inl (((),(),(),(),(),(),((k+1:Nat):Int),()),(fx x,z0,fy x,(n.epoch,n.primary,(),(),()),()),(l,m,S,x.sides,x.master.configs,x.places,n.replicas,n.witnesses,()))))/\
   eJ ((m,(ly x S,()),(m.length:Int),(k:Int),()),(),())=(if (s.version==1)=true then some (.inr (.inl (((k:Int),()),(),()))) else some (.inl ((m,(ly x S,()),(m.length:Int),((k+1:Nat):Int),()),(),()))):=by
  intro k hk;have c1: (k:Int)< (m.length:Int):=by omega
  have c2: (0:Int)<=(k:Int)/\(k:Int)< (m.length:Int):=by omega
  have hz:=m4 _ (aW hk);generalize hzz:m[k] =z at hz;have hg:m[k]? =some z:=by rw[<-hzz]; exact ah hk
  obtain⟨s,s1,s2,_⟩:=sD ok vc hz;obtain⟨e,e1⟩:=se.srv _ _ s1;have e1':S[z.toNat]? =some (tz s e):=e1;refine⟨s,?_,?_⟩
  ·simp only[iI,fx,fy,z0,dV,dZ,if_pos c1,if_pos c2,ao,hg,ae,if_pos hz.1,s1,hb,ec mm hk];cases (s.version==1)<;>cases b<;>rfl
  ·simp only[eJ,qd,dV,dZ,if_pos c1,if_pos c2.1,ao,hg,ae,if_pos hz.1,e1',ec mm hk];cases (s.version==1)<;>rfl
 cases b with
 |false=>
  have gA:=gJ (B:=iI) m (fun k (_:Unit)=>(((),(),(),(),(),(),(k:Int),()),(fx x,z0,fy x,(n.epoch,n.primary,(),(),()),()),(l,m,S,x.sides,x.master.configs,x.places,n.replicas,n.witnesses,()))) (fun _ _=>True) (fun _ _ _=> .inr (((),(),(),(),(),(),(),()),(fx x,z0,fy x,(n.epoch,n.primary,(),(),()),()),(l,m,S,x.sides,x.master.configs,x.places,n.replicas,n.witnesses,())))
   (fun _ _=>by simp only[iI];rw[dV,if_neg (by omega)])
   (fun k _ z hz _=>by obtain⟨s,h1,_⟩:=common k (fR hz);exact .inl ⟨(),by rw[h1]; simp,trivial,rfl⟩)
   0 () (aF _) trivial
  exact .inl ⟨gA, .inl rfl⟩
 |true=>
  have gA:=lA (B1:=iI) (B2:=eJ) m.length (fun k=>(((),(),(),(),(),(),(k:Int),()),(fx x,z0,fy x,(n.epoch,n.primary,(),(),()),()),(l,m,S,x.sides,x.master.configs,x.places,n.replicas,n.witnesses,()))) (fun k=>((m,(ly x S,()),(m.length:Int),(k:Int),()),(),()))
   (.inr (((),(),(),(),(),(),(),()),(fx x,z0,fy x,(n.epoch,n.primary,(),(),()),()),(l,m,S,x.sides,x.master.configs,x.places,n.replicas,n.witnesses,()))) (.inr (((),()),(),()))
   (fun _=> .inl (((),(),6,(),(),(),(),()),(fx x,fy x,fy x,(n.epoch,n.primary,(),(),()),()),(l,m,S,x.sides,x.master.configs,x.places,n.replicas,n.witnesses,()))) (fun k=> .inl (((k:Int),()),(),()))
   (fun _=>True) (fun _=>True)
   (by simp only[iI]; rw[dV,if_neg (by omega)])
   (by simp only[eJ]; rw[dV,if_neg (by omega)])
   (fun k hk=>by
     obtain⟨s,h1,h2⟩:=common k hk;rw[h1,h2];cases (s.version==1) with
     |true=>exact .inr ⟨rfl,rfl,trivial⟩
     |false=>exact .inl ⟨rfl,rfl,trivial⟩)
  unfold fa gH;rcases gA with ⟨k1,k2,_⟩| ⟨k,_,k1,k2,_⟩
  ·refine .inl ⟨k1, .inr ?_⟩;rw[show ip ((m,(ly x S,()),(m.length:Int),0,()),(),())=_ from k2];rfl
  ·refine .inr ⟨k1,rfl,?_⟩;rw[show ip ((m,(ly x S,()),(m.length:Int),0,()),(),())=_ from k2];simp only[ae,b8];rw[decide_eq_true (by omega)]
end Go.Proofs.YtjnleglhcppgcaaGreat.En
