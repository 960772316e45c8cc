/- Activation: the plain law. -/
import Derived.Test.YtkcgfceffffmoaaGreatZPSeal
namespace Go.Proofs.YtkcgfceffffmoaaGreat.En
open Go
abbrev z0:Int×Unit×Unit×Unit×Int×Int×Int×Int×Int×Unit×Unit:=(0,(),(),(),0,0,0,0,0,(),())
abbrev fy (x:dV):Int×Unit×Unit×Unit×Int×Int×Int×Int×Int×Unit×Unit:=(x.now,(),(),(),x.master.activated,x.masterUp,x.lease.epoch,x.lease.holder,x.lease.ends,(),())
theorem akQ (x:dV) (S:List eb) (hS:S.length=5/\ ∀ s∈S,nX 1048576 s) (n:dW) (hn:nm 1048576 n) (l:List ed) (hl:l.length<=1048576) (m:List Int) (m3:m.length<=10) (m4: ∀ y∈m,0<=y/\y < 5): ∃ T,(T.length=5/\ ∀ s∈T,nX 1048576 s)/\
  DI (((),(),(),(),(),(),0,()),(fx x,z0,fy x,(n.epoch,n.primary,(),(),()),()),(l,m,S,x.sides,x.master.configs,x.places,n.replicas,n.witnesses,()))=some (((),(),(),(),()),(fx x,z0,fy x,(n.epoch,n.primary,(),(),()),()),(T,x.sides,x.master.configs,x.places,n.replicas,n.witnesses,()))/\
  zZ (((),(),(),(),(),(m.length:Int),0,()),(z0,(n.epoch,n.primary,(),(),()),fy x,()),(l,m,n.replicas,n.witnesses,S,x.sides,x.master.configs,x.places,()))=some (((),(),(),()),(z0,(n.epoch,n.primary,(),(),()),fy x,()),(n.replicas,n.witnesses,T,x.sides,x.master.configs,x.places,())):=by
 have mm:m.length<=maxLen:=by unfold maxLen; omega
 refine Hn (B1:=mO) (B2:=mS) m.length (fun k (S:List eb)=>(((),(),(),(),(),(),(k:Int),()),(fx x,z0,fy x,(n.epoch,n.primary,(),(),()),()),(l,m,S,x.sides,x.master.configs,x.places,n.replicas,n.witnesses,()))) (fun k S=>(((),(),(),(),(),(m.length:Int),(k:Int),()),(z0,(n.epoch,n.primary,(),(),()),fy x,()),(l,m,n.replicas,n.witnesses,S,x.sides,x.master.configs,x.places,()))) (fun _ S=>S.length=5/\ ∀ s∈S,nX 1048576 s)
  (fun T=>(((),(),(),(),()),(fx x,z0,fy x,(n.epoch,n.primary,(),(),()),()),(T,x.sides,x.master.configs,x.places,n.replicas,n.witnesses,()))) (fun T=>(((),(),(),()),(z0,(n.epoch,n.primary,(),(),()),fy x,()),(n.replicas,n.witnesses,T,x.sides,x.master.configs,x.places,())))
  (fun S _=> ?_) (fun k S hk hS=> ?_) S hS
 ·simp only [mO,xk,Cc,mS,xP,CQ,ec];exact⟨if_neg (by omega),if_neg (by omega)⟩
 ·have c1: (k:Int) < (m.length:Int):=by omega
  have c2: (0:Int)<=(k:Int)/\(k:Int) < (m.length:Int):=by omega
  have hz:=m4 _ (bc hk);generalize hzz:m[k] =z at hz;have hg:m[k]? =some z:=by rw [<-hzz]; exact ai hk
  have hlt:z.toNat < S.length:=by rw [hS.1]; omega
  have c3:0<=z/\z < (S.length:Int):=by rw [hS.1]; omega
  have s1:S[z.toNat]? =some S[z.toNat] :=ai hlt;have s2:=hS.2 _ (bc hlt);generalize S[z.toNat] =s at s1 s2;obtain⟨r,b,r1,r2,r3,_⟩:=adc s n z l s2 hn hl;simp only [mO,xk,Cc,mS,xP,CQ,fx,fy,z0,ec,ez,if_pos c1,if_pos c2,aw,hg,ae,if_pos c3,s1,aY,aE,if_true,bM,bg,r1,r2,eB mm hk];refine⟨S.set z.toNat r,rfl,rfl,by simp [hS.1],fun t ht=> ?_⟩;rcases cS ht with h | h
  ·exact hS.2 t h
  ·rw [h]; exact r3
theorem apc (x:dV) (ok:pg 1048576 x) (vc:VC x) (S:List eb) (ok':pg 1048576 (uf x S)) (vc':VC (uf x S)) (se:Sea x (uf x S)) (n:dW) (l:List ed) (m:List Int) (m3:m.length<=10) (m4: ∀ y∈m,0<=y/\y < 5):
  (zA (((),(),(),(),(),(),0,()),(fx x,z0,fy x,(n.epoch,n.primary,(),(),()),()),(l,m,S,x.sides,x.master.configs,x.places,n.replicas,n.witnesses,()))=some (.inr (((),(),(),(),(),(),(),()),(fx x,z0,fy x,(n.epoch,n.primary,(),(),()),()),(l,m,S,x.sides,x.master.configs,x.places,n.replicas,n.witnesses,())))/\fK m (uf x S)=some (false,()))\/
  (zA (((),(),(),(),(),(),0,()),(fx x,z0,fy x,(n.epoch,n.primary,(),(),()),()),(l,m,S,x.sides,x.master.configs,x.places,n.replicas,n.witnesses,()))=some (.inl (((),(),10,(),(),(),(),()),(fx x,fy x,fy x,(n.epoch,n.primary,(),(),()),()),(l,m,S,x.sides,x.master.configs,x.places,n.replicas,n.witnesses,())))/\fK m (uf x S)=some (true,())):=by
 have mm:m.length<=maxLen:=by unfold maxLen; omega
 have hsl:=Gy (gJ ok.2.1) vc.sides;have hsl':=Gy (gJ ok'.2.1) vc'.sides
 have fC:=ug (B1:=mN) (B2:=ft) m.length (fun k=>(((),(),(),(),(),(),(k:Int),()),(fx x,z0,fy x,(n.epoch,n.primary,(),(),()),()),(l,m,S,x.sides,x.master.configs,x.places,n.replicas,n.witnesses,()))) (fun k=>((m,(uf x S,()),(m.length:Int),(k:Int),()),(),()))
  (.inr (((),(),(),(),(),(),(),()),(fx x,z0,fy x,(n.epoch,n.primary,(),(),()),()),(l,m,S,x.sides,x.master.configs,x.places,n.replicas,n.witnesses,()))) (.inr (((),()),(),()))
  (fun _=> .inl (((),(),10,(),(),(),(),()),(fx x,fy x,fy x,(n.epoch,n.primary,(),(),()),()),(l,m,S,x.sides,x.master.configs,x.places,n.replicas,n.witnesses,()))) (fun k=> .inl (((k:Int),()),(),()))
  (fun _=>True) (fun _=>True)
  (by simp only [mN,xi,Cb]; rw [ec,if_neg (by omega)])
  (by simp only [ft,ja,kM]; rw [ec,if_neg (by omega)])
  (fun k hk=>by
    have c1: (k:Int) < (m.length:Int):=by omega
    have c2: (0:Int)<=(k:Int)/\(k:Int) < (m.length:Int):=by omega
    have hz:=m4 _ (bc hk);generalize hzz:m[k] =z at hz;have hg:m[k]? =some z:=by rw [<-hzz]; exact ai hk
    obtain⟨s,s1,s2,_⟩:=Gz ok vc hz;obtain⟨e,e1⟩:=se.srv _ _ s1;have hside:z.toNat < x.sides.length:=by omega
    have d1:x.sides[z.toNat]? =some x.sides[z.toNat] :=ai hside
    have hu:so z (uf x S)=some (!(s.up&&(x.sides[z.toNat] ==0)),()):=by
     have e1':S[z.toNat]? =some (HO s e):=e1;unfold so CJ sg Ek;simp only [ez,if_pos hz.1,e1',ae,d1];cases s.up <;> rfl
    simp only [mN,xi,Cb,ft,ja,kM,fx,fy,z0,ec,iq,ez,if_pos c1,if_pos c2,if_pos c2.1,aw,hg,ae,if_pos hz.1,s1,d1,hu,eB mm hk];cases s.up with
    | false=>exact .inr ⟨rfl,rfl,trivial⟩
    | true=>
      cases (x.sides[z.toNat] ==0) with
      | false=>exact .inr ⟨rfl,rfl,trivial⟩
      | true=>exact .inl ⟨rfl,rfl,trivial⟩)
 unfold fK ko iM lL;rcases fC with ⟨k1,k2,_⟩ | ⟨k,_,k1,k2,_⟩
 ·refine .inl ⟨k1,?_⟩;rw [show jr ((m,(uf x S,()),(m.length:Int),0,()),(),())=_ from k2];rfl
 ·refine .inr ⟨k1,?_⟩;rw [show jr ((m,(uf x S,()),(m.length:Int),0,()),(),())=_ from k2];simp only [ae,aA];rw [decide_eq_true (by omega)]
theorem akR (x:dV) (ok:pg 1048576 x) (vc:VC x) (S:List eb) (se:Sea x (uf x S)) (n:dW) (l:List ed) (m:List Int) (m3:m.length<=10) (m4: ∀ y∈m,0<=y/\y < 5) {b:Bool} (hb:nc l=some (b,())):
  (zB (((),(),(),(),(),(),0,()),(fx x,z0,fy x,(n.epoch,n.primary,(),(),()),()),(l,m,S,x.sides,x.master.configs,x.places,n.replicas,n.witnesses,()))=some (.inr (((),(),(),(),(),(),(),()),(fx x,z0,fy x,(n.epoch,n.primary,(),(),()),()),(l,m,S,x.sides,x.master.configs,x.places,n.replicas,n.witnesses,())))/\(b=false\/fL m (uf x S)=some (false,())))\/
  (zB (((),(),(),(),(),(),0,()),(fx x,z0,fy x,(n.epoch,n.primary,(),(),()),()),(l,m,S,x.sides,x.master.configs,x.places,n.replicas,n.witnesses,()))=some (.inl (((),(),6,(),(),(),(),()),(fx x,fy x,fy x,(n.epoch,n.primary,(),(),()),()),(l,m,S,x.sides,x.master.configs,x.places,n.replicas,n.witnesses,())))/\b=true/\fL m (uf x S)=some (true,())):=by
 have mm:m.length<=maxLen:=by unfold maxLen; omega
 have common: ∀ k,(hk:k < m.length)-> ∃ s:eb,ky (((),(),(),(),(),(),(k:Int),()),(fx x,z0,fy x,(n.epoch,n.primary,(),(),()),()),(l,m,S,x.sides,x.master.configs,x.places,n.replicas,n.witnesses,()))=(if (s.version==1&&b)=true then some (.inr (.inl (((),(),6,(),(),(),(),()),(fx x,fy x,fy x,(n.epoch,n.primary,(),(),()),()),(l,m,S,x.sides,x.master.configs,x.places,n.replicas,n.witnesses,())))) else some (.inl (((),(),(),(),(),(),((k+1:Nat):Int),()),(fx x,z0,fy x,(n.epoch,n.primary,(),(),()),()),(l,m,S,x.sides,x.master.configs,x.places,n.replicas,n.witnesses,()))))/\
   fj ((m,(uf x S,()),(m.length:Int),(k:Int),()),(),())=(if (s.version==1)=true then some (.inr (.inl (((k:Int),()),(),()))) else some (.inl ((m,(uf x S,()),(m.length:Int),((k+1:Nat):Int),()),(),()))):=by
  intro k hk;have c1: (k:Int) < (m.length:Int):=by omega
  have c2: (0:Int)<=(k:Int)/\(k:Int) < (m.length:Int):=by omega
  have hz:=m4 _ (bc hk);generalize hzz:m[k] =z at hz;have hg:m[k]? =some z:=by rw [<-hzz]; exact ai hk
  obtain⟨s,s1,s2,_⟩:=Gz ok vc hz;obtain⟨e,e1⟩:=se.srv _ _ s1;have e1':S[z.toNat]? =some (HO s e):=e1;refine⟨s,?_,?_⟩
  ·simp only [ky,tp,xj,fx,fy,z0,ec,ez,if_pos c1,if_pos c2,aw,hg,ae,if_pos hz.1,s1,hb,eB mm hk];cases (s.version==1) <;> cases b <;> rfl
  ·simp only [fj,jc,kN,vJ,CN,ec,ez,if_pos c1,if_pos c2.1,aw,hg,ae,if_pos hz.1,e1',eB mm hk];cases (s.version==1) <;> rfl
 cases b with
 | false=>
   have fC:=mU (B:=ky) m (fun k (_:Unit)=>(((),(),(),(),(),(),(k:Int),()),(fx x,z0,fy x,(n.epoch,n.primary,(),(),()),()),(l,m,S,x.sides,x.master.configs,x.places,n.replicas,n.witnesses,()))) (fun _ _=>True) (fun _ _ _=> .inr (((),(),(),(),(),(),(),()),(fx x,z0,fy x,(n.epoch,n.primary,(),(),()),()),(l,m,S,x.sides,x.master.configs,x.places,n.replicas,n.witnesses,())))
    (fun _ _=>by
      simp only [ky,tp,xj];rw [ec,if_neg (by omega)])
    (fun k _ z hz _=>by
      obtain⟨s,h1,_⟩:=common k (nG hz);exact .inl ⟨(),by rw [h1]; simp,trivial,rfl⟩)
    0 () (aK _) trivial
   exact .inl ⟨fC, .inl rfl⟩
 | true=>
   have fC:=ug (B1:=ky) (B2:=fj) m.length (fun k=>(((),(),(),(),(),(),(k:Int),()),(fx x,z0,fy x,(n.epoch,n.primary,(),(),()),()),(l,m,S,x.sides,x.master.configs,x.places,n.replicas,n.witnesses,()))) (fun k=>((m,(uf x S,()),(m.length:Int),(k:Int),()),(),()))
    (.inr (((),(),(),(),(),(),(),()),(fx x,z0,fy x,(n.epoch,n.primary,(),(),()),()),(l,m,S,x.sides,x.master.configs,x.places,n.replicas,n.witnesses,()))) (.inr (((),()),(),()))
    (fun _=> .inl (((),(),6,(),(),(),(),()),(fx x,fy x,fy x,(n.epoch,n.primary,(),(),()),()),(l,m,S,x.sides,x.master.configs,x.places,n.replicas,n.witnesses,()))) (fun k=> .inl (((k:Int),()),(),()))
    (fun _=>True) (fun _=>True)
    (by simp only [ky,tp,xj]; rw [ec,if_neg (by omega)])
    (by simp only [fj,jc,kN]; rw [ec,if_neg (by omega)])
    (fun k hk=>by
      obtain⟨s,h1,h2⟩:=common k hk;rw [h1,h2];cases (s.version==1) with
      | true=>exact .inr ⟨rfl,rfl,trivial⟩
      | false=>exact .inl ⟨rfl,rfl,trivial⟩)
   unfold fL kp iO lM;rcases fC with ⟨k1,k2,_⟩ | ⟨k,_,k1,k2,_⟩
   ·refine .inl ⟨k1, .inr ?_⟩;rw [show jt ((m,(uf x S,()),(m.length:Int),0,()),(),())=_ from k2];rfl
   ·refine .inr ⟨k1,rfl,?_⟩;rw [show jt ((m,(uf x S,()),(m.length:Int),0,()),(),())=_ from k2];simp only [ae,aA];rw [decide_eq_true (by omega)]
end Go.Proofs.YtkcgfceffffmoaaGreat.En
