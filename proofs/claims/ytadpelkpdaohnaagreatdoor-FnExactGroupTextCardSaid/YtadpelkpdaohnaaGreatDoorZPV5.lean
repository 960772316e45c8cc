/- Valid clusters, on: servers, configurations in force, the whole. -/
import Derived.Test.YtadpelkpdaohnaaGreatDoorZPV4
namespace Go.Proofs.YtadpelkpdaohnaaGreatDoor.En
open Go
theorem jw {c:dM} (h:gX 1048576 c):gX maxLen c:=⟨gx h.1,gx h.2⟩
theorem k9 {m:ec} (h:tY 1048576 m):tY maxLen m:=⟨gx h.1,fun c hc=>jw (h.2 c hc)⟩
theorem zd (c:dM) (h:gX maxLen c):mo c=some (decide (c=⟨0,0,[],[]⟩),()):=by unfold mo;rw[(iQ c _ h).1];rfl
theorem pK (s:eL) (id:Int) (h:ne 1048576 s):tD (fj s id) (gG s id):=by
 have hc:=jw h.1;unfold fj gG;simp only[qg,rk,af,i5];cases oO s.version 1 2 with
 |false=>exact⟨_,rfl,rfl⟩
 |true=>
 cases oO s.epoch 0 20 with
 |false=>exact⟨_,rfl,rfl⟩
 |true=>
 rcases IH s.log (gx h.2.1) with ⟨a1,a2,a3⟩| ⟨a1,a2⟩
 case inr=>simp only[a1,a2,af,ey,eu]; exact⟨_,rfl,rfl⟩
 rcases IH s.learned (gx h.2.2) with ⟨b1,b2,b3⟩| ⟨b1,b2⟩
 case inr=>simp only[a1,a2,b1,b2,af,ey,eu]; exact⟨_,rfl,rfl⟩
 simp only[a1,a2,b1,b2,af,ey];cases hw:oO s.first 0 16 with
 |false=>exact⟨_,rfl,rfl⟩
 |true=>
 have hf:=iP.1 hw;rw[fY (n:=s.first+(s.log.length:Int)) (by omega) (by omega)];by_cases h16:s.first+(s.log.length:Int)<=16
 case neg=>
  have e1:oO (s.first+(s.log.length:Int)) 0 16=false:=by unfold oO; simp; omega
  simp only[e1,ey,eu,dI,if_pos (show s.first+(s.log.length:Int)>16 by omega)];exact⟨_,rfl,rfl⟩
 have e1:oO (s.first+(s.log.length:Int)) 0 16=true:=iP.2 ⟨by omega,h16⟩;simp only[e1,ey,dI,if_neg (show ¬s.first+(s.log.length:Int)>16 by omega),zd s.config hc,(iQ s.config ⟨0,0,[],[]⟩ hc).2,af];cases oO s.commit 0 (s.first+(s.log.length:Int)) with
 |false=>exact⟨_,rfl,rfl⟩
 |true=>
 simp only[ey];by_cases hz:s.config=⟨0,0,[],[]⟩
 ·simp only[if_pos hz];cases (s.first==0)<;>cases (s.commit==0)<;>cases ((s.log.length:Int)==0)<;>exact⟨_,rfl,rfl⟩
 ·simp only[if_neg hz];cases s.intact with
  |false=>exact⟨_,rfl,rfl⟩
  |true=>
  simp only[ey];by_cases he:s.epoch<s.config.epoch
  ·simp only[if_pos he];exact⟨_,rfl,rfl⟩
  ·simp only[if_neg he];obtain⟨n,n1,n2⟩:=s7 s.log (gx h.2.1);simp only[n1,n2,af];by_cases hn:n>s.config.epoch
   ·simp only[if_pos hn];exact⟨_,rfl,rfl⟩
   ·simp only[if_neg hn];obtain⟨r,r1,r2,r3⟩:=GG s.config id hc;simp only[r1,r2,af];rcases r3 with rfl|rfl|rfl|rfl
    ·exact⟨_,rfl,rfl⟩
    ·exact⟨_,rfl,rfl⟩
    ·exact⟨_,rfl,rfl⟩
    ·have ht:pH s.first s.log=some (decide ((s.log.length:Int)<=3)&&((s.first==0)||((s.log.length:Int)==3)),()):=by
      unfold pH;simp only[a2,rk,af,ey,dI];rw[fY (by omega) (by omega),show oO s.first 0 (16-(s.log.length:Int))=true from iP.2 ⟨by omega,by omega⟩];by_cases h3: (s.log.length:Int)<=3
      ·rw[if_pos h3,decide_eq_true h3];cases (s.first==0)<;>cases ((s.log.length:Int)==3)<;>rfl
      ·rw[if_neg h3,decide_eq_false h3];rfl
     rw[ht];by_cases h3: (s.log.length:Int)<=3
     ·rw[if_pos h3,decide_eq_true h3];cases (s.first==0)<;>cases ((s.log.length:Int)==3)<;>exact⟨_,rfl,rfl⟩
     ·rw[if_neg h3,decide_eq_false h3];exact⟨_,rfl,rfl⟩
theorem vU (m:ec) (e:Int) (h:tY 1048576 m): ∃c b,jn m e=some (c,b,())/\jr m e=some (c,b,())/\gX maxLen c:=by
 obtain⟨b,m1,m2⟩:=masterLog m (k9 h);have zero:gX maxLen ⟨0,0,[],[]⟩:=⟨ba _,ba _⟩
 have hl:=h.1;unfold jn jr;simp only[m1,m2,qg,rk,af,i5];cases b with
 |false=>exact⟨_,_,rfl,rfl,zero⟩
 |true=>
  cases hw:oO e 1 (m.configs.length:Int) with
  |false=>exact⟨_,_,rfl,rfl,zero⟩
  |true=>
   have hw:=iP.1 hw;simp only[ey];rw[fY (n:=e-1) (by omega) (by omega)];have hlt: (e-1).toNat<m.configs.length:=by omega
   have hk:=h.2 _ (bF hlt)
   have copy: ∀c:dM,gX 1048576 c->mQ c=some (c,())/\iM c=some (c,()):=by intro c hc;unfold mQ iM;simp only[bB];rw[eP (jG hc.1),eP (jG hc.2)];exact⟨rfl,rfl⟩
   rw[eP (by omega),eP (by omega),ah hlt];simp only[af,(copy _ hk).1,(copy _ hk).2];exact⟨_,_,rfl,rfl,jw hk⟩
theorem sb (x:dX) (h:o5 1048576 x):tD (fb x) (gi x):=by
 obtain⟨⟨hs1,hs2⟩,hsd,hml,hpl⟩:=h;have hm:=gx hs1
 have fG:=kC (B1:=ed) (B2:=fK) x.servers.length (fun k=>(((),(k:Int),()),((x.now,x.servers,x.sides,x.master.configs,x.master.activated,x.masterUp,x.lease.epoch,x.lease.holder,x.lease.ends,x.places,()),()),())) (fun k=>(((),x.servers,(x.servers.length:Int),(k:Int),()),((x.now,x.servers,x.sides,x.master.configs,x.master.activated,x.masterUp,x.lease.epoch,x.lease.holder,x.lease.ends,x.places,()),()),())) (.inr (((),()),(),())) (.inr (((),()),(),())) (fun _=> .inl ((false,()),(),())) (fun _=> .inl ((false,()),(),()))
  (fun _=>True) (fun _=>True)
  (by simp only[ed]; rw[dI,if_neg (by omega)])
  (by simp only[fK]; rw[dI,if_neg (by omega)])
  (fun k hk=>by
    have c1: (k:Int)< (x.servers.length:Int):=by omega
    have c2: (0:Int)<=(k:Int):=by omega
    have hsk:=hs2 _ (bF hk);obtain⟨b,v1,v2⟩:=pK x.servers[k] (k:Int) hsk;obtain⟨n,n1,n2⟩:=s7 x.servers[k].learned (gx hsk.2.2);obtain⟨c,d,d1,d2,d3⟩:=vU x.master x.servers[k].config.epoch hml;have hcfg:=jw hsk.1
    simp only[ed,fK,dI,ea,if_pos c1,if_pos c2,aA,ah hk,af,v1,v2,n1,n2,dT hm hk,i5,
     show (⟨x.master.configs,x.master.activated⟩:ec)=x.master from rfl,d1,d2,zd _ hcfg,(iQ _ (⟨0,0,[],[]⟩:dM) hcfg).2,(iQ c x.servers[k].config d3).1,(iQ c x.servers[k].config d3).2]
    cases b with
    |false=>exact .inr ⟨rfl,rfl,trivial⟩
    |true=>
     simp only[ey];by_cases h1:x.servers[k].epoch>(x.master.configs.length:Int)
     ·simp only[if_pos h1];exact .inr ⟨trivial,trivial,trivial⟩
     ·simp only[if_neg h1];by_cases h2:n>x.master.activated
      ·simp only[if_pos h2];exact .inr ⟨trivial,trivial,trivial⟩
      ·simp only[if_neg h2];by_cases h3:x.servers[k].config=⟨0,0,[],[]⟩
       ·simp only[if_pos h3];exact .inl ⟨trivial,trivial,trivial⟩
       ·simp only[if_neg h3];cases d with
        |false=>exact .inr ⟨rfl,rfl,trivial⟩
        |true=>
         simp only[ey];by_cases h4:c=x.servers[k].config
         ·simp only[if_pos h4];by_cases h5:x.servers[k].config.epoch>x.master.activated
          ·simp only[if_pos h5];exact .inr ⟨trivial,trivial,trivial⟩
          ·simp only[if_neg h5];exact .inl ⟨trivial,trivial,trivial⟩
         ·simp only[if_neg h4];exact .inr ⟨trivial,trivial,trivial⟩)
 unfold fb gi;obtain⟨b1,a1,a2⟩:=sa x.sides (gx hsd);obtain⟨b2,m1,m2⟩:=masterLog x.master (k9 hml);obtain⟨b3,l1,l2⟩:=Dy x.lease;obtain⟨b4,p1,p2⟩:=xH x.places (gx hpl);simp only[qg,rk,a1,a2,m1,m2,l1,l2,p1,p2,af,i5,dI];cases oO x.now 0 999 with
 |false=>exact⟨_,rfl,rfl⟩
 |true=>
 cases ((x.servers.length:Int)==5) with
 |false=>exact⟨_,rfl,rfl⟩
 |true=>
 cases b1 with
 |false=>exact⟨_,rfl,rfl⟩
 |true=>
 cases b2 with
 |false=>exact⟨_,rfl,rfl⟩
 |true=>
 cases oO x.masterUp 0 3 with
 |false=>cases b3<;>cases b4<;>exact⟨_,rfl,rfl⟩
 |true=>
 cases b3 with
 |false=>exact⟨_,rfl,rfl⟩
 |true=>
 cases b4 with
 |false=>exact⟨_,rfl,rfl⟩
 |true=>
 simp only[ey];by_cases h1:x.lease.epoch>x.master.activated
 ·simp only[if_pos h1];exact⟨_,rfl,rfl⟩
 ·simp only[if_neg h1];rcases fG with ⟨k1,k2,_⟩| ⟨k,_,k1,k2,_⟩
  ·rw[show iK (((),0,()),((x.now,x.servers,x.sides,x.master.configs,x.master.activated,x.masterUp,x.lease.epoch,x.lease.holder,x.lease.ends,x.places,()),()),())=_ from k1,show kh (((),x.servers,(x.servers.length:Int),0,()),((x.now,x.servers,x.sides,x.master.configs,x.master.activated,x.masterUp,x.lease.epoch,x.lease.holder,x.lease.ends,x.places,()),()),())=_ from k2];exact⟨_,rfl,rfl⟩
  ·rw[show iK (((),0,()),((x.now,x.servers,x.sides,x.master.configs,x.master.activated,x.masterUp,x.lease.epoch,x.lease.holder,x.lease.ends,x.places,()),()),())=_ from k1,show kh (((),x.servers,(x.servers.length:Int),0,()),((x.now,x.servers,x.sides,x.master.configs,x.master.activated,x.masterUp,x.lease.epoch,x.lease.holder,x.lease.ends,x.places,()),()),())=_ from k2];exact⟨_,rfl,rfl⟩
end Go.Proofs.YtadpelkpdaohnaaGreatDoor.En
