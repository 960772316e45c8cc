/- Valid clusters, on: servers, configurations in force, the whole. -/
import Derived.Test.YtjnleglhcppgcaaGreatZPV4
namespace Go.Proofs.YtjnleglhcppgcaaGreat.En
open Go
theorem gQ {c:dW} (h:gK 1048576 c):gK maxLen c:=⟨eR h.1,eR h.2⟩
theorem j5 {m:dY} (h:uF 1048576 m):uF maxLen m:=⟨eR h.1,fun c hc=>gQ (h.2 c hc)⟩
theorem uI (c:dW) (h:gK maxLen c):pL c=some (decide (c=⟨0,0,[],[]⟩),()):=by unfold pL;rw[(kg c _ h).1];rfl
theorem sW (s:dX) (id:Int) (h:gW 1048576 s):xn (ey s id) (jP s id):=by
 have hc:=gQ h.1;unfold ey jP;simp only[lV,nX,ae,fg];cases kE s.version 1 2 with
 |false=>exact⟨_,rfl,rfl⟩
 |true=>
 cases kE s.epoch 0 20 with
 |false=>exact⟨_,rfl,rfl⟩
 |true=>
 rcases vj s.log (eR h.2.1) with ⟨a1,a2,a3⟩| ⟨a1,a2⟩
 case inr=>simp only[a1,a2,ae,eb,ek]; exact⟨_,rfl,rfl⟩
 rcases vj s.learned (eR h.2.2) with ⟨b1,b2,b3⟩| ⟨b1,b2⟩
 case inr=>simp only[a1,a2,b1,b2,ae,eb,ek]; exact⟨_,rfl,rfl⟩
 simp only[a1,a2,b1,b2,ae,eb];cases hw:kE s.first 0 16 with
 |false=>exact⟨_,rfl,rfl⟩
 |true=>
 have hf:=fB.1 hw;rw[eK (n:=s.first+(s.log.length:Int)) (by omega) (by omega)];by_cases h16:s.first+(s.log.length:Int)<=16
 case neg=>
  have e1:kE (s.first+(s.log.length:Int)) 0 16=false:=by unfold kE; simp; omega
  simp only[e1,eb,ek,dV,if_pos (show s.first+(s.log.length:Int)>16 by omega)];exact⟨_,rfl,rfl⟩
 have e1:kE (s.first+(s.log.length:Int)) 0 16=true:=fB.2 ⟨by omega,h16⟩;simp only[e1,eb,dV,if_neg (show ¬s.first+(s.log.length:Int)>16 by omega),uI s.config hc,(kg s.config ⟨0,0,[],[]⟩ hc).2,ae];cases kE s.commit 0 (s.first+(s.log.length:Int)) with
 |false=>exact⟨_,rfl,rfl⟩
 |true=>
 simp only[eb];by_cases hz:s.config=⟨0,0,[],[]⟩
 ·simp only[if_pos hz];cases (s.first==0)<;>cases (s.commit==0)<;>cases ((s.log.length:Int)==0)<;>exact⟨_,rfl,rfl⟩
 ·simp only[if_neg hz];cases s.intact with
  |false=>exact⟨_,rfl,rfl⟩
  |true=>
  simp only[eb];by_cases he:s.epoch<s.config.epoch
  ·simp only[if_pos he];exact⟨_,rfl,rfl⟩
  ·simp only[if_neg he];obtain⟨n,n1,n2⟩:=ru s.log (eR h.2.1);simp only[n1,n2,ae];by_cases hn:n>s.config.epoch
   ·simp only[if_pos hn];exact⟨_,rfl,rfl⟩
   ·simp only[if_neg hn];obtain⟨r,r1,r2,r3⟩:=KX s.config id hc;simp only[r1,r2,ae];rcases r3 with rfl|rfl|rfl|rfl
    ·exact⟨_,rfl,rfl⟩
    ·exact⟨_,rfl,rfl⟩
    ·exact⟨_,rfl,rfl⟩
    ·have ht:sd s.first s.log=some (decide ((s.log.length:Int)<=3)&&((s.first==0)||((s.log.length:Int)==3)),()):=by
      unfold sd;simp only[a2,nX,ae,eb,dV];rw[eK (by omega) (by omega),show kE s.first 0 (16-(s.log.length:Int))=true from fB.2 ⟨by omega,by omega⟩];by_cases h3: (s.log.length:Int)<=3
      ·rw[if_pos h3,decide_eq_true h3];cases (s.first==0)<;>cases ((s.log.length:Int)==3)<;>rfl
      ·rw[if_neg h3,decide_eq_false h3];rfl
     rw[ht];by_cases h3: (s.log.length:Int)<=3
     ·rw[if_pos h3,decide_eq_true h3];cases (s.first==0)<;>cases ((s.log.length:Int)==3)<;>exact⟨_,rfl,rfl⟩
     ·rw[if_neg h3,decide_eq_false h3];exact⟨_,rfl,rfl⟩
theorem wq (m:dY) (e:Int) (h:uF 1048576 m): ∃c b,ko m e=some (c,b,())/\lE m e=some (c,b,())/\gK maxLen c:=by
 obtain⟨b,m1,m2⟩:=masterLog m (j5 h);have zero:gK maxLen ⟨0,0,[],[]⟩:=⟨aF _,aF _⟩
 have hl:=h.1;unfold ko lE;simp only[m1,m2,lV,nX,ae,fg];cases b with
 |false=>exact⟨_,_,rfl,rfl,zero⟩
 |true=>
  cases hw:kE e 1 (m.configs.length:Int) with
  |false=>exact⟨_,_,rfl,rfl,zero⟩
  |true=>
   have hw:=fB.1 hw;simp only[eb];rw[eK (n:=e-1) (by omega) (by omega)];have hlt: (e-1).toNat<m.configs.length:=by omega
   have hk:=h.2 _ (aW hlt)
   have copy: ∀c:dW,gK 1048576 c->j9 c=some (c,())/\gm c=some (c,()):=by intro c hc;unfold j9 gm;simp only[bi];rw[fL (jC hc.1),fL (jC hc.2)];exact⟨rfl,rfl⟩
   rw[fL (by omega),fL (by omega),ah hlt];simp only[ae,(copy _ hk).1,(copy _ hk).2];exact⟨_,_,rfl,rfl,gQ hk⟩
theorem iL (x:dT) (h:iq 1048576 x):xn (eg x) (fo x):=by
 obtain⟨⟨hs1,hs2⟩,hsd,hml,hpl⟩:=h;have hm:=eR hs1
 have gA:=lA (B1:=ej) (B2:=iA) x.servers.length (fun k=>(((),(k:Int),()),((x.now,x.servers,x.sides,x.master.configs,x.master.activated,x.masterUp,x.lease.epoch,x.lease.holder,x.lease.ends,x.places,()),()),())) (fun k=>(((),x.servers,(x.servers.length:Int),(k:Int),()),((x.now,x.servers,x.sides,x.master.configs,x.master.activated,x.masterUp,x.lease.epoch,x.lease.holder,x.lease.ends,x.places,()),()),())) (.inr (((),()),(),())) (.inr (((),()),(),())) (fun _=> .inl ((false,()),(),())) (fun _=> .inl ((false,()),(),()))
  (fun _=>True) (fun _=>True)
  (by simp only[ej]; rw[dV,if_neg (by omega)])
  (by simp only[iA]; rw[dV,if_neg (by omega)])
  (fun k hk=>by
    have c1: (k:Int)< (x.servers.length:Int):=by omega
    have c2: (0:Int)<=(k:Int):=by omega
    have hsk:=hs2 _ (aW hk);obtain⟨b,v1,v2⟩:=sW x.servers[k] (k:Int) hsk;obtain⟨n,n1,n2⟩:=ru x.servers[k].learned (eR hsk.2.2);obtain⟨c,d,d1,d2,d3⟩:=wq x.master x.servers[k].config.epoch hml;have hcfg:=gQ hsk.1
    simp only[ej,iA,dV,dZ,if_pos c1,if_pos c2,ao,ah hk,ae,v1,v2,n1,n2,ec hm hk,fg,
     show (⟨x.master.configs,x.master.activated⟩:dY)=x.master from rfl,d1,d2,uI _ hcfg,(kg _ (⟨0,0,[],[]⟩:dW) hcfg).2,(kg c x.servers[k].config d3).1,(kg c x.servers[k].config d3).2]
    cases b with
    |false=>exact .inr ⟨rfl,rfl,trivial⟩
    |true=>
     simp only[eb];by_cases h1:x.servers[k].epoch>(x.master.configs.length:Int)
     ·simp only[if_pos h1];exact .inr ⟨trivial,trivial,trivial⟩
     ·simp only[if_neg h1];by_cases h2:n>x.master.activated
      ·simp only[if_pos h2];exact .inr ⟨trivial,trivial,trivial⟩
      ·simp only[if_neg h2];by_cases h3:x.servers[k].config=⟨0,0,[],[]⟩
       ·simp only[if_pos h3];exact .inl ⟨trivial,trivial,trivial⟩
       ·simp only[if_neg h3];cases d with
        |false=>exact .inr ⟨rfl,rfl,trivial⟩
        |true=>
         simp only[eb];by_cases h4:c=x.servers[k].config
         ·simp only[if_pos h4];by_cases h5:x.servers[k].config.epoch>x.master.activated
          ·simp only[if_pos h5];exact .inr ⟨trivial,trivial,trivial⟩
          ·simp only[if_neg h5];exact .inl ⟨trivial,trivial,trivial⟩
         ·simp only[if_neg h4];exact .inr ⟨trivial,trivial,trivial⟩)
 unfold eg fo;obtain⟨b1,a1,a2⟩:=wo x.sides (eR hsd);obtain⟨b2,m1,m2⟩:=masterLog x.master (j5 hml);obtain⟨b3,l1,l2⟩:=wZ x.lease;obtain⟨b4,p1,p2⟩:=pX x.places (eR hpl);simp only[lV,nX,a1,a2,m1,m2,l1,l2,p1,p2,ae,fg,dV];cases kE x.now 0 999 with
 |false=>exact⟨_,rfl,rfl⟩
 |true=>
 cases ((x.servers.length:Int)==5) with
 |false=>exact⟨_,rfl,rfl⟩
 |true=>
 cases b1 with
 |false=>exact⟨_,rfl,rfl⟩
 |true=>
 cases b2 with
 |false=>exact⟨_,rfl,rfl⟩
 |true=>
 cases kE x.masterUp 0 3 with
 |false=>cases b3<;>cases b4<;>exact⟨_,rfl,rfl⟩
 |true=>
 cases b3 with
 |false=>exact⟨_,rfl,rfl⟩
 |true=>
 cases b4 with
 |false=>exact⟨_,rfl,rfl⟩
 |true=>
 simp only[eb];by_cases h1:x.lease.epoch>x.master.activated
 ·simp only[if_pos h1];exact⟨_,rfl,rfl⟩
 ·simp only[if_neg h1];rcases gA with ⟨k1,k2,_⟩| ⟨k,_,k1,k2,_⟩
  ·rw[show iv (((),0,()),((x.now,x.servers,x.sides,x.master.configs,x.master.activated,x.masterUp,x.lease.epoch,x.lease.holder,x.lease.ends,x.places,()),()),())=_ from k1,show oh (((),x.servers,(x.servers.length:Int),0,()),((x.now,x.servers,x.sides,x.master.configs,x.master.activated,x.masterUp,x.lease.epoch,x.lease.holder,x.lease.ends,x.places,()),()),())=_ from k2];exact⟨_,rfl,rfl⟩
  ·rw[show iv (((),0,()),((x.now,x.servers,x.sides,x.master.configs,x.master.activated,x.masterUp,x.lease.epoch,x.lease.holder,x.lease.ends,x.places,()),()),())=_ from k1,show oh (((),x.servers,(x.servers.length:Int),0,()),((x.now,x.servers,x.sides,x.master.configs,x.master.activated,x.masterUp,x.lease.epoch,x.lease.holder,x.lease.ends,x.places,()),()),())=_ from k2];exact⟨_,rfl,rfl⟩
end Go.Proofs.YtjnleglhcppgcaaGreat.En
