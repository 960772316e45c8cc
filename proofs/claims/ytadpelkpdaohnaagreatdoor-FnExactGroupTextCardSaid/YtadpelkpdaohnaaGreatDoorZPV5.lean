/- Valid clusters, on: servers, configurations in force, the whole. -/
import Derived.Test.YtadpelkpdaohnaaGreatDoorZPV4
namespace Go.Proofs.YtadpelkpdaohnaaGreatDoor.En
open Go
theorem jd {c:dM} (h:gE 1048576 c):gE maxLen c:=⟨gk h.1,gk h.2⟩
theorem kA {m:dZ} (h:sW 1048576 m):sW maxLen m:=⟨gk h.1,fun c hc=>jd (h.2 c hc)⟩
theorem xM (c:dM) (h:gE maxLen c):lM c=some (decide (c=⟨0,0,[],[]⟩),()):=by unfold lM;rw[(iu c _ h).1];rfl
theorem o2 (s:eK) (id:Int) (h:mr 1048576 s):sC (fe s id) (iB s id):=by
 have hc:=jd h.1;unfold fe iB;simp only[pv,qw,af,iJ];cases n6 s.version 1 2 with
 |false=>exact⟨_,rfl,rfl⟩
 |true=>
 cases n6 s.epoch 0 20 with
 |false=>exact⟨_,rfl,rfl⟩
 |true=>
 rcases Hd s.log (gk h.2.1) with ⟨a1,a2,a3⟩| ⟨a1,a2⟩
 case inr=>simp only[a1,a2,af,eu,en]; exact⟨_,rfl,rfl⟩
 rcases Hd s.learned (gk h.2.2) with ⟨b1,b2,b3⟩| ⟨b1,b2⟩
 case inr=>simp only[a1,a2,b1,b2,af,eu,en]; exact⟨_,rfl,rfl⟩
 simp only[a1,a2,b1,b2,af,eu];cases hw:n6 s.first 0 16 with
 |false=>exact⟨_,rfl,rfl⟩
 |true=>
 have hf:=it.1 hw;rw[fQ (n:=s.first+(s.log.length:Int)) (by omega) (by omega)];by_cases h16:s.first+(s.log.length:Int)<=16
 case neg=>
  have e1:n6 (s.first+(s.log.length:Int)) 0 16=false:=by unfold n6; simp; omega
  simp only[e1,eu,en,dH,if_pos (show s.first+(s.log.length:Int)>16 by omega)];exact⟨_,rfl,rfl⟩
 have e1:n6 (s.first+(s.log.length:Int)) 0 16=true:=it.2 ⟨by omega,h16⟩;simp only[e1,eu,dH,if_neg (show ¬s.first+(s.log.length:Int)>16 by omega),xM s.config hc,(iu s.config ⟨0,0,[],[]⟩ hc).2,af];cases n6 s.commit 0 (s.first+(s.log.length:Int)) with
 |false=>exact⟨_,rfl,rfl⟩
 |true=>
 simp only[eu];by_cases hz:s.config=⟨0,0,[],[]⟩
 ·simp only[if_pos hz];cases (s.first==0)<;>cases (s.commit==0)<;>cases ((s.log.length:Int)==0)<;>exact⟨_,rfl,rfl⟩
 ·simp only[if_neg hz];cases s.intact with
  |false=>exact⟨_,rfl,rfl⟩
  |true=>
  simp only[eu];by_cases he:s.epoch<s.config.epoch
  ·simp only[if_pos he];exact⟨_,rfl,rfl⟩
  ·simp only[if_neg he];obtain⟨n,n1,n2⟩:=rY s.log (gk h.2.1);simp only[n1,n2,af];by_cases hn:n>s.config.epoch
   ·simp only[if_pos hn];exact⟨_,rfl,rfl⟩
   ·simp only[if_neg hn];obtain⟨r,r1,r2,r3⟩:=Fl s.config id hc;simp only[r1,r2,af];rcases r3 with rfl|rfl|rfl|rfl
    ·exact⟨_,rfl,rfl⟩
    ·exact⟨_,rfl,rfl⟩
    ·exact⟨_,rfl,rfl⟩
    ·have ht:o0 s.first s.log=some (decide ((s.log.length:Int)<=3)&&((s.first==0)||((s.log.length:Int)==3)),()):=by
      unfold o0;simp only[a2,qw,af,eu,dH];rw[fQ (by omega) (by omega),show n6 s.first 0 (16-(s.log.length:Int))=true from it.2 ⟨by omega,by omega⟩];by_cases h3: (s.log.length:Int)<=3
      ·rw[if_pos h3,decide_eq_true h3];cases (s.first==0)<;>cases ((s.log.length:Int)==3)<;>rfl
      ·rw[if_neg h3,decide_eq_false h3];rfl
     rw[ht];by_cases h3: (s.log.length:Int)<=3
     ·rw[if_pos h3,decide_eq_true h3];cases (s.first==0)<;>cases ((s.log.length:Int)==3)<;>exact⟨_,rfl,rfl⟩
     ·rw[if_neg h3,decide_eq_false h3];exact⟨_,rfl,rfl⟩
theorem uV (m:dZ) (e:Int) (h:sW 1048576 m): ∃c b,i8 m e=some (c,b,())/\jc m e=some (c,b,())/\gE maxLen c:=by
 obtain⟨b,m1,m2⟩:=masterLog m (kA h);have zero:gE maxLen ⟨0,0,[],[]⟩:=⟨bi _,bi _⟩
 have hl:=h.1;unfold i8 jc;simp only[m1,m2,pv,qw,af,iJ];cases b with
 |false=>exact⟨_,_,rfl,rfl,zero⟩
 |true=>
  cases hw:n6 e 1 (m.configs.length:Int) with
  |false=>exact⟨_,_,rfl,rfl,zero⟩
  |true=>
   have hw:=it.1 hw;simp only[eu];rw[fQ (n:=e-1) (by omega) (by omega)];have hlt: (e-1).toNat<m.configs.length:=by omega
   have hk:=h.2 _ (bF hlt)
   have copy: ∀c:dM,gE 1048576 c->mc c=some (c,())/\iq c=some (c,()):=by intro c hc;unfold mc iq;simp only[bA];rw[eL (jl hc.1),eL (jl hc.2)];exact⟨rfl,rfl⟩
   rw[eL (by omega),eL (by omega),ah hlt];simp only[af,(copy _ hk).1,(copy _ hk).2];exact⟨_,_,rfl,rfl,jd hk⟩
theorem rd (x:ek) (h:ol 1048576 x):sC (eW x) (hU x):=by
 obtain⟨⟨hs1,hs2⟩,hsd,hml,hpl⟩:=h;have hm:=gk hs1
 have fx:=jY (B1:=ea) (B2:=fC) x.servers.length (fun k=>(((),(k:Int),()),((x.now,x.servers,x.sides,x.master.configs,x.master.activated,x.masterUp,x.lease.epoch,x.lease.holder,x.lease.ends,x.places,()),()),())) (fun k=>(((),x.servers,(x.servers.length:Int),(k:Int),()),((x.now,x.servers,x.sides,x.master.configs,x.master.activated,x.masterUp,x.lease.epoch,x.lease.holder,x.lease.ends,x.places,()),()),())) (.inr (((),()),(),())) (.inr (((),()),(),())) (fun _=> .inl ((false,()),(),())) (fun _=> .inl ((false,()),(),()))
  (fun _=>True) (fun _=>True)
  (by simp only[ea]; rw[dH,if_neg (by omega)])
  (by simp only[fC]; rw[dH,if_neg (by omega)])
  (fun k hk=>by
    have c1: (k:Int)< (x.servers.length:Int):=by omega
    have c2: (0:Int)<=(k:Int):=by omega
    have hsk:=hs2 _ (bF hk);obtain⟨b,v1,v2⟩:=o2 x.servers[k] (k:Int) hsk;obtain⟨n,n1,n2⟩:=rY x.servers[k].learned (gk hsk.2.2);obtain⟨c,d,d1,d2,d3⟩:=uV x.master x.servers[k].config.epoch hml;have hcfg:=jd hsk.1
    simp only[ea,fC,dH,dX,if_pos c1,if_pos c2,aA,ah hk,af,v1,v2,n1,n2,dS hm hk,iJ,
     show (⟨x.master.configs,x.master.activated⟩:dZ)=x.master from rfl,d1,d2,xM _ hcfg,(iu _ (⟨0,0,[],[]⟩:dM) hcfg).2,(iu c x.servers[k].config d3).1,(iu c x.servers[k].config d3).2]
    cases b with
    |false=>exact .inr ⟨rfl,rfl,trivial⟩
    |true=>
     simp only[eu];by_cases h1:x.servers[k].epoch>(x.master.configs.length:Int)
     ·simp only[if_pos h1];exact .inr ⟨trivial,trivial,trivial⟩
     ·simp only[if_neg h1];by_cases h2:n>x.master.activated
      ·simp only[if_pos h2];exact .inr ⟨trivial,trivial,trivial⟩
      ·simp only[if_neg h2];by_cases h3:x.servers[k].config=⟨0,0,[],[]⟩
       ·simp only[if_pos h3];exact .inl ⟨trivial,trivial,trivial⟩
       ·simp only[if_neg h3];cases d with
        |false=>exact .inr ⟨rfl,rfl,trivial⟩
        |true=>
         simp only[eu];by_cases h4:c=x.servers[k].config
         ·simp only[if_pos h4];by_cases h5:x.servers[k].config.epoch>x.master.activated
          ·simp only[if_pos h5];exact .inr ⟨trivial,trivial,trivial⟩
          ·simp only[if_neg h5];exact .inl ⟨trivial,trivial,trivial⟩
         ·simp only[if_neg h4];exact .inr ⟨trivial,trivial,trivial⟩)
 unfold eW hU;obtain⟨b1,a1,a2⟩:=rc x.sides (gk hsd);obtain⟨b2,m1,m2⟩:=masterLog x.master (kA hml);obtain⟨b3,l1,l2⟩:=Cc x.lease;obtain⟨b4,p1,p2⟩:=wu x.places (gk hpl);simp only[pv,qw,a1,a2,m1,m2,l1,l2,p1,p2,af,iJ,dH];cases n6 x.now 0 999 with
 |false=>exact⟨_,rfl,rfl⟩
 |true=>
 cases ((x.servers.length:Int)==5) with
 |false=>exact⟨_,rfl,rfl⟩
 |true=>
 cases b1 with
 |false=>exact⟨_,rfl,rfl⟩
 |true=>
 cases b2 with
 |false=>exact⟨_,rfl,rfl⟩
 |true=>
 cases n6 x.masterUp 0 3 with
 |false=>cases b3<;>cases b4<;>exact⟨_,rfl,rfl⟩
 |true=>
 cases b3 with
 |false=>exact⟨_,rfl,rfl⟩
 |true=>
 cases b4 with
 |false=>exact⟨_,rfl,rfl⟩
 |true=>
 simp only[eu];by_cases h1:x.lease.epoch>x.master.activated
 ·simp only[if_pos h1];exact⟨_,rfl,rfl⟩
 ·simp only[if_neg h1];rcases fx with ⟨k1,k2,_⟩| ⟨k,_,k1,k2,_⟩
  ·rw[show il (((),0,()),((x.now,x.servers,x.sides,x.master.configs,x.master.activated,x.masterUp,x.lease.epoch,x.lease.holder,x.lease.ends,x.places,()),()),())=_ from k1,show jJ (((),x.servers,(x.servers.length:Int),0,()),((x.now,x.servers,x.sides,x.master.configs,x.master.activated,x.masterUp,x.lease.epoch,x.lease.holder,x.lease.ends,x.places,()),()),())=_ from k2];exact⟨_,rfl,rfl⟩
  ·rw[show il (((),0,()),((x.now,x.servers,x.sides,x.master.configs,x.master.activated,x.masterUp,x.lease.epoch,x.lease.holder,x.lease.ends,x.places,()),()),())=_ from k1,show jJ (((),x.servers,(x.servers.length:Int),0,()),((x.now,x.servers,x.sides,x.master.configs,x.master.activated,x.masterUp,x.lease.epoch,x.lease.holder,x.lease.ends,x.places,()),()),())=_ from k2];exact⟨_,rfl,rfl⟩
end Go.Proofs.YtadpelkpdaohnaaGreatDoor.En
