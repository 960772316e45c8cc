/- Valid clusters, on: servers, configurations in force, the whole. -/
import Derived.Test.YtadpelkpdaohnaaGreatDoorZPV4
namespace Go.Proofs.YtadpelkpdaohnaaGreatDoor.En
open Go
theorem jV {c:dA} (h:iK 1048576 c):iK maxLen c:=⟨fo h.1,fo h.2⟩
theorem qY {m:dT} (h:uS 1048576 m):uS maxLen m:=⟨fo h.1,fun c hc=>jV (h.2 c hc)⟩
theorem wZ (c:dA) (h:iK maxLen c):lf c=some (decide (c=⟨0,0,[],[]⟩),()):=by unfold lf;rw[(iI c _ h).1];rfl
theorem rv (s:ek) (id:Int) (h:lP 1048576 s):tA (dX s id) (gX s id):=by
 have hc:=jV h.1;unfold dX gX;simp only[n9,qj,af,jB];cases mM s.version 1 2 with
 |false=>exact⟨_,rfl,rfl⟩
 |true=>
 cases mM s.epoch 0 20 with
 |false=>exact⟨_,rfl,rfl⟩
 |true=>
 rcases BD s.log (fo h.2.1) with ⟨a1,a2,a3⟩| ⟨a1,a2⟩
 case inr=>simp only[a1,a2,af,ea,dV]; exact⟨_,rfl,rfl⟩
 rcases BD s.learned (fo h.2.2) with ⟨b1,b2,b3⟩| ⟨b1,b2⟩
 case inr=>simp only[a1,a2,b1,b2,af,ea,dV]; exact⟨_,rfl,rfl⟩
 simp only[a1,a2,b1,b2,af,ea];cases hw:mM s.first 0 16 with
 |false=>exact⟨_,rfl,rfl⟩
 |true=>
 have hf:=gT.1 hw;rw[iG (n:=s.first+(s.log.length:Int)) (by omega) (by omega)];by_cases h16:s.first+(s.log.length:Int)<=16
 case neg=>
  have e1:mM (s.first+(s.log.length:Int)) 0 16=false:=by unfold mM; simp; omega
  simp only[e1,ea,dV,dx,if_pos (show s.first+(s.log.length:Int)>16 by omega)];exact⟨_,rfl,rfl⟩
 have e1:mM (s.first+(s.log.length:Int)) 0 16=true:=gT.2 ⟨by omega,h16⟩;simp only[e1,ea,dx,if_neg (show ¬s.first+(s.log.length:Int)>16 by omega),wZ s.config hc,(iI s.config ⟨0,0,[],[]⟩ hc).2,af];cases mM s.commit 0 (s.first+(s.log.length:Int)) with
 |false=>exact⟨_,rfl,rfl⟩
 |true=>
 simp only[ea];by_cases hz:s.config=⟨0,0,[],[]⟩
 ·simp only[if_pos hz];cases (s.first==0)<;>cases (s.commit==0)<;>cases ((s.log.length:Int)==0)<;>exact⟨_,rfl,rfl⟩
 ·simp only[if_neg hz];cases s.intact with
  |false=>exact⟨_,rfl,rfl⟩
  |true=>
  simp only[ea];by_cases he:s.epoch<s.config.epoch
  ·simp only[if_pos he];exact⟨_,rfl,rfl⟩
  ·simp only[if_neg he];obtain⟨n,n1,n2⟩:=qX s.log (fo h.2.1);simp only[n1,n2,af];by_cases hn:n>s.config.epoch
   ·simp only[if_pos hn];exact⟨_,rfl,rfl⟩
   ·simp only[if_neg hn];obtain⟨r,r1,r2,r3⟩:=EI s.config id hc;simp only[r1,r2,af];rcases r3 with rfl|rfl|rfl|rfl
    ·exact⟨_,rfl,rfl⟩
    ·exact⟨_,rfl,rfl⟩
    ·exact⟨_,rfl,rfl⟩
    ·have ht:n5 s.first s.log=some (decide ((s.log.length:Int)<=3)&&((s.first==0)||((s.log.length:Int)==3)),()):=by
      unfold n5;simp only[a2,qj,af,ea,dx];rw[iG (by omega) (by omega),show mM s.first 0 (16-(s.log.length:Int))=true from gT.2 ⟨by omega,by omega⟩];by_cases h3: (s.log.length:Int)<=3
      ·rw[if_pos h3,decide_eq_true h3];cases (s.first==0)<;>cases ((s.log.length:Int)==3)<;>rfl
      ·rw[if_neg h3,decide_eq_false h3];rfl
     rw[ht];by_cases h3: (s.log.length:Int)<=3
     ·rw[if_pos h3,decide_eq_true h3];cases (s.first==0)<;>cases ((s.log.length:Int)==3)<;>exact⟨_,rfl,rfl⟩
     ·rw[if_neg h3,decide_eq_false h3];exact⟨_,rfl,rfl⟩
theorem zl (m:dT) (e:Int) (h:uS 1048576 m): ∃c b,lF m e=some (c,b,())/\lL m e=some (c,b,())/\iK maxLen c:=by
 obtain⟨b,m1,m2⟩:=masterLog m (qY h);have zero:iK maxLen ⟨0,0,[],[]⟩:=⟨bm _,bm _⟩
 have hl:=h.1;unfold lF lL;simp only[m1,m2,n9,qj,af,jB];cases b with
 |false=>exact⟨_,_,rfl,rfl,zero⟩
 |true=>
  cases hw:mM e 1 (m.configs.length:Int) with
  |false=>exact⟨_,_,rfl,rfl,zero⟩
  |true=>
   have hw:=gT.1 hw;simp only[ea];rw[iG (n:=e-1) (by omega) (by omega)];have hlt: (e-1).toNat<m.configs.length:=by omega
   have hk:=h.2 _ (b7 hlt)
   have copy: ∀c:dA,iK 1048576 c->nU c=some (c,())/\jA c=some (c,()):=by intro c hc;unfold nU jA;simp only[bB];rw[eW (oB hc.1),eW (oB hc.2)];exact⟨rfl,rfl⟩
   rw[eW (by omega),eW (by omega),ah hlt];simp only[af,(copy _ hk).1,(copy _ hk).2];exact⟨_,_,rfl,rfl,jV hk⟩
theorem w2 (x:ev) (h:qV 1048576 x):tA (eY x) (gD x):=by
 obtain⟨⟨hs1,hs2⟩,hsd,hml,hpl⟩:=h;have hm:=fo hs1
 have fb:=jX (B1:=dH) (B2:=eZ) x.servers.length (fun k=>(((),(k:Int),()),((x.now,x.servers,x.sides,x.master.configs,x.master.activated,x.masterUp,x.lease.epoch,x.lease.holder,x.lease.ends,x.places,()),()),())) (fun k=>(((),x.servers,(x.servers.length:Int),(k:Int),()),((x.now,x.servers,x.sides,x.master.configs,x.master.activated,x.masterUp,x.lease.epoch,x.lease.holder,x.lease.ends,x.places,()),()),())) (.inr (((),()),(),())) (.inr (((),()),(),())) (fun _=> .inl ((false,()),(),())) (fun _=> .inl ((false,()),(),()))
  (fun _=>True) (fun _=>True)
  (by simp only[dH]; rw[dx,if_neg (by omega)])
  (by simp only[eZ]; rw[dx,if_neg (by omega)])
  (fun k hk=>by
    have c1: (k:Int)< (x.servers.length:Int):=by omega
    have c2: (0:Int)<=(k:Int):=by omega
    have hsk:=hs2 _ (b7 hk);obtain⟨b,v1,v2⟩:=rv x.servers[k] (k:Int) hsk;obtain⟨n,n1,n2⟩:=qX x.servers[k].learned (fo hsk.2.2);obtain⟨c,d,d1,d2,d3⟩:=zl x.master x.servers[k].config.epoch hml;have hcfg:=jV hsk.1
    simp only[dH,eZ,dx,eJ,if_pos c1,if_pos c2,aK,ah hk,af,v1,v2,n1,n2,dU hm hk,jB,
     show (⟨x.master.configs,x.master.activated⟩:dT)=x.master from rfl,d1,d2,wZ _ hcfg,(iI _ (⟨0,0,[],[]⟩:dA) hcfg).2,(iI c x.servers[k].config d3).1,(iI c x.servers[k].config d3).2]
    cases b with
    |false=>exact .inr ⟨rfl,rfl,trivial⟩
    |true=>
     simp only[ea];by_cases h1:x.servers[k].epoch>(x.master.configs.length:Int)
     ·simp only[if_pos h1];exact .inr ⟨trivial,trivial,trivial⟩
     ·simp only[if_neg h1];by_cases h2:n>x.master.activated
      ·simp only[if_pos h2];exact .inr ⟨trivial,trivial,trivial⟩
      ·simp only[if_neg h2];by_cases h3:x.servers[k].config=⟨0,0,[],[]⟩
       ·simp only[if_pos h3];exact .inl ⟨trivial,trivial,trivial⟩
       ·simp only[if_neg h3];cases d with
        |false=>exact .inr ⟨rfl,rfl,trivial⟩
        |true=>
         simp only[ea];by_cases h4:c=x.servers[k].config
         ·simp only[if_pos h4];by_cases h5:x.servers[k].config.epoch>x.master.activated
          ·simp only[if_pos h5];exact .inr ⟨trivial,trivial,trivial⟩
          ·simp only[if_neg h5];exact .inl ⟨trivial,trivial,trivial⟩
         ·simp only[if_neg h4];exact .inr ⟨trivial,trivial,trivial⟩)
 unfold eY gD;obtain⟨b1,a1,a2⟩:=tW x.sides (fo hsd);obtain⟨b2,m1,m2⟩:=masterLog x.master (qY hml);obtain⟨b3,l1,l2⟩:=BC x.lease;obtain⟨b4,p1,p2⟩:=vy x.places (fo hpl);simp only[n9,qj,a1,a2,m1,m2,l1,l2,p1,p2,af,jB,dx];cases mM x.now 0 999 with
 |false=>exact⟨_,rfl,rfl⟩
 |true=>
 cases ((x.servers.length:Int)==5) with
 |false=>exact⟨_,rfl,rfl⟩
 |true=>
 cases b1 with
 |false=>exact⟨_,rfl,rfl⟩
 |true=>
 cases b2 with
 |false=>exact⟨_,rfl,rfl⟩
 |true=>
 cases mM x.masterUp 0 3 with
 |false=>cases b3<;>cases b4<;>exact⟨_,rfl,rfl⟩
 |true=>
 cases b3 with
 |false=>exact⟨_,rfl,rfl⟩
 |true=>
 cases b4 with
 |false=>exact⟨_,rfl,rfl⟩
 |true=>
 simp only[ea];by_cases h1:x.lease.epoch>x.master.activated
 ·simp only[if_pos h1];exact⟨_,rfl,rfl⟩
 ·simp only[if_neg h1];rcases fb with ⟨k1,k2,_⟩| ⟨k,_,k1,k2,_⟩
  ·rw[show gQ (((),0,()),((x.now,x.servers,x.sides,x.master.configs,x.master.activated,x.masterUp,x.lease.epoch,x.lease.holder,x.lease.ends,x.places,()),()),())=_ from k1,show jd (((),x.servers,(x.servers.length:Int),0,()),((x.now,x.servers,x.sides,x.master.configs,x.master.activated,x.masterUp,x.lease.epoch,x.lease.holder,x.lease.ends,x.places,()),()),())=_ from k2];exact⟨_,rfl,rfl⟩
  ·rw[show gQ (((),0,()),((x.now,x.servers,x.sides,x.master.configs,x.master.activated,x.masterUp,x.lease.epoch,x.lease.holder,x.lease.ends,x.places,()),()),())=_ from k1,show jd (((),x.servers,(x.servers.length:Int),0,()),((x.now,x.servers,x.sides,x.master.configs,x.master.activated,x.masterUp,x.lease.epoch,x.lease.holder,x.lease.ends,x.places,()),()),())=_ from k2];exact⟨_,rfl,rfl⟩
end Go.Proofs.YtadpelkpdaohnaaGreatDoor.En
