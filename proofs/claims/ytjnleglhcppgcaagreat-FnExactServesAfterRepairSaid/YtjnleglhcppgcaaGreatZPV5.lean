/- Valid clusters, on: servers, configurations in force, the whole. -/
import Derived.Test.YtjnleglhcppgcaaGreatZPV4
namespace Go.Proofs.YtjnleglhcppgcaaGreat.En
open Go
theorem fY {c:ej} (h:iH 1048576 c):iH maxLen c:=⟨ff h.1,ff h.2⟩
theorem k9 {m:ev} (h:wL 1048576 m):wL maxLen m:=⟨ff h.1,fun c hc=>fY (h.2 c hc)⟩
theorem wO (c:ej) (h:iH maxLen c):qU c=some (decide (c=⟨0,0,[],[]⟩),()):=by unfold qU;rw[(lu c _ h).1];rfl
theorem sj (s:eo) (id:Int) (h:iZ 1048576 s):xP (eM s id) (kQ s id):=by
 have hc:=fY h.1;unfold eM kQ;simp only[kg,mG,ae,fi];cases je s.version 1 2 with
 |false=>exact⟨_,rfl,rfl⟩
 |true=>
 cases je s.epoch 0 20 with
 |false=>exact⟨_,rfl,rfl⟩
 |true=>
 rcases uF s.log (ff h.2.1) with ⟨a1,a2,a3⟩| ⟨a1,a2⟩
 case inr=>simp only[a1,a2,ae,en,eB]; exact⟨_,rfl,rfl⟩
 rcases uF s.learned (ff h.2.2) with ⟨b1,b2,b3⟩| ⟨b1,b2⟩
 case inr=>simp only[a1,a2,b1,b2,ae,en,eB]; exact⟨_,rfl,rfl⟩
 simp only[a1,a2,b1,b2,ae,en];cases hw:je s.first 0 16 with
 |false=>exact⟨_,rfl,rfl⟩
 |true=>
 have hf:=fK.1 hw;rw[fP (n:=s.first+(s.log.length:Int)) (by omega) (by omega)];by_cases h16:s.first+(s.log.length:Int)<=16
 case neg=>
  have e1:je (s.first+(s.log.length:Int)) 0 16=false:=by unfold je; simp; omega
  simp only[e1,en,eB,ei,if_pos (show s.first+(s.log.length:Int)>16 by omega)];exact⟨_,rfl,rfl⟩
 have e1:je (s.first+(s.log.length:Int)) 0 16=true:=fK.2 ⟨by omega,h16⟩;simp only[e1,en,ei,if_neg (show ¬s.first+(s.log.length:Int)>16 by omega),wO s.config hc,(lu s.config ⟨0,0,[],[]⟩ hc).2,ae];cases je s.commit 0 (s.first+(s.log.length:Int)) with
 |false=>exact⟨_,rfl,rfl⟩
 |true=>
 simp only[en];by_cases hz:s.config=⟨0,0,[],[]⟩
 ·simp only[if_pos hz];cases (s.first==0)<;>cases (s.commit==0)<;>cases ((s.log.length:Int)==0)<;>exact⟨_,rfl,rfl⟩
 ·simp only[if_neg hz];cases s.intact with
  |false=>exact⟨_,rfl,rfl⟩
  |true=>
  simp only[en];by_cases he:s.epoch<s.config.epoch
  ·simp only[if_pos he];exact⟨_,rfl,rfl⟩
  ·simp only[if_neg he];obtain⟨n,n1,n2⟩:=tB s.log (ff h.2.1);simp only[n1,n2,ae];by_cases hn:n>s.config.epoch
   ·simp only[if_pos hn];exact⟨_,rfl,rfl⟩
   ·simp only[if_neg hn];obtain⟨r,r1,r2,r3⟩:=Jv s.config id hc;simp only[r1,r2,ae];rcases r3 with rfl|rfl|rfl|rfl
    ·exact⟨_,rfl,rfl⟩
    ·exact⟨_,rfl,rfl⟩
    ·exact⟨_,rfl,rfl⟩
    ·have ht:uo s.first s.log=some (decide ((s.log.length:Int)<=3)&&((s.first==0)||((s.log.length:Int)==3)),()):=by
      unfold uo;simp only[a2,mG,ae,en,ei];rw[fP (by omega) (by omega),show je s.first 0 (16-(s.log.length:Int))=true from fK.2 ⟨by omega,by omega⟩];by_cases h3: (s.log.length:Int)<=3
      ·rw[if_pos h3,decide_eq_true h3];cases (s.first==0)<;>cases ((s.log.length:Int)==3)<;>rfl
      ·rw[if_neg h3,decide_eq_false h3];rfl
     rw[ht];by_cases h3: (s.log.length:Int)<=3
     ·rw[if_pos h3,decide_eq_true h3];cases (s.first==0)<;>cases ((s.log.length:Int)==3)<;>exact⟨_,rfl,rfl⟩
     ·rw[if_neg h3,decide_eq_false h3];exact⟨_,rfl,rfl⟩
theorem yD (m:ev) (e:Int) (h:wL 1048576 m): ∃c b,lA m e=some (c,b,())/\mE m e=some (c,b,())/\iH maxLen c:=by
 obtain⟨b,m1,m2⟩:=masterLog m (k9 h);have zero:iH maxLen ⟨0,0,[],[]⟩:=⟨aI _,aI _⟩
 have hl:=h.1;unfold lA mE;simp only[m1,m2,kg,mG,ae,fi];cases b with
 |false=>exact⟨_,_,rfl,rfl,zero⟩
 |true=>
  cases hw:je e 1 (m.configs.length:Int) with
  |false=>exact⟨_,_,rfl,rfl,zero⟩
  |true=>
   have hw:=fK.1 hw;simp only[en];rw[fP (n:=e-1) (by omega) (by omega)];have hlt: (e-1).toNat<m.configs.length:=by omega
   have hk:=h.2 _ (aV hlt)
   have copy: ∀c:ej,iH 1048576 c->lS c=some (c,())/\hO c=some (c,()):=by intro c hc;unfold lS hO;simp only[bo];rw[fB (kA hc.1),fB (kA hc.2)];exact⟨rfl,rfl⟩
   rw[fB (by omega),fB (by omega),ah hlt];simp only[ae,(copy _ hk).1,(copy _ hk).2];exact⟨_,_,rfl,rfl,fY hk⟩
theorem iu (x:eg) (h:gX 1048576 x):xP (eA x) (fS x):=by
 obtain⟨⟨hs1,hs2⟩,hsd,hml,hpl⟩:=h;have hm:=ff hs1
 have gE:=jS (B1:=eG) (B2:=jl) x.servers.length (fun k=>(((),(k:Int),()),((x.now,x.servers,x.sides,x.master.configs,x.master.activated,x.masterUp,x.lease.epoch,x.lease.holder,x.lease.ends,x.places,()),()),())) (fun k=>(((),x.servers,(x.servers.length:Int),(k:Int),()),((x.now,x.servers,x.sides,x.master.configs,x.master.activated,x.masterUp,x.lease.epoch,x.lease.holder,x.lease.ends,x.places,()),()),())) (.inr (((),()),(),())) (.inr (((),()),(),())) (fun _=> .inl ((false,()),(),())) (fun _=> .inl ((false,()),(),()))
  (fun _=>True) (fun _=>True)
  (by simp only[eG]; rw[ei,if_neg (by omega)])
  (by simp only[jl]; rw[ei,if_neg (by omega)])
  (fun k hk=>by
    have c1: (k:Int)< (x.servers.length:Int):=by omega
    have c2: (0:Int)<=(k:Int):=by omega
    have hsk:=hs2 _ (aV hk);obtain⟨b,v1,v2⟩:=sj x.servers[k] (k:Int) hsk;obtain⟨n,n1,n2⟩:=tB x.servers[k].learned (ff hsk.2.2);obtain⟨c,d,d1,d2,d3⟩:=yD x.master x.servers[k].config.epoch hml;have hcfg:=fY hsk.1
    simp only[eG,jl,ei,ek,if_pos c1,if_pos c2,ap,ah hk,ae,v1,v2,n1,n2,ey hm hk,fi,
     show (⟨x.master.configs,x.master.activated⟩:ev)=x.master from rfl,d1,d2,wO _ hcfg,(lu _ (⟨0,0,[],[]⟩:ej) hcfg).2,(lu c x.servers[k].config d3).1,(lu c x.servers[k].config d3).2]
    cases b with
    |false=>exact .inr ⟨rfl,rfl,trivial⟩
    |true=>
     simp only[en];by_cases h1:x.servers[k].epoch>(x.master.configs.length:Int)
     ·simp only[if_pos h1];exact .inr ⟨trivial,trivial,trivial⟩
     ·simp only[if_neg h1];by_cases h2:n>x.master.activated
      ·simp only[if_pos h2];exact .inr ⟨trivial,trivial,trivial⟩
      ·simp only[if_neg h2];by_cases h3:x.servers[k].config=⟨0,0,[],[]⟩
       ·simp only[if_pos h3];exact .inl ⟨trivial,trivial,trivial⟩
       ·simp only[if_neg h3];cases d with
        |false=>exact .inr ⟨rfl,rfl,trivial⟩
        |true=>
         simp only[en];by_cases h4:c=x.servers[k].config
         ·simp only[if_pos h4];by_cases h5:x.servers[k].config.epoch>x.master.activated
          ·simp only[if_pos h5];exact .inr ⟨trivial,trivial,trivial⟩
          ·simp only[if_neg h5];exact .inl ⟨trivial,trivial,trivial⟩
         ·simp only[if_neg h4];exact .inr ⟨trivial,trivial,trivial⟩)
 unfold eA fS;obtain⟨b1,a1,a2⟩:=yC x.sides (ff hsd);obtain⟨b2,m1,m2⟩:=masterLog x.master (k9 hml);obtain⟨b3,l1,l2⟩:=zo x.lease;obtain⟨b4,p1,p2⟩:=rp x.places (ff hpl);simp only[kg,mG,a1,a2,m1,m2,l1,l2,p1,p2,ae,fi,ei];cases je x.now 0 999 with
 |false=>exact⟨_,rfl,rfl⟩
 |true=>
 cases ((x.servers.length:Int)==5) with
 |false=>exact⟨_,rfl,rfl⟩
 |true=>
 cases b1 with
 |false=>exact⟨_,rfl,rfl⟩
 |true=>
 cases b2 with
 |false=>exact⟨_,rfl,rfl⟩
 |true=>
 cases je x.masterUp 0 3 with
 |false=>cases b3<;>cases b4<;>exact⟨_,rfl,rfl⟩
 |true=>
 cases b3 with
 |false=>exact⟨_,rfl,rfl⟩
 |true=>
 cases b4 with
 |false=>exact⟨_,rfl,rfl⟩
 |true=>
 simp only[en];by_cases h1:x.lease.epoch>x.master.activated
 ·simp only[if_pos h1];exact⟨_,rfl,rfl⟩
 ·simp only[if_neg h1];rcases gE with ⟨k1,k2,_⟩| ⟨k,_,k1,k2,_⟩
  ·rw[show jf (((),0,()),((x.now,x.servers,x.sides,x.master.configs,x.master.activated,x.masterUp,x.lease.epoch,x.lease.holder,x.lease.ends,x.places,()),()),())=_ from k1,show po (((),x.servers,(x.servers.length:Int),0,()),((x.now,x.servers,x.sides,x.master.configs,x.master.activated,x.masterUp,x.lease.epoch,x.lease.holder,x.lease.ends,x.places,()),()),())=_ from k2];exact⟨_,rfl,rfl⟩
  ·rw[show jf (((),0,()),((x.now,x.servers,x.sides,x.master.configs,x.master.activated,x.masterUp,x.lease.epoch,x.lease.holder,x.lease.ends,x.places,()),()),())=_ from k1,show po (((),x.servers,(x.servers.length:Int),0,()),((x.now,x.servers,x.sides,x.master.configs,x.master.activated,x.masterUp,x.lease.epoch,x.lease.holder,x.lease.ends,x.places,()),()),())=_ from k2];exact⟨_,rfl,rfl⟩
end Go.Proofs.YtjnleglhcppgcaaGreat.En
