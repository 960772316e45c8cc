/- What a valid cluster says of each server; other servers in its place. -/
import Derived.Test.YtjnleglhcppgcaaGreatZPAct
namespace Go.Proofs.YtjnleglhcppgcaaGreat.En
open Go
structure SV (m:dY) (s:dX) (k:Int):Prop where
 val:ey s k=some (true,())
 ep:s.epoch<=(m.configs.length:Int)
 lrn: ∃e,oA s.learned=some (e,())/\e<=m.activated
 cfg:s.config=⟨0,0,[],[]⟩\/(ko m s.config.epoch=some (s.config,true,())/\s.config.epoch<=m.activated)
theorem R0 (x:dT) (ok:iq 1048576 x) (k:Nat) (hk:k<x.servers.length):
  (SV x.master x.servers[k] (k:Int)/\ej (((),(k:Int),()),((x.now,x.servers,x.sides,x.master.configs,x.master.activated,x.masterUp,x.lease.epoch,x.lease.holder,x.lease.ends,x.places,()),()),())=some (.inl (((),((k+1:Nat):Int),()),((x.now,x.servers,x.sides,x.master.configs,x.master.activated,x.masterUp,x.lease.epoch,x.lease.holder,x.lease.ends,x.places,()),()),())))\/
  (¬SV x.master x.servers[k] (k:Int)/\ej (((),(k:Int),()),((x.now,x.servers,x.sides,x.master.configs,x.master.activated,x.masterUp,x.lease.epoch,x.lease.holder,x.lease.ends,x.places,()),()),())=some (.inr (.inl ((false,()),(),())))):=by
 obtain⟨⟨hs1,hs2⟩,hsd,hml,hpl⟩:=ok;have hm:=eR hs1;have c1: (k:Int)< (x.servers.length:Int):=by omega
 have c2: (0:Int)<=(k:Int):=by omega
 have hsk:=hs2 _ (aW hk);obtain⟨b,v1,v2⟩:=sW x.servers[k] (k:Int) hsk;obtain⟨n,n1,n2⟩:=ru x.servers[k].learned (eR hsk.2.2);obtain⟨c,d,d1,d2,d3⟩:=wq x.master x.servers[k].config.epoch hml;have hcfg:=gQ hsk.1
 simp only[ej,dV,dZ,if_pos c1,if_pos c2,ao,ah hk,ae,v1,n1,ec hm hk,fg,
  show (⟨x.master.configs,x.master.activated⟩:dY)=x.master from rfl,d1,uI _ hcfg,(kg c x.servers[k].config d3).1]
 cases b with
 |false=>exact .inr ⟨(fun h=>(by have h:=v1.symm.trans h.val; cases h)),rfl⟩
 |true=>
  simp only[eb];by_cases h1:x.servers[k].epoch>(x.master.configs.length:Int)
  ·simp only[if_pos h1];exact .inr ⟨fun h=>by have:=h.ep; omega,trivial⟩
  ·simp only[if_neg h1];by_cases h2:n>x.master.activated
   ·simp only[if_pos h2];refine .inr ⟨fun h=> ?_,trivial⟩;obtain⟨e,e1,e2⟩:=h.lrn;rw[n1] at e1;simp only[af,an,and_true] at e1;omega
   ·simp only[if_neg h2];by_cases h3:x.servers[k].config=⟨0,0,[],[]⟩
    ·simp only[if_pos h3];exact .inl ⟨⟨v1,by omega,⟨n,n1,by omega⟩, .inl h3⟩,trivial⟩
    ·simp only[if_neg h3];cases d with
     |false=>
      refine .inr ⟨fun h=> ?_,rfl⟩;rcases h.cfg with h| ⟨h,_⟩
      ·exact h3 h
      ·rw[d1] at h;cases h
     |true=>
      simp only[eb];by_cases h4:c=x.servers[k].config
      ·simp only[if_pos h4];by_cases h5:x.servers[k].config.epoch>x.master.activated
       ·simp only[if_pos h5];refine .inr ⟨fun h=> ?_,trivial⟩;rcases h.cfg with h| ⟨_,h⟩
        ·exact h3 h
        ·omega
       ·simp only[if_neg h5];exact .inl ⟨⟨v1,by omega,⟨n,n1,by omega⟩, .inr ⟨by rw[d1,h4],by omega⟩⟩,trivial⟩
      ·simp only[if_neg h4];refine .inr ⟨fun h=> ?_,trivial⟩;rcases h.cfg with h| ⟨h,_⟩
       ·exact h3 h
       ·rw[d1] at h;simp only[af,an,and_true] at h;exact h4 h
theorem K8 (x:dT) (ok:iq 1048576 x):
  ((∀k (hk:k<x.servers.length),SV x.master x.servers[k] (k:Int))/\iv (((),0,()),((x.now,x.servers,x.sides,x.master.configs,x.master.activated,x.masterUp,x.lease.epoch,x.lease.holder,x.lease.ends,x.places,()),()),())=some (.inr (((),()),(),())))\/
  ((∃k,∃hk:k<x.servers.length,¬SV x.master x.servers[k] (k:Int))/\iv (((),0,()),((x.now,x.servers,x.sides,x.master.configs,x.master.activated,x.masterUp,x.lease.epoch,x.lease.holder,x.lease.ends,x.places,()),()),())=some (.inl ((false,()),(),()))):=by
 have gA:=lA (B1:=ej) (B2:=ej) x.servers.length (fun k=>(((),(k:Int),()),((x.now,x.servers,x.sides,x.master.configs,x.master.activated,x.masterUp,x.lease.epoch,x.lease.holder,x.lease.ends,x.places,()),()),())) (fun k=>(((),(k:Int),()),((x.now,x.servers,x.sides,x.master.configs,x.master.activated,x.masterUp,x.lease.epoch,x.lease.holder,x.lease.ends,x.places,()),()),())) (.inr (((),()),(),())) (.inr (((),()),(),())) (fun _=> .inl ((false,()),(),())) (fun _=> .inl ((false,()),(),()))
  (fun k=> ∀hk:k<x.servers.length,SV x.master x.servers[k] (k:Int)) (fun k=> ∃hk:k<x.servers.length,¬SV x.master x.servers[k] (k:Int))
  (by simp only[ej]; rw[dV,if_neg (by omega)])
  (by simp only[ej]; rw[dV,if_neg (by omega)])
  (fun k hk=>by
    rcases R0 x ok k hk with ⟨h1,h2⟩| ⟨h1,h2⟩
    ·exact .inl ⟨h2,h2,fun _=>h1⟩
    ·exact .inr ⟨h2,h2,hk,h1⟩)
 rcases gA with ⟨k1,_,k3⟩| ⟨k,hk,k1,_,k3⟩
 ·exact .inl ⟨fun k hk=>k3 k hk hk,k1⟩
 ·exact .inr ⟨⟨k,k3⟩,k1⟩
theorem O6 {x:dT} (ok:iq 1048576 x) (hv:eg x=some (true,())): ∀k (hk:k<x.servers.length),SV x.master x.servers[k] (k:Int):=by
 rcases K8 x ok with ⟨h,_⟩| ⟨_,h⟩
 ·exact h
 ·exfalso;obtain⟨b1,a1,_⟩:=wo x.sides (eR ok.2.1);obtain⟨b2,m1,_⟩:=masterLog x.master (j5 ok.2.2.1);obtain⟨b3,l1,_⟩:=wZ x.lease;obtain⟨b4,p1,_⟩:=pX x.places (eR ok.2.2.2);unfold eg at hv;simp only[lV,a1,m1,l1,p1,ae,h,b8] at hv;revert hv;cases kE x.now 0 999<;>cases ((x.servers.length:Int)==5)<;>cases b1<;>cases b2<;>cases kE x.masterUp 0 3<;>cases b3<;>cases b4<;>cases decide (x.lease.epoch>x.master.activated)<;>intro hv<;>cases hv
theorem R1 {x:dT} (ok:iq 1048576 x) (hv:eg x=some (true,())) (S:List dX) (hl:S.length=x.servers.length) (hok: ∀s∈S,gW 1048576 s) (hS: ∀k (hk:k<S.length),SV x.master S[k] (k:Int)):
  iq 1048576 ⟨x.now,S,x.sides,x.master,x.masterUp,x.lease,x.places⟩/\eg ⟨x.now,S,x.sides,x.master,x.masterUp,x.lease,x.places⟩=some (true,()):=by
 have ok2:iq 1048576 ⟨x.now,S,x.sides,x.master,x.masterUp,x.lease,x.places⟩:=⟨⟨by show S.length<=_; rw[hl]; exact ok.1.1,hok⟩,ok.2.1,ok.2.2.1,ok.2.2.2⟩
 refine⟨ok2,?_⟩;rcases K8 x ok with ⟨_,h1⟩| ⟨⟨k,hk,h0⟩,_⟩
 ·rcases K8 ⟨x.now,S,x.sides,x.master,x.masterUp,x.lease,x.places⟩ ok2 with ⟨_,h2⟩| ⟨⟨k,hk,h0⟩,_⟩
  ·have hv':=hv;unfold eg at hv' ⊢;rw[h1] at hv';rw[h2];simp only[hl];exact hv'
  ·exact absurd (hS k hk) h0
 ·exact absurd (O6 ok hv k hk) h0
theorem SV.old {m:dY} {s:dX} {k:Int} (h:SV m s k) (hm:uF 1048576 m) (hv:fj m=some (true,())):s.config.epoch<=(m.configs.length:Int):=by
 obtain⟨_,f2,f3⟩:=zK (j5 hm) hv;rcases h.cfg with h| ⟨_,h⟩
 ·rw[h];show (0:Int)<=_;omega
 ·omega
end Go.Proofs.YtjnleglhcppgcaaGreat.En
