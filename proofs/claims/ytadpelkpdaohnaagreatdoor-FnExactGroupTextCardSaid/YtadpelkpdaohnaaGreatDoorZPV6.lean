/- What a valid cluster is known to have. -/
import Derived.Test.YtadpelkpdaohnaaGreatDoorZPV5
namespace Go.Proofs.YtadpelkpdaohnaaGreatDoor.En
open Go
theorem rf {c:dM} (h:gE maxLen c) (hv:eg c=some (true,())):z6 c.replicas/\z6 c.witnesses/\c.primary∈c.replicas/\1<=c.epoch/\c.epoch<=20/\ ∀x∈c.replicas,x∉c.witnesses:=by
 unfold eg at hv;simp only[pv,af] at hv;cases hw:n6 c.epoch 1 20 with
 |false=>rw[hw] at hv; cases hv
 |true=>
  rw[hw] at hv;rcases mt c.replicas h.1 with ⟨a1,a2,a3⟩| ⟨a1,a2⟩
  ·rcases mt c.witnesses h.2 with ⟨b1,b2,b3⟩| ⟨b1,b2⟩
   ·simp only[a1,b1,af,eu,(jk c.replicas c.primary h.1).1,Cb _ _ a3 h.2,dH] at hv;by_cases hp:c.primary∈c.replicas
    ·rw[if_pos hp] at hv;refine⟨a3,b3,hp,(it.1 hw).1,(it.1 hw).2,fun x hx hxw=> ?_⟩
     have hz: ((((c.replicas.filter fun x=>decide (x∈c.witnesses)).length:Nat):Int)==0)=true:=by simpa using hv
     have hz: (c.replicas.filter fun x=>decide (x∈c.witnesses)).length=0:=by simp only[beq_iff_eq] at hz;omega
     have:=bc hz;have hm:x∈c.replicas.filter fun x=>decide (x∈c.witnesses):=by simp[cM,hx,hxw]
     rw[this] at hm;cases hm
    ·rw[if_neg hp] at hv; cases hv
   ·simp only[a1,b1,af,eu,en] at hv; cases hv
  ·simp only[a1,af,eu,en] at hv; cases hv
theorem xN {m:dZ} (h:sW maxLen m) (hv:fk m=some (true,())): (∀k (hk:k<m.configs.length),eg m.configs[k] =some (true,())/\m.configs[k].epoch=(k:Int)+1)/\0<=m.activated/\m.activated<=(m.configs.length:Int):=by
 obtain⟨hl,hc⟩:=h
 have fx:=jY (B1:=eA) (B2:=eA) m.configs.length (fun k=>(((),(k:Int),()),((m.configs,m.activated,()),()),())) (fun k=>(((),(k:Int),()),((m.configs,m.activated,()),()),())) (.inr (((),(),()),((m.configs,m.activated,()),()),())) (.inr (((),(),()),((m.configs,m.activated,()),()),())) (fun _=> .inl (((),false,()),((m.configs,m.activated,()),()),())) (fun _=> .inl (((),false,()),((m.configs,m.activated,()),()),()))
  (fun k=> ∀hk:k<m.configs.length,eg m.configs[k] =some (true,())/\m.configs[k].epoch=(k:Int)+1) (fun _=>True)
  (by simp only[eA]; rw[dH,if_neg (by omega)])
  (by simp only[eA]; rw[dH,if_neg (by omega)])
  (fun k hk=>by
    have c1: (k:Int)< (m.configs.length:Int):=by omega
    have c2: (0:Int)<=(k:Int):=by omega
    obtain⟨b,v1,v2⟩:=kZ m.configs[k] (hc _ (bF hk))
    have fi:eA (((),(k:Int),()),((m.configs,m.activated,()),()),())=br b (br (m.configs[k].epoch==((k+1:Nat):Int)) (some (.inl (((),((k+1:Nat):Int),()),((m.configs,m.activated,()),()),()))) (some (.inr (.inl (((),false,()),((m.configs,m.activated,()),()),()))))) (some (.inr (.inl (((),false,()),((m.configs,m.activated,()),()),())))):=by simp only[eA,dH,dX,if_pos c1,if_pos c2,aA,ah hk,af,v1,dS hl hk,iJ]
    rw[fi];cases b with
    |false=>exact .inr ⟨rfl,rfl,trivial⟩
    |true=>
     rw[eu,ka];by_cases he:m.configs[k].epoch=((k+1:Nat):Int)
     ·rw[if_pos he];exact .inl ⟨rfl,rfl,fun _=>⟨v1,by omega⟩⟩
     ·rw[if_neg he];exact .inr ⟨rfl,rfl,trivial⟩)
 unfold fk at hv;rcases fx with ⟨k1,_,k3⟩| ⟨k,_,k1,_,_⟩
 ·rw[show iw (((),0,()),((m.configs,m.activated,()),()),())=_ from k1] at hv;simp only[af,cH,pv,ae,al,and_true] at hv;exact⟨fun k hk=>k3 k hk hk,(it.1 hv).1,(it.1 hv).2⟩
 ·rw[show iw (((),0,()),((m.configs,m.activated,()),()),())=_ from k1] at hv;cases hv
structure VC (x:ek):Prop where
 len:x.servers.length=5
 ml:fk x.master=some (true,())
 sides:i7 x.sides=some (true,())
 places:jN x.places=some (true,())
 lease:lK x.lease=some (true,())
 now:0<=x.now/\x.now<=999
 up:0<=x.masterUp/\x.masterUp<=3
 srv: ∀k (hk:k<x.servers.length),fe x.servers[k] (k:Int)=some (true,())
theorem xO {x:ek} (h:ol 1048576 x) (hv:eW x=some (true,())):VC x:=by
 obtain⟨⟨hs1,hs2⟩,hsd,hml,hpl⟩:=h;have hm:=gk hs1
 have fx:=jY (B1:=ea) (B2:=ea) x.servers.length (fun k=>(((),(k:Int),()),((x.now,x.servers,x.sides,x.master.configs,x.master.activated,x.masterUp,x.lease.epoch,x.lease.holder,x.lease.ends,x.places,()),()),())) (fun k=>(((),(k:Int),()),((x.now,x.servers,x.sides,x.master.configs,x.master.activated,x.masterUp,x.lease.epoch,x.lease.holder,x.lease.ends,x.places,()),()),())) (.inr (((),()),(),())) (.inr (((),()),(),())) (fun _=> .inl ((false,()),(),())) (fun _=> .inl ((false,()),(),()))
  (fun k=> ∀hk:k<x.servers.length,fe x.servers[k] (k:Int)=some (true,())) (fun _=>True)
  (by simp only[ea]; rw[dH,if_neg (by omega)])
  (by simp only[ea]; rw[dH,if_neg (by omega)])
  (fun k hk=>by
    have c1: (k:Int)< (x.servers.length:Int):=by omega
    have c2: (0:Int)<=(k:Int):=by omega
    have hsk:=hs2 _ (bF hk);obtain⟨b,v1,v2⟩:=o2 x.servers[k] (k:Int) hsk;obtain⟨n,n1,n2⟩:=rY x.servers[k].learned (gk hsk.2.2);obtain⟨c,d,d1,d2,d3⟩:=uV x.master x.servers[k].config.epoch hml;have hcfg:=jd hsk.1
    have fi:ea (((),(k:Int),()),((x.now,x.servers,x.sides,x.master.configs,x.master.activated,x.masterUp,x.lease.epoch,x.lease.holder,x.lease.ends,x.places,()),()),())=some (.inr (.inl ((false,()),(),())))\/(b=true/\ea (((),(k:Int),()),((x.now,x.servers,x.sides,x.master.configs,x.master.activated,x.masterUp,x.lease.epoch,x.lease.holder,x.lease.ends,x.places,()),()),())=some (.inl (((),((k+1:Nat):Int),()),((x.now,x.servers,x.sides,x.master.configs,x.master.activated,x.masterUp,x.lease.epoch,x.lease.holder,x.lease.ends,x.places,()),()),()))):=by
     simp only[ea,dH,dX,if_pos c1,if_pos c2,aA,ah hk,af,v1,n1,dS hm hk,iJ,
      show (⟨x.master.configs,x.master.activated⟩:dZ)=x.master from rfl,d1,xM _ hcfg,(iu c x.servers[k].config d3).1]
     cases b with
     |false=>exact .inl rfl
     |true=>
      simp only[eu]
      repeat' split
      all_goals first |exact .inl trivial|exact .inr ⟨trivial,trivial⟩| (cases d<;>first |exact .inl rfl| (simp only[eu]; repeat' split)<;>first |exact .inl trivial|exact .inr ⟨trivial,trivial⟩)
    rcases fi with h1| ⟨rfl,h1⟩
    ·rw[h1]; exact .inr ⟨rfl,rfl,trivial⟩
    ·rw[h1]; exact .inl ⟨rfl,rfl,fun _=>v1⟩)
 unfold eW at hv;obtain⟨b1,a1,a2⟩:=rc x.sides (gk hsd);obtain⟨b2,m1,m2⟩:=masterLog x.master (kA hml);obtain⟨b3,l1,l2⟩:=Cc x.lease;obtain⟨b4,p1,p2⟩:=wu x.places (gk hpl);simp only[pv,a1,m1,l1,p1,af,iJ,dH] at hv;cases h1:n6 x.now 0 999 with
 |false=>rw[h1] at hv; cases hv
 |true=>
 cases h2: ((x.servers.length:Int)==5) with
 |false=>rw[h1,h2] at hv; cases hv
 |true=>
 cases b1 with
 |false=>rw[h1,h2] at hv; cases hv
 |true=>
 cases b2 with
 |false=>rw[h1,h2] at hv; cases hv
 |true=>
 cases h3:n6 x.masterUp 0 3 with
 |false=>rw[h1,h2,h3] at hv; cases hv
 |true=>
 cases b3 with
 |false=>rw[h1,h2,h3] at hv; cases hv
 |true=>
 cases b4 with
 |false=>rw[h1,h2,h3] at hv; cases hv
 |true=>
 rw[h1,h2,h3] at hv;simp only[eu] at hv;by_cases h4:x.lease.epoch>x.master.activated
 ·rw[if_pos h4] at hv; cases hv
 ·rw[if_neg h4] at hv;rcases fx with ⟨k1,_,k3⟩| ⟨k,_,k1,_,_⟩
  ·refine⟨?_,m1,a1,p1,l1,it.1 h1,it.1 h3,fun k hk=>k3 k hk hk⟩;simp only[beq_iff_eq] at h2;omega
  ·rw[show il (((),0,()),((x.now,x.servers,x.sides,x.master.configs,x.master.activated,x.masterUp,x.lease.epoch,x.lease.holder,x.lease.ends,x.places,()),()),())=_ from k1] at hv;cases hv
end Go.Proofs.YtadpelkpdaohnaaGreatDoor.En
