/- What a valid cluster is known to have. -/
import Derived.Test.YtadpelkpdaohnaaGreatDoorZPV5
namespace Go.Proofs.YtadpelkpdaohnaaGreatDoor.En
open Go
theorem sd {c:dM} (h:gX maxLen c) (hv:ej c=some (true,())):Br c.replicas/\Br c.witnesses/\c.primary∈c.replicas/\1<=c.epoch/\c.epoch<=20/\ ∀x∈c.replicas,x∉c.witnesses:=by
 unfold ej at hv;simp only[qg,af] at hv;cases hw:oO c.epoch 1 20 with
 |false=>rw[hw] at hv; cases hv
 |true=>
  rw[hw] at hv;rcases nf c.replicas h.1 with ⟨a1,a2,a3⟩| ⟨a1,a2⟩
  ·rcases nf c.witnesses h.2 with ⟨b1,b2,b3⟩| ⟨b1,b2⟩
   ·simp only[a1,b1,af,ey,(jF c.replicas c.primary h.1).1,Dx _ _ a3 h.2,dI] at hv;by_cases hp:c.primary∈c.replicas
    ·rw[if_pos hp] at hv;refine⟨a3,b3,hp,(iP.1 hw).1,(iP.1 hw).2,fun x hx hxw=> ?_⟩
     have hz: ((((c.replicas.filter fun x=>decide (x∈c.witnesses)).length:Nat):Int)==0)=true:=by simpa using hv
     have hz: (c.replicas.filter fun x=>decide (x∈c.witnesses)).length=0:=by simp only[beq_iff_eq] at hz;omega
     have:=be hz;have hm:x∈c.replicas.filter fun x=>decide (x∈c.witnesses):=by simp[cM,hx,hxw]
     rw[this] at hm;cases hm
    ·rw[if_neg hp] at hv; cases hv
   ·simp only[a1,b1,af,ey,eu] at hv; cases hv
  ·simp only[a1,af,ey,eu] at hv; cases hv
theorem zf {m:ec} (h:tY maxLen m) (hv:ft m=some (true,())): (∀k (hk:k<m.configs.length),ej m.configs[k] =some (true,())/\m.configs[k].epoch=(k:Int)+1)/\0<=m.activated/\m.activated<=(m.configs.length:Int):=by
 obtain⟨hl,hc⟩:=h
 have fG:=kC (B1:=eD) (B2:=eD) m.configs.length (fun k=>(((),(k:Int),()),((m.configs,m.activated,()),()),())) (fun k=>(((),(k:Int),()),((m.configs,m.activated,()),()),())) (.inr (((),(),()),((m.configs,m.activated,()),()),())) (.inr (((),(),()),((m.configs,m.activated,()),()),())) (fun _=> .inl (((),false,()),((m.configs,m.activated,()),()),())) (fun _=> .inl (((),false,()),((m.configs,m.activated,()),()),()))
  (fun k=> ∀hk:k<m.configs.length,ej m.configs[k] =some (true,())/\m.configs[k].epoch=(k:Int)+1) (fun _=>True)
  (by simp only[eD]; rw[dI,if_neg (by omega)])
  (by simp only[eD]; rw[dI,if_neg (by omega)])
  (fun k hk=>by
    have c1: (k:Int)< (m.configs.length:Int):=by omega
    have c2: (0:Int)<=(k:Int):=by omega
    obtain⟨b,v1,v2⟩:=lJ m.configs[k] (hc _ (bF hk))
    have fq:eD (((),(k:Int),()),((m.configs,m.activated,()),()),())=br b (br (m.configs[k].epoch==((k+1:Nat):Int)) (some (.inl (((),((k+1:Nat):Int),()),((m.configs,m.activated,()),()),()))) (some (.inr (.inl (((),false,()),((m.configs,m.activated,()),()),()))))) (some (.inr (.inl (((),false,()),((m.configs,m.activated,()),()),())))):=by simp only[eD,dI,ea,if_pos c1,if_pos c2,aA,ah hk,af,v1,dT hl hk,i5]
    rw[fq];cases b with
    |false=>exact .inr ⟨rfl,rfl,trivial⟩
    |true=>
     rw[ey,kI];by_cases he:m.configs[k].epoch=((k+1:Nat):Int)
     ·rw[if_pos he];exact .inl ⟨rfl,rfl,fun _=>⟨v1,by omega⟩⟩
     ·rw[if_neg he];exact .inr ⟨rfl,rfl,trivial⟩)
 unfold ft at hv;rcases fG with ⟨k1,_,k3⟩| ⟨k,_,k1,_,_⟩
 ·rw[show iT (((),0,()),((m.configs,m.activated,()),()),())=_ from k1] at hv;simp only[af,cH,qg,ae,al,and_true] at hv;exact⟨fun k hk=>k3 k hk hk,(iP.1 hv).1,(iP.1 hv).2⟩
 ·rw[show iT (((),0,()),((m.configs,m.activated,()),()),())=_ from k1] at hv;cases hv
structure VC (x:dX):Prop where
 len:x.servers.length=5
 ml:ft x.master=some (true,())
 sides:jm x.sides=some (true,())
 places:ko x.places=some (true,())
 lease:mm x.lease=some (true,())
 now:0<=x.now/\x.now<=999
 up:0<=x.masterUp/\x.masterUp<=3
 srv: ∀k (hk:k<x.servers.length),fj x.servers[k] (k:Int)=some (true,())
theorem zg {x:dX} (h:o5 1048576 x) (hv:fb x=some (true,())):VC x:=by
 obtain⟨⟨hs1,hs2⟩,hsd,hml,hpl⟩:=h;have hm:=gx hs1
 have fG:=kC (B1:=ed) (B2:=ed) x.servers.length (fun k=>(((),(k:Int),()),((x.now,x.servers,x.sides,x.master.configs,x.master.activated,x.masterUp,x.lease.epoch,x.lease.holder,x.lease.ends,x.places,()),()),())) (fun k=>(((),(k:Int),()),((x.now,x.servers,x.sides,x.master.configs,x.master.activated,x.masterUp,x.lease.epoch,x.lease.holder,x.lease.ends,x.places,()),()),())) (.inr (((),()),(),())) (.inr (((),()),(),())) (fun _=> .inl ((false,()),(),())) (fun _=> .inl ((false,()),(),()))
  (fun k=> ∀hk:k<x.servers.length,fj x.servers[k] (k:Int)=some (true,())) (fun _=>True)
  (by simp only[ed]; rw[dI,if_neg (by omega)])
  (by simp only[ed]; rw[dI,if_neg (by omega)])
  (fun k hk=>by
    have c1: (k:Int)< (x.servers.length:Int):=by omega
    have c2: (0:Int)<=(k:Int):=by omega
    have hsk:=hs2 _ (bF hk);obtain⟨b,v1,v2⟩:=pK x.servers[k] (k:Int) hsk;obtain⟨n,n1,n2⟩:=s7 x.servers[k].learned (gx hsk.2.2);obtain⟨c,d,d1,d2,d3⟩:=vU x.master x.servers[k].config.epoch hml;have hcfg:=jw hsk.1
    have fq:ed (((),(k:Int),()),((x.now,x.servers,x.sides,x.master.configs,x.master.activated,x.masterUp,x.lease.epoch,x.lease.holder,x.lease.ends,x.places,()),()),())=some (.inr (.inl ((false,()),(),())))\/(b=true/\ed (((),(k:Int),()),((x.now,x.servers,x.sides,x.master.configs,x.master.activated,x.masterUp,x.lease.epoch,x.lease.holder,x.lease.ends,x.places,()),()),())=some (.inl (((),((k+1:Nat):Int),()),((x.now,x.servers,x.sides,x.master.configs,x.master.activated,x.masterUp,x.lease.epoch,x.lease.holder,x.lease.ends,x.places,()),()),()))):=by
     simp only[ed,dI,ea,if_pos c1,if_pos c2,aA,ah hk,af,v1,n1,dT hm hk,i5,
      show (⟨x.master.configs,x.master.activated⟩:ec)=x.master from rfl,d1,zd _ hcfg,(iQ c x.servers[k].config d3).1]
     cases b with
     |false=>exact .inl rfl
     |true=>
      simp only[ey]
      repeat' split
      all_goals first |exact .inl trivial|exact .inr ⟨trivial,trivial⟩| (cases d<;>first |exact .inl rfl| (simp only[ey]; repeat' split)<;>first |exact .inl trivial|exact .inr ⟨trivial,trivial⟩)
    rcases fq with h1| ⟨rfl,h1⟩
    ·rw[h1]; exact .inr ⟨rfl,rfl,trivial⟩
    ·rw[h1]; exact .inl ⟨rfl,rfl,fun _=>v1⟩)
 unfold fb at hv;obtain⟨b1,a1,a2⟩:=sa x.sides (gx hsd);obtain⟨b2,m1,m2⟩:=masterLog x.master (k9 hml);obtain⟨b3,l1,l2⟩:=Dy x.lease;obtain⟨b4,p1,p2⟩:=xH x.places (gx hpl);simp only[qg,a1,m1,l1,p1,af,i5,dI] at hv;cases h1:oO x.now 0 999 with
 |false=>rw[h1] at hv; cases hv
 |true=>
 cases h2: ((x.servers.length:Int)==5) with
 |false=>rw[h1,h2] at hv; cases hv
 |true=>
 cases b1 with
 |false=>rw[h1,h2] at hv; cases hv
 |true=>
 cases b2 with
 |false=>rw[h1,h2] at hv; cases hv
 |true=>
 cases h3:oO x.masterUp 0 3 with
 |false=>rw[h1,h2,h3] at hv; cases hv
 |true=>
 cases b3 with
 |false=>rw[h1,h2,h3] at hv; cases hv
 |true=>
 cases b4 with
 |false=>rw[h1,h2,h3] at hv; cases hv
 |true=>
 rw[h1,h2,h3] at hv;simp only[ey] at hv;by_cases h4:x.lease.epoch>x.master.activated
 ·rw[if_pos h4] at hv; cases hv
 ·rw[if_neg h4] at hv;rcases fG with ⟨k1,_,k3⟩| ⟨k,_,k1,_,_⟩
  ·refine⟨?_,m1,a1,p1,l1,iP.1 h1,iP.1 h3,fun k hk=>k3 k hk hk⟩;simp only[beq_iff_eq] at h2;omega
  ·rw[show iK (((),0,()),((x.now,x.servers,x.sides,x.master.configs,x.master.activated,x.masterUp,x.lease.epoch,x.lease.holder,x.lease.ends,x.places,()),()),())=_ from k1] at hv;cases hv
end Go.Proofs.YtadpelkpdaohnaaGreatDoor.En
