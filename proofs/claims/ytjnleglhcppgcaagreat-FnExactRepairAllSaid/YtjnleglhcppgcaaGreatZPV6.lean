/- What a valid cluster is known to have. -/
import Derived.Test.YtjnleglhcppgcaaGreatZPV5
namespace Go.Proofs.YtjnleglhcppgcaaGreat.En
open Go
theorem sA {c:dW} (h:gK maxLen c) (hv:eC c=some (true,())):wm c.replicas/\wm c.witnesses/\c.primary∈c.replicas/\1<=c.epoch/\c.epoch<=20/\ ∀x∈c.replicas,x∉c.witnesses:=by
 unfold eC at hv;simp only[lV,ae] at hv;cases hw:kE c.epoch 1 20 with
 |false=>rw[hw] at hv; cases hv
 |true=>
  rw[hw] at hv;rcases uH c.replicas h.1 with ⟨a1,a2,a3⟩| ⟨a1,a2⟩
  ·rcases uH c.witnesses h.2 with ⟨b1,b2,b3⟩| ⟨b1,b2⟩
   ·simp only[a1,b1,ae,eb,(gp c.replicas c.primary h.1).1,Cr _ _ a3 h.2,dV] at hv;by_cases hp:c.primary∈c.replicas
    ·rw[if_pos hp] at hv;refine⟨a3,b3,hp,(fB.1 hw).1,(fB.1 hw).2,fun x hx hxw=> ?_⟩
     have hz: ((((c.replicas.filter fun x=>decide (x∈c.witnesses)).length:Nat):Int)==0)=true:=by simpa using hv
     have hz: (c.replicas.filter fun x=>decide (x∈c.witnesses)).length=0:=by simp only[beq_iff_eq] at hz;omega
     have:=bz hz;have hm:x∈c.replicas.filter fun x=>decide (x∈c.witnesses):=by simp[cr,hx,hxw]
     rw[this] at hm;cases hm
    ·rw[if_neg hp] at hv; cases hv
   ·simp only[a1,b1,ae,eb,ek] at hv; cases hv
  ·simp only[a1,ae,eb,ek] at hv; cases hv
theorem zK {m:dY} (h:uF maxLen m) (hv:fj m=some (true,())): (∀k (hk:k<m.configs.length),eC m.configs[k] =some (true,())/\m.configs[k].epoch=(k:Int)+1)/\0<=m.activated/\m.activated<=(m.configs.length:Int):=by
 obtain⟨hl,hc⟩:=h
 have gA:=lA (B1:=fC) (B2:=fC) m.configs.length (fun k=>(((),(k:Int),()),((m.configs,m.activated,()),()),())) (fun k=>(((),(k:Int),()),((m.configs,m.activated,()),()),())) (.inr (((),(),()),((m.configs,m.activated,()),()),())) (.inr (((),(),()),((m.configs,m.activated,()),()),())) (fun _=> .inl (((),false,()),((m.configs,m.activated,()),()),())) (fun _=> .inl (((),false,()),((m.configs,m.activated,()),()),()))
  (fun k=> ∀hk:k<m.configs.length,eC m.configs[k] =some (true,())/\m.configs[k].epoch=(k:Int)+1) (fun _=>True)
  (by simp only[fC]; rw[dV,if_neg (by omega)])
  (by simp only[fC]; rw[dV,if_neg (by omega)])
  (fun k hk=>by
    have c1: (k:Int)< (m.configs.length:Int):=by omega
    have c2: (0:Int)<=(k:Int):=by omega
    obtain⟨b,v1,v2⟩:=oG m.configs[k] (hc _ (aW hk))
    have jg:fC (((),(k:Int),()),((m.configs,m.activated,()),()),())=br b (br (m.configs[k].epoch==((k+1:Nat):Int)) (some (.inl (((),((k+1:Nat):Int),()),((m.configs,m.activated,()),()),()))) (some (.inr (.inl (((),false,()),((m.configs,m.activated,()),()),()))))) (some (.inr (.inl (((),false,()),((m.configs,m.activated,()),()),())))):=by simp only[fC,dV,dZ,if_pos c1,if_pos c2,ao,ah hk,ae,v1,ec hl hk,fg]
    rw[jg];cases b with
    |false=>exact .inr ⟨rfl,rfl,trivial⟩
    |true=>
     rw[eb,kt];by_cases he:m.configs[k].epoch=((k+1:Nat):Int)
     ·rw[if_pos he];exact .inl ⟨rfl,rfl,fun _=>⟨v1,by omega⟩⟩
     ·rw[if_neg he];exact .inr ⟨rfl,rfl,trivial⟩)
 unfold fj at hv;rcases gA with ⟨k1,_,k3⟩| ⟨k,_,k1,_,_⟩
 ·rw[show lJ (((),0,()),((m.configs,m.activated,()),()),())=_ from k1] at hv;simp only[ae,cu,lV,af,an,and_true] at hv;exact⟨fun k hk=>k3 k hk hk,(fB.1 hv).1,(fB.1 hv).2⟩
 ·rw[show lJ (((),0,()),((m.configs,m.activated,()),()),())=_ from k1] at hv;cases hv
theorem Eb {s:dX} {id:Int} (h:gW 1048576 s) (hv:ey s id=some (true,())):0<=s.first/\s.first<=16/\s.log.length<=16/\0<=s.commit/\s.commit<=s.first+(s.log.length:Int)/\mp s.log=some (true,())/\mp s.learned=some (true,())/\0<=s.epoch/\s.epoch<=20:=by
 unfold ey at hv;simp only[lV,ae,fg] at hv;cases h1:kE s.version 1 2 with
 |false=>rw[h1] at hv; cases hv
 |true=>
 cases h2:kE s.epoch 0 20 with
 |false=>rw[h1,h2] at hv; cases hv
 |true=>
 rw[h1,h2] at hv;rcases vj s.log (eR h.2.1) with ⟨a1,a2,a3⟩| ⟨a1,a2⟩
 case inr=>simp only[a1,ae,eb,ek] at hv; cases hv
 rcases vj s.learned (eR h.2.2) with ⟨b1,b2,b3⟩| ⟨b1,b2⟩
 case inr=>simp only[a1,b1,ae,eb,ek] at hv; cases hv
 simp only[a1,b1,ae,eb] at hv;cases hw:kE s.first 0 16 with
 |false=>rw[hw] at hv; cases hv
 |true=>
 have hf:=fB.1 hw;rw[hw,eK (n:=s.first+(s.log.length:Int)) (by omega) (by omega)] at hv;simp only[eb] at hv;cases h3:kE (s.first+(s.log.length:Int)) 0 16 with
 |false=>rw[h3] at hv; cases hv
 |true=>
 cases h4:kE s.commit 0 (s.first+(s.log.length:Int)) with
 |false=>rw[h3,h4] at hv; cases hv
 |true=>
 exact⟨hf.1,hf.2,a3,(fB.1 h4).1,(fB.1 h4).2,a1,b1,(fB.1 h2).1,(fB.1 h2).2⟩
structure VC (x:dT):Prop where
 len:x.servers.length=5
 ml:fj x.master=some (true,())
 sides:km x.sides=some (true,())
 places:gD x.places=some (true,())
 lease:l4 x.lease=some (true,())
 now:0<=x.now/\x.now<=999
 up:0<=x.masterUp/\x.masterUp<=3
 srv: ∀k (hk:k<x.servers.length),ey x.servers[k] (k:Int)=some (true,())
theorem kh {x:dT} (h:iq 1048576 x) (hv:eg x=some (true,())):VC x:=by
 obtain⟨⟨hs1,hs2⟩,hsd,hml,hpl⟩:=h;have hm:=eR hs1
 have gA:=lA (B1:=ej) (B2:=ej) x.servers.length (fun k=>(((),(k:Int),()),((x.now,x.servers,x.sides,x.master.configs,x.master.activated,x.masterUp,x.lease.epoch,x.lease.holder,x.lease.ends,x.places,()),()),())) (fun k=>(((),(k:Int),()),((x.now,x.servers,x.sides,x.master.configs,x.master.activated,x.masterUp,x.lease.epoch,x.lease.holder,x.lease.ends,x.places,()),()),())) (.inr (((),()),(),())) (.inr (((),()),(),())) (fun _=> .inl ((false,()),(),())) (fun _=> .inl ((false,()),(),()))
  (fun k=> ∀hk:k<x.servers.length,ey x.servers[k] (k:Int)=some (true,())) (fun _=>True)
  (by simp only[ej]; rw[dV,if_neg (by omega)])
  (by simp only[ej]; rw[dV,if_neg (by omega)])
  (fun k hk=>by
    have c1: (k:Int)< (x.servers.length:Int):=by omega
    have c2: (0:Int)<=(k:Int):=by omega
    have hsk:=hs2 _ (aW hk);obtain⟨b,v1,v2⟩:=sW x.servers[k] (k:Int) hsk;obtain⟨n,n1,n2⟩:=ru x.servers[k].learned (eR hsk.2.2);obtain⟨c,d,d1,d2,d3⟩:=wq x.master x.servers[k].config.epoch hml;have hcfg:=gQ hsk.1
    have jg:ej (((),(k:Int),()),((x.now,x.servers,x.sides,x.master.configs,x.master.activated,x.masterUp,x.lease.epoch,x.lease.holder,x.lease.ends,x.places,()),()),())=some (.inr (.inl ((false,()),(),())))\/(b=true/\ej (((),(k:Int),()),((x.now,x.servers,x.sides,x.master.configs,x.master.activated,x.masterUp,x.lease.epoch,x.lease.holder,x.lease.ends,x.places,()),()),())=some (.inl (((),((k+1:Nat):Int),()),((x.now,x.servers,x.sides,x.master.configs,x.master.activated,x.masterUp,x.lease.epoch,x.lease.holder,x.lease.ends,x.places,()),()),()))):=by
     simp only[ej,dV,dZ,if_pos c1,if_pos c2,ao,ah hk,ae,v1,n1,ec hm hk,fg,
      show (⟨x.master.configs,x.master.activated⟩:dY)=x.master from rfl,d1,uI _ hcfg,(kg c x.servers[k].config d3).1]
     cases b with
     |false=>exact .inl rfl
     |true=>
      simp only[eb]
      repeat' split
      all_goals first |exact .inl trivial|exact .inr ⟨trivial,trivial⟩| (cases d<;>first |exact .inl rfl| (simp only[eb]; repeat' split)<;>first |exact .inl trivial|exact .inr ⟨trivial,trivial⟩)
    rcases jg with h1| ⟨rfl,h1⟩
    ·rw[h1]; exact .inr ⟨rfl,rfl,trivial⟩
    ·rw[h1]; exact .inl ⟨rfl,rfl,fun _=>v1⟩)
 unfold eg at hv;obtain⟨b1,a1,a2⟩:=wo x.sides (eR hsd);obtain⟨b2,m1,m2⟩:=masterLog x.master (j5 hml);obtain⟨b3,l1,l2⟩:=wZ x.lease;obtain⟨b4,p1,p2⟩:=pX x.places (eR hpl);simp only[lV,a1,m1,l1,p1,ae,fg,dV] at hv;cases h1:kE x.now 0 999 with
 |false=>rw[h1] at hv; cases hv
 |true=>
 cases h2: ((x.servers.length:Int)==5) with
 |false=>rw[h1,h2] at hv; cases hv
 |true=>
 cases b1 with
 |false=>rw[h1,h2] at hv; cases hv
 |true=>
 cases b2 with
 |false=>rw[h1,h2] at hv; cases hv
 |true=>
 cases h3:kE x.masterUp 0 3 with
 |false=>rw[h1,h2,h3] at hv; cases hv
 |true=>
 cases b3 with
 |false=>rw[h1,h2,h3] at hv; cases hv
 |true=>
 cases b4 with
 |false=>rw[h1,h2,h3] at hv; cases hv
 |true=>
 rw[h1,h2,h3] at hv;simp only[eb] at hv;by_cases h4:x.lease.epoch>x.master.activated
 ·rw[if_pos h4] at hv; cases hv
 ·rw[if_neg h4] at hv;rcases gA with ⟨k1,_,k3⟩| ⟨k,_,k1,_,_⟩
  ·refine⟨?_,m1,a1,p1,l1,fB.1 h1,fB.1 h3,fun k hk=>k3 k hk hk⟩;simp only[beq_iff_eq] at h2;omega
  ·rw[show iv (((),0,()),((x.now,x.servers,x.sides,x.master.configs,x.master.activated,x.masterUp,x.lease.epoch,x.lease.holder,x.lease.ends,x.places,()),()),())=_ from k1] at hv;cases hv
end Go.Proofs.YtjnleglhcppgcaaGreat.En
