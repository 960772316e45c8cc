/- What a valid cluster is known to have. -/
import Derived.Test.YtadpelkpdaohnaaGreatDoorZPV5
namespace Go.Proofs.YtadpelkpdaohnaaGreatDoor.En
open Go
theorem EJ {s:ek} {id:Int} (h:lP 1048576 s) (hv:dX s id=some (true,())):0<=s.first/\s.first<=16/\s.log.length<=16/\0<=s.commit/\s.commit<=s.first+(s.log.length:Int)/\kT s.log=some (true,())/\kT s.learned=some (true,())/\0<=s.epoch/\s.epoch<=20:=by
 unfold dX at hv;simp only[n9,af,jB] at hv;cases h1:mM s.version 1 2 with
 |false=>rw[h1] at hv; cases hv
 |true=>
 cases h2:mM s.epoch 0 20 with
 |false=>rw[h1,h2] at hv; cases hv
 |true=>
 rw[h1,h2] at hv;rcases BD s.log (fo h.2.1) with ⟨a1,a2,a3⟩| ⟨a1,a2⟩
 case inr=>simp only[a1,af,ea,dV] at hv; cases hv
 rcases BD s.learned (fo h.2.2) with ⟨b1,b2,b3⟩| ⟨b1,b2⟩
 case inr=>simp only[a1,b1,af,ea,dV] at hv; cases hv
 simp only[a1,b1,af,ea] at hv;cases hw:mM s.first 0 16 with
 |false=>rw[hw] at hv; cases hv
 |true=>
 have hf:=gT.1 hw;rw[hw,iG (n:=s.first+(s.log.length:Int)) (by omega) (by omega)] at hv;simp only[ea] at hv;cases h3:mM (s.first+(s.log.length:Int)) 0 16 with
 |false=>rw[h3] at hv; cases hv
 |true=>
 cases h4:mM s.commit 0 (s.first+(s.log.length:Int)) with
 |false=>rw[h3,h4] at hv; cases hv
 |true=>
 exact⟨hf.1,hf.2,a3,(gT.1 h4).1,(gT.1 h4).2,a1,b1,(gT.1 h2).1,(gT.1 h2).2⟩
structure VC (x:ev):Prop where
 len:x.servers.length=5
 ml:gf x.master=some (true,())
 sides:gO x.sides=some (true,())
 places:jh x.places=some (true,())
 lease:lc x.lease=some (true,())
 now:0<=x.now/\x.now<=999
 up:0<=x.masterUp/\x.masterUp<=3
 srv: ∀k (hk:k<x.servers.length),dX x.servers[k] (k:Int)=some (true,())
theorem Gd {x:ev} (h:qV 1048576 x) (hv:eY x=some (true,())):VC x:=by
 obtain⟨⟨hs1,hs2⟩,hsd,hml,hpl⟩:=h;have hm:=fo hs1
 have fb:=jX (B1:=dH) (B2:=dH) x.servers.length (fun k=>(((),(k:Int),()),((x.now,x.servers,x.sides,x.master.configs,x.master.activated,x.masterUp,x.lease.epoch,x.lease.holder,x.lease.ends,x.places,()),()),())) (fun k=>(((),(k:Int),()),((x.now,x.servers,x.sides,x.master.configs,x.master.activated,x.masterUp,x.lease.epoch,x.lease.holder,x.lease.ends,x.places,()),()),())) (.inr (((),()),(),())) (.inr (((),()),(),())) (fun _=> .inl ((false,()),(),())) (fun _=> .inl ((false,()),(),()))
  (fun k=> ∀hk:k<x.servers.length,dX x.servers[k] (k:Int)=some (true,())) (fun _=>True)
  (by simp only[dH]; rw[dx,if_neg (by omega)])
  (by simp only[dH]; rw[dx,if_neg (by omega)])
  (fun k hk=>by
    have c1: (k:Int)< (x.servers.length:Int):=by omega
    have c2: (0:Int)<=(k:Int):=by omega
    have hsk:=hs2 _ (b7 hk);obtain⟨b,v1,v2⟩:=rv x.servers[k] (k:Int) hsk;obtain⟨n,n1,n2⟩:=qX x.servers[k].learned (fo hsk.2.2);obtain⟨c,d,d1,d2,d3⟩:=zl x.master x.servers[k].config.epoch hml;have hcfg:=jV hsk.1
    have eK:dH (((),(k:Int),()),((x.now,x.servers,x.sides,x.master.configs,x.master.activated,x.masterUp,x.lease.epoch,x.lease.holder,x.lease.ends,x.places,()),()),())=some (.inr (.inl ((false,()),(),())))\/(b=true/\dH (((),(k:Int),()),((x.now,x.servers,x.sides,x.master.configs,x.master.activated,x.masterUp,x.lease.epoch,x.lease.holder,x.lease.ends,x.places,()),()),())=some (.inl (((),((k+1:Nat):Int),()),((x.now,x.servers,x.sides,x.master.configs,x.master.activated,x.masterUp,x.lease.epoch,x.lease.holder,x.lease.ends,x.places,()),()),()))):=by
     simp only[dH,dx,eJ,if_pos c1,if_pos c2,aK,ah hk,af,v1,n1,dU hm hk,jB,
      show (⟨x.master.configs,x.master.activated⟩:dT)=x.master from rfl,d1,wZ _ hcfg,(iI c x.servers[k].config d3).1]
     cases b with
     |false=>exact .inl rfl
     |true=>
      simp only[ea]
      repeat' split
      all_goals first |exact .inl trivial|exact .inr ⟨trivial,trivial⟩| (cases d<;>first |exact .inl rfl| (simp only[ea]; repeat' split)<;>first |exact .inl trivial|exact .inr ⟨trivial,trivial⟩)
    rcases eK with h1| ⟨rfl,h1⟩
    ·rw[h1]; exact .inr ⟨rfl,rfl,trivial⟩
    ·rw[h1]; exact .inl ⟨rfl,rfl,fun _=>v1⟩)
 unfold eY at hv;obtain⟨b1,a1,a2⟩:=tW x.sides (fo hsd);obtain⟨b2,m1,m2⟩:=masterLog x.master (qY hml);obtain⟨b3,l1,l2⟩:=BC x.lease;obtain⟨b4,p1,p2⟩:=vy x.places (fo hpl);simp only[n9,a1,m1,l1,p1,af,jB,dx] at hv;cases h1:mM x.now 0 999 with
 |false=>rw[h1] at hv; cases hv
 |true=>
 cases h2: ((x.servers.length:Int)==5) with
 |false=>rw[h1,h2] at hv; cases hv
 |true=>
 cases b1 with
 |false=>rw[h1,h2] at hv; cases hv
 |true=>
 cases b2 with
 |false=>rw[h1,h2] at hv; cases hv
 |true=>
 cases h3:mM x.masterUp 0 3 with
 |false=>rw[h1,h2,h3] at hv; cases hv
 |true=>
 cases b3 with
 |false=>rw[h1,h2,h3] at hv; cases hv
 |true=>
 cases b4 with
 |false=>rw[h1,h2,h3] at hv; cases hv
 |true=>
 rw[h1,h2,h3] at hv;simp only[ea] at hv;by_cases h4:x.lease.epoch>x.master.activated
 ·rw[if_pos h4] at hv; cases hv
 ·rw[if_neg h4] at hv;rcases fb with ⟨k1,_,k3⟩| ⟨k,_,k1,_,_⟩
  ·refine⟨?_,m1,a1,p1,l1,gT.1 h1,gT.1 h3,fun k hk=>k3 k hk hk⟩;simp only[beq_iff_eq] at h2;omega
  ·rw[show gQ (((),0,()),((x.now,x.servers,x.sides,x.master.configs,x.master.activated,x.masterUp,x.lease.epoch,x.lease.holder,x.lease.ends,x.places,()),()),())=_ from k1] at hv;cases hv
end Go.Proofs.YtadpelkpdaohnaaGreatDoor.En
