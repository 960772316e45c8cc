/- What a valid cluster is known to have. -/
import Derived.Test.YtkcgfceffffmoaaGreatZPV5
namespace Go.Proofs.YtkcgfceffffmoaaGreat.En
open Go
theorem Gw {c:dW} (h:nm maxLen c) (hv:fI c=some (true,())):MH c.replicas/\MH c.witnesses/\c.primary∈c.replicas/\1<=c.epoch/\c.epoch<=20/\ ∀ x∈c.replicas,x∉c.witnesses:=by
 unfold fI sX at hv;simp only [vk,ae] at hv;cases hw:sP c.epoch 1 20 with
 | false=>rw [hw] at hv; cases hv
 | true=>
   rw [hw] at hv;rcases JS c.replicas h.1 with ⟨a1,a2,a3⟩ | ⟨a1,a2⟩
   ·rcases JS c.witnesses h.2 with ⟨b1,b2,b3⟩ | ⟨b1,b2⟩
    ·simp only [a1,b1,ae,ew,(kP c.replicas c.primary h.1).1,X8 _ _ a3 h.2,ec] at hv;by_cases hp:c.primary∈c.replicas
     ·rw [if_pos hp] at hv;refine⟨a3,b3,hp,(jD.1 hw).1,(jD.1 hw).2,fun x hx hxw=> ?_⟩
      have hz: ((((c.replicas.filter fun x=>decide (x∈c.witnesses)).length:Nat):Int)==0)=true:=by
       simpa using hv
      have hz: (c.replicas.filter fun x=>decide (x∈c.witnesses)).length=0:=by
       simp only [beq_iff_eq] at hz;omega
      have:=bC hz;have hm:x∈c.replicas.filter fun x=>decide (x∈c.witnesses):=by simp [cr,hx,hxw]
      rw [this] at hm;cases hm
     ·rw [if_neg hp] at hv; cases hv
    ·simp only [a1,b1,ae,ew,fA] at hv; cases hv
   ·simp only [a1,ae,ew,fA] at hv; cases hv
theorem SX {m:ei} (h:JQ maxLen m) (hv:ib m=some (true,())): (∀ k (hk:k < m.configs.length),fI m.configs[k] =some (true,())/\m.configs[k].epoch=(k:Int)+1)/\0<=m.activated/\m.activated<=(m.configs.length:Int):=by
 obtain⟨hl,hc⟩:=h
 have fC:=ug (B1:=gv) (B2:=gv) m.configs.length (fun k=>(((),(k:Int),()),((m.configs,m.activated,()),()),())) (fun k=>(((),(k:Int),()),((m.configs,m.activated,()),()),())) (.inr (((),(),()),((m.configs,m.activated,()),()),())) (.inr (((),(),()),((m.configs,m.activated,()),()),())) (fun _=> .inl (((),false,()),((m.configs,m.activated,()),()),())) (fun _=> .inl (((),false,()),((m.configs,m.activated,()),()),()))
  (fun k=> ∀ hk:k < m.configs.length,fI m.configs[k] =some (true,())/\m.configs[k].epoch=(k:Int)+1) (fun _=>True)
  (by simp only [gv,my,nH]; rw [ec,if_neg (by omega)])
  (by simp only [gv,my,nH]; rw [ec,if_neg (by omega)])
  (fun k hk=>by
    have c1: (k:Int) < (m.configs.length:Int):=by omega
    have c2: (0:Int)<=(k:Int):=by omega
    obtain⟨b,v1,v2⟩:=Bs m.configs[k] (hc _ (bc hk))
    have pO:gv (((),(k:Int),()),((m.configs,m.activated,()),()),())=br b (br (m.configs[k].epoch==((k+1:Nat):Int)) (some (.inl (((),((k+1:Nat):Int),()),((m.configs,m.activated,()),()),()))) (some (.inr (.inl (((),false,()),((m.configs,m.activated,()),()),()))))) (some (.inr (.inl (((),false,()),((m.configs,m.activated,()),()),())))):=by
     simp only [gv,my,nH,ec,ez,if_pos c1,if_pos c2,aw,ai hk,ae,v1,eB hl hk,iq]
    rw [pO];cases b with
    | false=>exact .inr ⟨rfl,rfl,trivial⟩
    | true=>
      rw [ew,sx];by_cases he:m.configs[k].epoch=((k+1:Nat):Int)
      ·rw [if_pos he];exact .inl ⟨rfl,rfl,fun _=>⟨v1,by omega⟩⟩
      ·rw [if_neg he];exact .inr ⟨rfl,rfl,trivial⟩)
 unfold ib wY at hv;rcases fC with ⟨k1,_,k3⟩ | ⟨k,_,k1,_,_⟩
 ·rw [show oY (((),0,()),((m.configs,m.activated,()),()),())=_ from k1] at hv;simp only [ae,aB,vk,af,aq,and_true] at hv;exact⟨fun k hk=>k3 k hk hk,(jD.1 hv).1,(jD.1 hv).2⟩
 ·rw [show oY (((),0,()),((m.configs,m.activated,()),()),())=_ from k1] at hv;cases hv
theorem aa3 {s:eb} {id:Int} (h:nX 1048576 s) (hv:fw s id=some (true,())):0<=s.first/\s.first<=16/\s.log.length<=16/\0<=s.commit/\s.commit<=s.first+(s.log.length:Int)/\sI s.log=some (true,())/\sI s.learned=some (true,())/\0<=s.epoch/\s.epoch<=20:=by
 unfold fw mz at hv;simp only [vk,ae,iq] at hv;cases h1:sP s.version 1 2 with
 | false=>rw [h1] at hv; cases hv
 | true=>
 cases h2:sP s.epoch 0 20 with
 | false=>rw [h1,h2] at hv; cases hv
 | true=>
 rw [h1,h2] at hv;rcases KG s.log (gJ h.2.1) with ⟨a1,a2,a3⟩ | ⟨a1,a2⟩
 case inr=>simp only [a1,ae,ew,fA] at hv; cases hv
 rcases KG s.learned (gJ h.2.2) with ⟨b1,b2,b3⟩ | ⟨b1,b2⟩
 case inr=>simp only [a1,b1,ae,ew,fA] at hv; cases hv
 simp only [a1,b1,ae,ew] at hv;cases hw:sP s.first 0 16 with
 | false=>rw [hw] at hv; cases hv
 | true=>
 have hf:=jD.1 hw;rw [hw,iY (n:=s.first+(s.log.length:Int)) (by omega) (by omega)] at hv;simp only [ew] at hv;cases h3:sP (s.first+(s.log.length:Int)) 0 16 with
 | false=>rw [h3] at hv; cases hv
 | true=>
 cases h4:sP s.commit 0 (s.first+(s.log.length:Int)) with
 | false=>rw [h3,h4] at hv; cases hv
 | true=>
 exact⟨hf.1,hf.2,a3,(jD.1 h4).1,(jD.1 h4).2,a1,b1,(jD.1 h2).1,(jD.1 h2).2⟩
structure VC (x:dV):Prop where
 len:x.servers.length=5
 ml:ib x.master=some (true,())
 sides:oW x.sides=some (true,())
 places:kB x.places=some (true,())
 lease:qJ x.lease=some (true,())
 now:0<=x.now/\x.now<=999
 up:0<=x.masterUp/\x.masterUp<=3
 srv: ∀ k (hk:k < x.servers.length),fw x.servers[k] (k:Int)=some (true,())
theorem rU {x:dV} (h:pg 1048576 x) (hv:eC x=some (true,())):VC x:=by
 obtain⟨⟨hs1,hs2⟩,hsd,hml,hpl⟩:=h;have hm:=gJ hs1
 have fC:=ug (B1:=eP) (B2:=eP) x.servers.length (fun k=>(((),(k:Int),()),((x.now,x.servers,x.sides,x.master.configs,x.master.activated,x.masterUp,x.lease.epoch,x.lease.holder,x.lease.ends,x.places,()),()),())) (fun k=>(((),(k:Int),()),((x.now,x.servers,x.sides,x.master.configs,x.master.activated,x.masterUp,x.lease.epoch,x.lease.holder,x.lease.ends,x.places,()),()),())) (.inr (((),()),(),())) (.inr (((),()),(),())) (fun _=> .inl ((false,()),(),())) (fun _=> .inl ((false,()),(),()))
  (fun k=> ∀ hk:k < x.servers.length,fw x.servers[k] (k:Int)=some (true,())) (fun _=>True)
  (by simp only [eP,ic,iP]; rw [ec,if_neg (by omega)])
  (by simp only [eP,ic,iP]; rw [ec,if_neg (by omega)])
  (fun k hk=>by
    have c1: (k:Int) < (x.servers.length:Int):=by omega
    have c2: (0:Int)<=(k:Int):=by omega
    have hsk:=hs2 _ (bc hk);obtain⟨b,v1,v2⟩:=Hl x.servers[k] (k:Int) hsk;obtain⟨n,n1,n2⟩:=FQ x.servers[k].learned (gJ hsk.2.2);obtain⟨c,d,d1,d2,d3⟩:=ML x.master x.servers[k].config.epoch hml;have hcfg:=mr hsk.1
    have pO:eP (((),(k:Int),()),((x.now,x.servers,x.sides,x.master.configs,x.master.activated,x.masterUp,x.lease.epoch,x.lease.holder,x.lease.ends,x.places,()),()),())=some (.inr (.inl ((false,()),(),())))\/(b=true/\eP (((),(k:Int),()),((x.now,x.servers,x.sides,x.master.configs,x.master.activated,x.masterUp,x.lease.epoch,x.lease.holder,x.lease.ends,x.places,()),()),())=some (.inl (((),((k+1:Nat):Int),()),((x.now,x.servers,x.sides,x.master.configs,x.master.activated,x.masterUp,x.lease.epoch,x.lease.holder,x.lease.ends,x.places,()),()),()))):=by
     simp only [eP,ic,iP,ec,ez,if_pos c1,if_pos c2,aw,ai hk,ae,v1,n1,eB hm hk,iq,
      show (⟨x.master.configs,x.master.activated⟩:ei)=x.master from rfl,d1,JT _ hcfg,(rT c x.servers[k].config d3).1]
     cases b with
     | false=>exact .inl rfl
     | true=>
       simp only [ew]
       repeat' split
       all_goals first | exact .inl trivial | exact .inr ⟨trivial,trivial⟩ | (cases d <;> first | exact .inl rfl | (simp only [ew]; repeat' split) <;> first | exact .inl trivial | exact .inr ⟨trivial,trivial⟩)
    rcases pO with h1 | ⟨rfl,h1⟩
    ·rw [h1]; exact .inr ⟨rfl,rfl,trivial⟩
    ·rw [h1]; exact .inl ⟨rfl,rfl,fun _=>v1⟩)
 unfold eC m9 at hv;obtain⟨b1,a1,a2⟩:=MJ x.sides (gJ hsd);obtain⟨b2,m1,m2⟩:=masterLog x.master (q9 hml);obtain⟨b3,l1,l2⟩:=Ni x.lease;obtain⟨b4,p1,p2⟩:=Ds x.places (gJ hpl);simp only [vk,a1,m1,l1,p1,ae,iq,ec] at hv;cases h1:sP x.now 0 999 with
 | false=>rw [h1] at hv; cases hv
 | true=>
 cases h2: ((x.servers.length:Int)==5) with
 | false=>rw [h1,h2] at hv; cases hv
 | true=>
 cases b1 with
 | false=>rw [h1,h2] at hv; cases hv
 | true=>
 cases b2 with
 | false=>rw [h1,h2] at hv; cases hv
 | true=>
 cases h3:sP x.masterUp 0 3 with
 | false=>rw [h1,h2,h3] at hv; cases hv
 | true=>
 cases b3 with
 | false=>rw [h1,h2,h3] at hv; cases hv
 | true=>
 cases b4 with
 | false=>rw [h1,h2,h3] at hv; cases hv
 | true=>
 rw [h1,h2,h3] at hv;simp only [ew] at hv;by_cases h4:x.lease.epoch > x.master.activated
 ·rw [if_pos h4] at hv; cases hv
 ·rw [if_neg h4] at hv;rcases fC with ⟨k1,_,k3⟩ | ⟨k,_,k1,_,_⟩
  ·refine⟨?_,m1,a1,p1,l1,jD.1 h1,jD.1 h3,fun k hk=>k3 k hk hk⟩;simp only [beq_iff_eq] at h2;omega
  ·rw [show kU (((),0,()),((x.now,x.servers,x.sides,x.master.configs,x.master.activated,x.masterUp,x.lease.epoch,x.lease.holder,x.lease.ends,x.places,()),()),())=_ from k1] at hv;cases hv
end Go.Proofs.YtkcgfceffffmoaaGreat.En
