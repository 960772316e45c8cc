/- What a valid cluster is known to have. -/
import Derived.Test.YtkcgfceffffmoaaGreatZPV5
namespace Go.Proofs.YtkcgfceffffmoaaGreat.En
open Go
theorem PL {c:ai} (h:hM maxLen c) (hv:cb c=some (true,())):KC c.replicas∧KC c.witnesses∧c.primary∈c.replicas∧1≤c.epoch∧c.epoch≤20∧ ∀ x∈c.replicas,x∉c.witnesses:=by
 unfold cb gr at hv
 simp only [vw,Option.bind_some] at hv
 cases hw:tL c.epoch 1 20 with
 | false=>rw [hw] at hv; cases hv
 | true=>
   rw [hw] at hv
   rcases sQ c.replicas h.1 with ⟨a1,a2,a3⟩ | ⟨a1,a2⟩
   ·rcases sQ c.witnesses h.2 with ⟨b1,b2,b3⟩ | ⟨b1,b2⟩
    ·simp only [a1,b1,Option.bind_some,cY,(lN c.replicas c.primary h.1).1,MD _ _ a3 h.2,az] at hv
     by_cases hp:c.primary∈c.replicas
     ·rw [if_pos hp] at hv
      refine⟨a3,b3,hp,(lM.1 hw).1,(lM.1 hw).2,fun x hx hxw=> ?_⟩
      have hz: ((((c.replicas.filter fun x=>decide (x∈c.witnesses)).length:Nat):Int)==0)=true:=by
       simpa using hv
      have hz: (c.replicas.filter fun x=>decide (x∈c.witnesses)).length=0:=by
       simp only [beq_iff_eq] at hz
       omega
      have:=List.eq_nil_of_length_eq_zero hz
      have hm:x∈c.replicas.filter fun x=>decide (x∈c.witnesses):=by simp [List.mem_filter,hx,hxw]
      rw [this] at hm
      cases hm
     ·rw [if_neg hp] at hv; cases hv
    ·simp only [a1,b1,Option.bind_some,cY,cI] at hv; cases hv
   ·simp only [a1,Option.bind_some,cY,cI] at hv; cases hv
theorem MF {m:aw} (h:Cj maxLen m) (hv:dx m=some (true,())): (∀ k (hk:k < m.configs.length),cb m.configs[k] =some (true,())∧m.configs[k].epoch=(k:Int)+1)∧0≤m.activated∧m.activated≤(m.configs.length:Int):=by
 obtain⟨hl,hc⟩:=h
 have ca:=oF (B1:=bK) (B2:=bK) m.configs.length (fun k=>(((),(k:Int),()),((m.configs,m.activated,()),()),())) (fun k=>(((),(k:Int),()),((m.configs,m.activated,()),()),())) (.inr (((),(),()),((m.configs,m.activated,()),()),())) (.inr (((),(),()),((m.configs,m.activated,()),()),())) (fun _=> .inl (((),false,()),((m.configs,m.activated,()),()),())) (fun _=> .inl (((),false,()),((m.configs,m.activated,()),()),()))
  (fun k=> ∀ hk:k < m.configs.length,cb m.configs[k] =some (true,())∧m.configs[k].epoch=(k:Int)+1) (fun _=>True)
  (by simp only [bK,dB]; rw [az,if_neg (by omega)])
  (by simp only [bK,dB]; rw [az,if_neg (by omega)])
  (fun k hk=>by
    have c1: (k:Int) < (m.configs.length:Int):=by omega
    have c2: (0:Int)≤(k:Int):=by omega
    obtain⟨b,v1,v2⟩:=uP m.configs[k] (hc _ (List.getElem_mem hk))
    have il:bK (((),(k:Int),()),((m.configs,m.activated,()),()),())=br b (br (m.configs[k].epoch==((k+1:Nat):Int)) (some (.inl (((),((k+1:Nat):Int),()),((m.configs,m.activated,()),()),()))) (some (.inr (.inl (((),false,()),((m.configs,m.activated,()),()),()))))) (some (.inr (.inl (((),false,()),((m.configs,m.activated,()),()),())))):=by
     simp only [bK,dB,az,bT,if_pos c1,if_pos c2,Int.toNat_natCast,List.getElem?_eq_getElem hk,Option.bind_some,v1,bU hl hk,oC]
    rw [il]
    cases b with
    | false=>exact .inr ⟨rfl,rfl,trivial⟩
    | true=>
      rw [cY,xe]
      by_cases he:m.configs[k].epoch=((k+1:Nat):Int)
      ·rw [if_pos he]
       exact .inl ⟨rfl,rfl,fun _=>⟨v1,by omega⟩⟩
      ·rw [if_neg he]
       exact .inr ⟨rfl,rfl,trivial⟩)
 unfold dx ji at hv
 rcases ca with ⟨k1,_,k3⟩ | ⟨k,_,k1,_,_⟩
 ·rw [show fO (((),0,()),((m.configs,m.activated,()),()),())=_ from k1] at hv
  simp only [Option.bind_some,Sum.elim_inr,vw,Option.some.injEq,Prod.mk.injEq,and_true] at hv
  exact⟨fun k hk=>k3 k hk hk,(lM.1 hv).1,(lM.1 hv).2⟩
 ·rw [show fO (((),0,()),((m.configs,m.activated,()),()),())=_ from k1] at hv
  cases hv
structure VC (x:aP):Prop where
 len:x.servers.length=5
 ml:dx x.master=some (true,())
 sides:kY x.sides=some (true,())
 places:jE x.places=some (true,())
 lease:nc x.lease=some (true,())
 now:0≤x.now∧x.now≤999
 up:0≤x.masterUp∧x.masterUp≤3
 srv: ∀ k (hk:k < x.servers.length),dX x.servers[k] (k:Int)=some (true,())
theorem MG {x:aP} (h:xd 1048576 x) (hv:cP x=some (true,())):VC x:=by
 obtain⟨⟨hs1,hs2⟩,hsd,hml,hpl⟩:=h
 have hm:=fV hs1
 have ca:=oF (B1:=ba) (B2:=ba) x.servers.length (fun k=>(((),(k:Int),()),((x.now,x.servers,x.sides,x.master.configs,x.master.activated,x.masterUp,x.lease.epoch,x.lease.holder,x.lease.ends,x.places,()),()),())) (fun k=>(((),(k:Int),()),((x.now,x.servers,x.sides,x.master.configs,x.master.activated,x.masterUp,x.lease.epoch,x.lease.holder,x.lease.ends,x.places,()),()),())) (.inr (((),()),(),())) (.inr (((),()),(),())) (fun _=> .inl ((false,()),(),())) (fun _=> .inl ((false,()),(),()))
  (fun k=> ∀ hk:k < x.servers.length,dX x.servers[k] (k:Int)=some (true,())) (fun _=>True)
  (by simp only [ba,cN]; rw [az,if_neg (by omega)])
  (by simp only [ba,cN]; rw [az,if_neg (by omega)])
  (fun k hk=>by
    have c1: (k:Int) < (x.servers.length:Int):=by omega
    have c2: (0:Int)≤(k:Int):=by omega
    have hsk:=hs2 _ (List.getElem_mem hk)
    obtain⟨b,v1,v2⟩:=Bh x.servers[k] (k:Int) hsk
    obtain⟨n,n1,n2⟩:=Ar x.servers[k].learned (fV hsk.2.2)
    obtain⟨c,d,d1,d2,d3⟩:=EJ x.master x.servers[k].config.epoch hml
    have hcfg:=oD hsk.1
    have il:ba (((),(k:Int),()),((x.now,x.servers,x.sides,x.master.configs,x.master.activated,x.masterUp,x.lease.epoch,x.lease.holder,x.lease.ends,x.places,()),()),())=some (.inr (.inl ((false,()),(),())))∨(b=true∧ba (((),(k:Int),()),((x.now,x.servers,x.sides,x.master.configs,x.master.activated,x.masterUp,x.lease.epoch,x.lease.holder,x.lease.ends,x.places,()),()),())=some (.inl (((),((k+1:Nat):Int),()),((x.now,x.servers,x.sides,x.master.configs,x.master.activated,x.masterUp,x.lease.epoch,x.lease.holder,x.lease.ends,x.places,()),()),()))):=by
     simp only [ba,cN,az,bT,if_pos c1,if_pos c2,Int.toNat_natCast,List.getElem?_eq_getElem hk,Option.bind_some,v1,n1,bU hm hk,oC,
      show (⟨x.master.configs,x.master.activated⟩:aw)=x.master from rfl,d1,H8 _ hcfg,(lO c x.servers[k].config d3).1]
     cases b with
     | false=>exact .inl rfl
     | true=>
       simp only [cY]
       repeat' split
       all_goals first | exact .inl trivial | exact .inr ⟨trivial,trivial⟩ | (cases d <;> first | exact .inl rfl | (simp only [cY]; repeat' split) <;> first | exact .inl trivial | exact .inr ⟨trivial,trivial⟩)
    rcases il with h1 | ⟨rfl,h1⟩
    ·rw [h1]; exact .inr ⟨rfl,rfl,trivial⟩
    ·rw [h1]; exact .inl ⟨rfl,rfl,fun _=>v1⟩)
 unfold cP fH at hv
 obtain⟨b1,a1,a2⟩:=Kt x.sides (fV hsd)
 obtain⟨b2,m1,m2⟩:=masterLog x.master (pM hml)
 obtain⟨b3,l1,l2⟩:=ME x.lease
 obtain⟨b4,p1,p2⟩:=Gq x.places (fV hpl)
 simp only [vw,a1,m1,l1,p1,Option.bind_some,oC,az] at hv
 cases h1:tL x.now 0 999 with
 | false=>rw [h1] at hv; cases hv
 | true=>
 cases h2: ((x.servers.length:Int)==5) with
 | false=>rw [h1,h2] at hv; cases hv
 | true=>
 cases b1 with
 | false=>rw [h1,h2] at hv; cases hv
 | true=>
 cases b2 with
 | false=>rw [h1,h2] at hv; cases hv
 | true=>
 cases h3:tL x.masterUp 0 3 with
 | false=>rw [h1,h2,h3] at hv; cases hv
 | true=>
 cases b3 with
 | false=>rw [h1,h2,h3] at hv; cases hv
 | true=>
 cases b4 with
 | false=>rw [h1,h2,h3] at hv; cases hv
 | true=>
 rw [h1,h2,h3] at hv
 simp only [cY] at hv
 by_cases h4:x.lease.epoch > x.master.activated
 ·rw [if_pos h4] at hv; cases hv
 ·rw [if_neg h4] at hv
  rcases ca with ⟨k1,_,k3⟩ | ⟨k,_,k1,_,_⟩
  ·refine⟨?_,m1,a1,p1,l1,lM.1 h1,lM.1 h3,fun k hk=>k3 k hk hk⟩
   simp only [beq_iff_eq] at h2
   omega
  ·rw [show fa (((),0,()),((x.now,x.servers,x.sides,x.master.configs,x.master.activated,x.masterUp,x.lease.epoch,x.lease.holder,x.lease.ends,x.places,()),()),())=_ from k1] at hv
   cases hv
end Go.Proofs.YtkcgfceffffmoaaGreat.En
