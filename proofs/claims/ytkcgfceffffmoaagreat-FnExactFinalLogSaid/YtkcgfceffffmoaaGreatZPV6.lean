/- What a valid cluster is known to have. -/
import Derived.Test.YtkcgfceffffmoaaGreatZPV5
namespace Go.Proofs.YtkcgfceffffmoaaGreat.En
open Go
theorem PU {c:ai} (h:iM maxLen c) (hv:b9 c=some (true,())):KJ c.replicas∧KJ c.witnesses∧c.primary∈c.replicas∧1≤c.epoch∧c.epoch≤20∧ ∀ x∈c.replicas,x∉c.witnesses:=by
 unfold b9 gt at hv
 simp only [xj,Option.bind_some] at hv
 cases hw:tR c.epoch 1 20 with
 | false=>rw [hw] at hv; cases hv
 | true=>
   rw [hw] at hv
   rcases sW c.replicas h.1 with ⟨a1,a2,a3⟩ | ⟨a1,a2⟩
   ·rcases sW c.witnesses h.2 with ⟨b1,b2,b3⟩ | ⟨b1,b2⟩
    ·simp only [a1,b1,Option.bind_some,cW,(lM c.replicas c.primary h.1).1,MM _ _ a3 h.2,aE] at hv
     by_cases hp:c.primary∈c.replicas
     ·rw [if_pos hp] at hv
      refine⟨a3,b3,hp,(mz.1 hw).1,(mz.1 hw).2,fun x hx hxw=> ?_⟩
      have hz: ((((c.replicas.filter fun x=>decide (x∈c.witnesses)).length:Nat):Int)==0)=true:=by
       simpa using hv
      have hz: (c.replicas.filter fun x=>decide (x∈c.witnesses)).length=0:=by
       simp only [beq_iff_eq] at hz
       omega
      have:=List.eq_nil_of_length_eq_zero hz
      have hm:x∈c.replicas.filter fun x=>decide (x∈c.witnesses):=by simp [List.mem_filter,hx,hxw]
      rw [this] at hm
      cases hm
     ·rw [if_neg hp] at hv; cases hv
    ·simp only [a1,b1,Option.bind_some,cW,dh] at hv; cases hv
   ·simp only [a1,Option.bind_some,cW,dh] at hv; cases hv
theorem MO {m:aw} (h:Cr maxLen m) (hv:dy m=some (true,())): (∀ k (hk:k < m.configs.length),b9 m.configs[k] =some (true,())∧m.configs[k].epoch=(k:Int)+1)∧0≤m.activated∧m.activated≤(m.configs.length:Int):=by
 obtain⟨hl,hc⟩:=h
 have b8:=oG (B1:=bK) (B2:=bK) m.configs.length (fun k=>(((),(k:Int),()),((m.configs,m.activated,()),()),())) (fun k=>(((),(k:Int),()),((m.configs,m.activated,()),()),())) (.inr (((),(),()),((m.configs,m.activated,()),()),())) (.inr (((),(),()),((m.configs,m.activated,()),()),())) (fun _=> .inl (((),false,()),((m.configs,m.activated,()),()),())) (fun _=> .inl (((),false,()),((m.configs,m.activated,()),()),()))
  (fun k=> ∀ hk:k < m.configs.length,b9 m.configs[k] =some (true,())∧m.configs[k].epoch=(k:Int)+1) (fun _=>True)
  (by simp only [bK,dC]; rw [aE,if_neg (by omega)])
  (by simp only [bK,dC]; rw [aE,if_neg (by omega)])
  (fun k hk=>by
    have c1: (k:Int) < (m.configs.length:Int):=by omega
    have c2: (0:Int)≤(k:Int):=by omega
    obtain⟨b,v1,v2⟩:=uV m.configs[k] (hc _ (List.getElem_mem hk))
    have ic:bK (((),(k:Int),()),((m.configs,m.activated,()),()),())=br b (br (m.configs[k].epoch==((k+1:Nat):Int)) (some (.inl (((),((k+1:Nat):Int),()),((m.configs,m.activated,()),()),()))) (some (.inr (.inl (((),false,()),((m.configs,m.activated,()),()),()))))) (some (.inr (.inl (((),false,()),((m.configs,m.activated,()),()),())))):=by
     simp only [bK,dC,aE,co,if_pos c1,if_pos c2,Int.toNat_natCast,List.getElem?_eq_getElem hk,Option.bind_some,v1,b7 hl hk,oD]
    rw [ic]
    cases b with
    | false=>exact .inr ⟨rfl,rfl,trivial⟩
    | true=>
      rw [cW,xi]
      by_cases he:m.configs[k].epoch=((k+1:Nat):Int)
      ·rw [if_pos he]
       exact .inl ⟨rfl,rfl,fun _=>⟨v1,by omega⟩⟩
      ·rw [if_neg he]
       exact .inr ⟨rfl,rfl,trivial⟩)
 unfold dy jk at hv
 rcases b8 with ⟨k1,_,k3⟩ | ⟨k,_,k1,_,_⟩
 ·rw [show fO (((),0,()),((m.configs,m.activated,()),()),())=_ from k1] at hv
  simp only [Option.bind_some,Sum.elim_inr,xj,Option.some.injEq,Prod.mk.injEq,and_true] at hv
  exact⟨fun k hk=>k3 k hk hk,(mz.1 hv).1,(mz.1 hv).2⟩
 ·rw [show fO (((),0,()),((m.configs,m.activated,()),()),())=_ from k1] at hv
  cases hv
structure VC (x:aQ):Prop where
 len:x.servers.length=5
 ml:dy x.master=some (true,())
 sides:kY x.sides=some (true,())
 places:jG x.places=some (true,())
 lease:nf x.lease=some (true,())
 now:0≤x.now∧x.now≤999
 up:0≤x.masterUp∧x.masterUp≤3
 srv: ∀ k (hk:k < x.servers.length),dX x.servers[k] (k:Int)=some (true,())
theorem MP {x:aQ} (h:yZ 1048576 x) (hv:da x=some (true,())):VC x:=by
 obtain⟨⟨hs1,hs2⟩,hsd,hml,hpl⟩:=h
 have hm:=f7 hs1
 have b8:=oG (B1:=ba) (B2:=ba) x.servers.length (fun k=>(((),(k:Int),()),((x.now,x.servers,x.sides,x.master.configs,x.master.activated,x.masterUp,x.lease.epoch,x.lease.holder,x.lease.ends,x.places,()),()),())) (fun k=>(((),(k:Int),()),((x.now,x.servers,x.sides,x.master.configs,x.master.activated,x.masterUp,x.lease.epoch,x.lease.holder,x.lease.ends,x.places,()),()),())) (.inr (((),()),(),())) (.inr (((),()),(),())) (fun _=> .inl ((false,()),(),())) (fun _=> .inl ((false,()),(),()))
  (fun k=> ∀ hk:k < x.servers.length,dX x.servers[k] (k:Int)=some (true,())) (fun _=>True)
  (by simp only [ba,cL]; rw [aE,if_neg (by omega)])
  (by simp only [ba,cL]; rw [aE,if_neg (by omega)])
  (fun k hk=>by
    have c1: (k:Int) < (x.servers.length:Int):=by omega
    have c2: (0:Int)≤(k:Int):=by omega
    have hsk:=hs2 _ (List.getElem_mem hk)
    obtain⟨b,v1,v2⟩:=Bp x.servers[k] (k:Int) hsk
    obtain⟨n,n1,n2⟩:=AD x.servers[k].learned (f7 hsk.2.2)
    obtain⟨c,d,d1,d2,d3⟩:=ES x.master x.servers[k].config.epoch hml
    have hcfg:=oE hsk.1
    have ic:ba (((),(k:Int),()),((x.now,x.servers,x.sides,x.master.configs,x.master.activated,x.masterUp,x.lease.epoch,x.lease.holder,x.lease.ends,x.places,()),()),())=some (.inr (.inl ((false,()),(),())))∨(b=true∧ba (((),(k:Int),()),((x.now,x.servers,x.sides,x.master.configs,x.master.activated,x.masterUp,x.lease.epoch,x.lease.holder,x.lease.ends,x.places,()),()),())=some (.inl (((),((k+1:Nat):Int),()),((x.now,x.servers,x.sides,x.master.configs,x.master.activated,x.masterUp,x.lease.epoch,x.lease.holder,x.lease.ends,x.places,()),()),()))):=by
     simp only [ba,cL,aE,co,if_pos c1,if_pos c2,Int.toNat_natCast,List.getElem?_eq_getElem hk,Option.bind_some,v1,n1,b7 hm hk,oD,
      show (⟨x.master.configs,x.master.activated⟩:aw)=x.master from rfl,d1,Ij _ hcfg,(lN c x.servers[k].config d3).1]
     cases b with
     | false=>exact .inl rfl
     | true=>
       simp only [cW]
       repeat' split
       all_goals first | exact .inl trivial | exact .inr ⟨trivial,trivial⟩ | (cases d <;> first | exact .inl rfl | (simp only [cW]; repeat' split) <;> first | exact .inl trivial | exact .inr ⟨trivial,trivial⟩)
    rcases ic with h1 | ⟨rfl,h1⟩
    ·rw [h1]; exact .inr ⟨rfl,rfl,trivial⟩
    ·rw [h1]; exact .inl ⟨rfl,rfl,fun _=>v1⟩)
 unfold da fG at hv
 obtain⟨b1,a1,a2⟩:=KD x.sides (f7 hsd)
 obtain⟨b2,m1,m2⟩:=masterLog x.master (pO hml)
 obtain⟨b3,l1,l2⟩:=MN x.lease
 obtain⟨b4,p1,p2⟩:=GA x.places (f7 hpl)
 simp only [xj,a1,m1,l1,p1,Option.bind_some,oD,aE] at hv
 cases h1:tR x.now 0 999 with
 | false=>rw [h1] at hv; cases hv
 | true=>
 cases h2: ((x.servers.length:Int)==5) with
 | false=>rw [h1,h2] at hv; cases hv
 | true=>
 cases b1 with
 | false=>rw [h1,h2] at hv; cases hv
 | true=>
 cases b2 with
 | false=>rw [h1,h2] at hv; cases hv
 | true=>
 cases h3:tR x.masterUp 0 3 with
 | false=>rw [h1,h2,h3] at hv; cases hv
 | true=>
 cases b3 with
 | false=>rw [h1,h2,h3] at hv; cases hv
 | true=>
 cases b4 with
 | false=>rw [h1,h2,h3] at hv; cases hv
 | true=>
 rw [h1,h2,h3] at hv
 simp only [cW] at hv
 by_cases h4:x.lease.epoch > x.master.activated
 ·rw [if_pos h4] at hv; cases hv
 ·rw [if_neg h4] at hv
  rcases b8 with ⟨k1,_,k3⟩ | ⟨k,_,k1,_,_⟩
  ·refine⟨?_,m1,a1,p1,l1,mz.1 h1,mz.1 h3,fun k hk=>k3 k hk hk⟩
   simp only [beq_iff_eq] at h2
   omega
  ·rw [show eZ (((),0,()),((x.now,x.servers,x.sides,x.master.configs,x.master.activated,x.masterUp,x.lease.epoch,x.lease.holder,x.lease.ends,x.places,()),()),())=_ from k1] at hv
   cases hv
end Go.Proofs.YtkcgfceffffmoaaGreat.En
