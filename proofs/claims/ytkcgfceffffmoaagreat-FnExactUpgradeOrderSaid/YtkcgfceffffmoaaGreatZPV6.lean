/- What a valid cluster is known to have. -/
import Derived.Test.YtkcgfceffffmoaaGreatZPV5
namespace Go.Proofs.YtkcgfceffffmoaaGreat.En
open Go
theorem RC {c:ai} (h:jG maxLen c) (hv:cq c=some (true,())):Ms c.replicas∧Ms c.witnesses∧c.primary∈c.replicas∧1≤c.epoch∧c.epoch≤20∧ ∀ x∈c.replicas,x∉c.witnesses:=by
 unfold cq iy at hv
 simp only [zw,Option.bind_some] at hv
 cases hw:vu c.epoch 1 20 with
 | false=>rw [hw] at hv; cases hv
 | true=>
   rw [hw] at hv
   rcases uF c.replicas h.1 with ⟨a1,a2,a3⟩ | ⟨a1,a2⟩
   ·rcases uF c.witnesses h.2 with ⟨b1,b2,b3⟩ | ⟨b1,b2⟩
    ·simp only [a1,b1,Option.bind_some,dv,(lD c.replicas c.primary h.1).1,OE _ _ a3 h.2,aA] at hv
     by_cases hp:c.primary∈c.replicas
     ·rw [if_pos hp] at hv
      refine⟨a3,b3,hp,(od.1 hw).1,(od.1 hw).2,fun x hx hxw=> ?_⟩
      have hz: ((((c.replicas.filter fun x=>decide (x∈c.witnesses)).length:Nat):Int)==0)=true:=by
       simpa using hv
      have hz: (c.replicas.filter fun x=>decide (x∈c.witnesses)).length=0:=by
       simp only [beq_iff_eq] at hz
       omega
      have:=List.eq_nil_of_length_eq_zero hz
      have hm:x∈c.replicas.filter fun x=>decide (x∈c.witnesses):=by simp [List.mem_filter,hx,hxw]
      rw [this] at hm
      cases hm
     ·rw [if_neg hp] at hv; cases hv
    ·simp only [a1,b1,Option.bind_some,dv,dz] at hv; cases hv
   ·simp only [a1,Option.bind_some,dv,dz] at hv; cases hv
theorem OG {m:ay} (h:Ee maxLen m) (hv:dY m=some (true,())): (∀ k (hk:k < m.configs.length),cq m.configs[k] =some (true,())∧m.configs[k].epoch=(k:Int)+1)∧0≤m.activated∧m.activated≤(m.configs.length:Int):=by
 obtain⟨hl,hc⟩:=h
 have b7:=p6 (B1:=bU) (B2:=bU) m.configs.length (fun k=>(((),(k:Int),()),((m.configs,m.activated,()),()),())) (fun k=>(((),(k:Int),()),((m.configs,m.activated,()),()),())) (.inr (((),(),()),((m.configs,m.activated,()),()),())) (.inr (((),(),()),((m.configs,m.activated,()),()),())) (fun _=> .inl (((),false,()),((m.configs,m.activated,()),()),())) (fun _=> .inl (((),false,()),((m.configs,m.activated,()),()),()))
  (fun k=> ∀ hk:k < m.configs.length,cq m.configs[k] =some (true,())∧m.configs[k].epoch=(k:Int)+1) (fun _=>True)
  (by simp only [bU,ed]; rw [aA,if_neg (by omega)])
  (by simp only [bU,ed]; rw [aA,if_neg (by omega)])
  (fun k hk=>by
    have c1: (k:Int) < (m.configs.length:Int):=by omega
    have c2: (0:Int)≤(k:Int):=by omega
    obtain⟨b,v1,v2⟩:=wI m.configs[k] (hc _ (List.getElem_mem hk))
    have iw:bU (((),(k:Int),()),((m.configs,m.activated,()),()),())=br b (br (m.configs[k].epoch==((k+1:Nat):Int)) (some (.inl (((),((k+1:Nat):Int),()),((m.configs,m.activated,()),()),()))) (some (.inr (.inl (((),false,()),((m.configs,m.activated,()),()),()))))) (some (.inr (.inl (((),false,()),((m.configs,m.activated,()),()),())))):=by
     simp only [bU,ed,aA,bR,if_pos c1,if_pos c2,Int.toNat_natCast,List.getElem?_eq_getElem hk,Option.bind_some,v1,bD hl hk,oC]
    rw [iw]
    cases b with
    | false=>exact .inr ⟨rfl,rfl,trivial⟩
    | true=>
      rw [dv,Cp]
      by_cases he:m.configs[k].epoch=((k+1:Nat):Int)
      ·rw [if_pos he]
       exact .inl ⟨rfl,rfl,fun _=>⟨v1,by omega⟩⟩
      ·rw [if_neg he]
       exact .inr ⟨rfl,rfl,trivial⟩)
 unfold dY ke at hv
 rcases b7 with ⟨k1,_,k3⟩ | ⟨k,_,k1,_,_⟩
 ·rw [show gO (((),0,()),((m.configs,m.activated,()),()),())=_ from k1] at hv
  simp only [Option.bind_some,Sum.elim_inr,zw,Option.some.injEq,Prod.mk.injEq,and_true] at hv
  exact⟨fun k hk=>k3 k hk hk,(od.1 hv).1,(od.1 hv).2⟩
 ·rw [show gO (((),0,()),((m.configs,m.activated,()),()),())=_ from k1] at hv
  cases hv
structure VC (x:aG):Prop where
 len:x.servers.length=5
 ml:dY x.master=some (true,())
 sides:mh x.sides=some (true,())
 places:kD x.places=some (true,())
 lease:oK x.lease=some (true,())
 now:0≤x.now∧x.now≤999
 up:0≤x.masterUp∧x.masterUp≤3
 srv: ∀ k (hk:k < x.servers.length),eI x.servers[k] (k:Int)=some (true,())
theorem OH {x:aG} (h:A4 1048576 x) (hv:dG x=some (true,())):VC x:=by
 obtain⟨⟨hs1,hs2⟩,hsd,hml,hpl⟩:=h
 have hm:=hZ hs1
 have b7:=p6 (B1:=bi) (B2:=bi) x.servers.length (fun k=>(((),(k:Int),()),((x.now,x.servers,x.sides,x.master.configs,x.master.activated,x.masterUp,x.lease.epoch,x.lease.holder,x.lease.ends,x.places,()),()),())) (fun k=>(((),(k:Int),()),((x.now,x.servers,x.sides,x.master.configs,x.master.activated,x.masterUp,x.lease.epoch,x.lease.holder,x.lease.ends,x.places,()),()),())) (.inr (((),()),(),())) (.inr (((),()),(),())) (fun _=> .inl ((false,()),(),())) (fun _=> .inl ((false,()),(),()))
  (fun k=> ∀ hk:k < x.servers.length,eI x.servers[k] (k:Int)=some (true,())) (fun _=>True)
  (by simp only [bi,c9]; rw [aA,if_neg (by omega)])
  (by simp only [bi,c9]; rw [aA,if_neg (by omega)])
  (fun k hk=>by
    have c1: (k:Int) < (x.servers.length:Int):=by omega
    have c2: (0:Int)≤(k:Int):=by omega
    have hsk:=hs2 _ (List.getElem_mem hk)
    obtain⟨b,v1,v2⟩:=Dd x.servers[k] (k:Int) hsk
    obtain⟨n,n1,n2⟩:=Cr x.servers[k].learned (hZ hsk.2.2)
    obtain⟨c,d,d1,d2,d3⟩:=GC x.master x.servers[k].config.epoch hml
    have hcfg:=pY hsk.1
    have iw:bi (((),(k:Int),()),((x.now,x.servers,x.sides,x.master.configs,x.master.activated,x.masterUp,x.lease.epoch,x.lease.holder,x.lease.ends,x.places,()),()),())=some (.inr (.inl ((false,()),(),())))∨(b=true∧bi (((),(k:Int),()),((x.now,x.servers,x.sides,x.master.configs,x.master.activated,x.masterUp,x.lease.epoch,x.lease.holder,x.lease.ends,x.places,()),()),())=some (.inl (((),((k+1:Nat):Int),()),((x.now,x.servers,x.sides,x.master.configs,x.master.activated,x.masterUp,x.lease.epoch,x.lease.holder,x.lease.ends,x.places,()),()),()))):=by
     simp only [bi,c9,aA,bR,if_pos c1,if_pos c2,Int.toNat_natCast,List.getElem?_eq_getElem hk,Option.bind_some,v1,n1,bD hm hk,oC,
      show (⟨x.master.configs,x.master.activated⟩:ay)=x.master from rfl,d1,Ka _ hcfg,(nm c x.servers[k].config d3).1]
     cases b with
     | false=>exact .inl rfl
     | true=>
       simp only [dv]
       repeat' split
       all_goals first | exact .inl trivial | exact .inr ⟨trivial,trivial⟩ | (cases d <;> first | exact .inl rfl | (simp only [dv]; repeat' split) <;> first | exact .inl trivial | exact .inr ⟨trivial,trivial⟩)
    rcases iw with h1 | ⟨rfl,h1⟩
    ·rw [h1]; exact .inr ⟨rfl,rfl,trivial⟩
    ·rw [h1]; exact .inl ⟨rfl,rfl,fun _=>v1⟩)
 unfold dG gz at hv
 obtain⟨b1,a1,a2⟩:=Mv x.sides (hZ hsd)
 obtain⟨b2,m1,m2⟩:=masterLog x.master (rg hml)
 obtain⟨b3,l1,l2⟩:=OF x.lease
 obtain⟨b4,p1,p2⟩:=It x.places (hZ hpl)
 simp only [zw,a1,m1,l1,p1,Option.bind_some,oC,aA] at hv
 cases h1:vu x.now 0 999 with
 | false=>rw [h1] at hv; cases hv
 | true=>
 cases h2: ((x.servers.length:Int)==5) with
 | false=>rw [h1,h2] at hv; cases hv
 | true=>
 cases b1 with
 | false=>rw [h1,h2] at hv; cases hv
 | true=>
 cases b2 with
 | false=>rw [h1,h2] at hv; cases hv
 | true=>
 cases h3:vu x.masterUp 0 3 with
 | false=>rw [h1,h2,h3] at hv; cases hv
 | true=>
 cases b3 with
 | false=>rw [h1,h2,h3] at hv; cases hv
 | true=>
 cases b4 with
 | false=>rw [h1,h2,h3] at hv; cases hv
 | true=>
 rw [h1,h2,h3] at hv
 simp only [dv] at hv
 by_cases h4:x.lease.epoch > x.master.activated
 ·rw [if_pos h4] at hv; cases hv
 ·rw [if_neg h4] at hv
  rcases b7 with ⟨k1,_,k3⟩ | ⟨k,_,k1,_,_⟩
  ·refine⟨?_,m1,a1,p1,l1,od.1 h1,od.1 h3,fun k hk=>k3 k hk hk⟩
   simp only [beq_iff_eq] at h2
   omega
  ·rw [show fM (((),0,()),((x.now,x.servers,x.sides,x.master.configs,x.master.activated,x.masterUp,x.lease.epoch,x.lease.holder,x.lease.ends,x.places,()),()),())=_ from k1] at hv
   cases hv
end Go.Proofs.YtkcgfceffffmoaaGreat.En
