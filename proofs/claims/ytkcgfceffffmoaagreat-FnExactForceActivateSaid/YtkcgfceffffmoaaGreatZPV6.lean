/- What a valid cluster is known to have. -/
import Derived.Test.YtkcgfceffffmoaaGreatZPV5
namespace Go.Proofs.YtkcgfceffffmoaaGreat.En
open Go
theorem NP {c:ai} (h:iA maxLen c) (hv:bZ c=some (true,())):UM c.replicas∧UM c.witnesses∧c.primary∈c.replicas∧1≤c.epoch∧c.epoch≤20∧ ∀ x∈c.replicas,x∉c.witnesses:=by
 unfold bZ j7 at hv
 simp only [yu,Option.bind_some] at hv
 cases hw:t5 c.epoch 1 20 with
 | false=>rw [hw] at hv; cases hv
 | true=>
   rw [hw] at hv
   rcases zn c.replicas h.1 with ⟨a1,a2,a3⟩ | ⟨a1,a2⟩
   ·rcases zn c.witnesses h.2 with ⟨b1,b2,b3⟩ | ⟨b1,b2⟩
    ·simp only [a1,b1,Option.bind_some,bA,(lg c.replicas c.primary h.1).1,Le _ _ a3 h.2,aw] at hv
     by_cases hp:c.primary∈c.replicas
     ·rw [if_pos hp] at hv
      refine⟨a3,b3,hp,(jJ.1 hw).1,(jJ.1 hw).2,fun x hx hxw=> ?_⟩
      have hz: ((((c.replicas.filter fun x=>decide (x∈c.witnesses)).length:Nat):Int)==0)=true:=by
       simpa using hv
      have hz: (c.replicas.filter fun x=>decide (x∈c.witnesses)).length=0:=by
       simp only [beq_iff_eq] at hz
       omega
      have:=List.eq_nil_of_length_eq_zero hz
      have hm:x∈c.replicas.filter fun x=>decide (x∈c.witnesses):=by simp [List.mem_filter,hx,hxw]
      rw [this] at hm
      cases hm
     ·rw [if_neg hp] at hv; cases hv
    ·simp only [a1,b1,Option.bind_some,bA,bJ] at hv; cases hv
   ·simp only [a1,Option.bind_some,bA,bJ] at hv; cases hv
theorem Sa {m:ak} (h:AE maxLen m) (hv:cR m=some (true,())): (∀ k (hk:k < m.configs.length),bZ m.configs[k] =some (true,())∧m.configs[k].epoch=(k:Int)+1)∧0≤m.activated∧m.activated≤(m.configs.length:Int):=by
 obtain⟨hl,hc⟩:=h
 have bU:=rp (B1:=cj) (B2:=cj) m.configs.length (fun k=>(((),(k:Int),()),((m.configs,m.activated,()),()),())) (fun k=>(((),(k:Int),()),((m.configs,m.activated,()),()),())) (.inr (((),(),()),((m.configs,m.activated,()),()),())) (.inr (((),(),()),((m.configs,m.activated,()),()),())) (fun _=> .inl (((),false,()),((m.configs,m.activated,()),()),())) (fun _=> .inl (((),false,()),((m.configs,m.activated,()),()),()))
  (fun k=> ∀ hk:k < m.configs.length,bZ m.configs[k] =some (true,())∧m.configs[k].epoch=(k:Int)+1) (fun _=>True)
  (by simp only [cj,eV]; rw [aw,if_neg (by omega)])
  (by simp only [cj,eV]; rw [aw,if_neg (by omega)])
  (fun k hk=>by
    have c1: (k:Int) < (m.configs.length:Int):=by omega
    have c2: (0:Int)≤(k:Int):=by omega
    obtain⟨b,v1,v2⟩:=uv m.configs[k] (hc _ (List.getElem_mem hk))
    have j5:cj (((),(k:Int),()),((m.configs,m.activated,()),()),())=br b (br (m.configs[k].epoch==((k+1:Nat):Int)) (some (.inl (((),((k+1:Nat):Int),()),((m.configs,m.activated,()),()),()))) (some (.inr (.inl (((),false,()),((m.configs,m.activated,()),()),()))))) (some (.inr (.inl (((),false,()),((m.configs,m.activated,()),()),())))):=by
     simp only [cj,eV,aw,be,if_pos c1,if_pos c2,Int.toNat_natCast,List.getElem?_eq_getElem hk,Option.bind_some,v1,bF hl hk,ma]
    rw [j5]
    cases b with
    | false=>exact .inr ⟨rfl,rfl,trivial⟩
    | true=>
      rw [bA,we]
      by_cases he:m.configs[k].epoch=((k+1:Nat):Int)
      ·rw [if_pos he]
       exact .inl ⟨rfl,rfl,fun _=>⟨v1,by omega⟩⟩
      ·rw [if_neg he]
       exact .inr ⟨rfl,rfl,trivial⟩)
 unfold cR mw at hv
 rcases bU with ⟨k1,_,k3⟩ | ⟨k,_,k1,_,_⟩
 ·rw [show je (((),0,()),((m.configs,m.activated,()),()),())=_ from k1] at hv
  simp only [Option.bind_some,Sum.elim_inr,yu,Option.some.injEq,Prod.mk.injEq,and_true] at hv
  exact⟨fun k hk=>k3 k hk hk,(jJ.1 hv).1,(jJ.1 hv).2⟩
 ·rw [show je (((),0,()),((m.configs,m.activated,()),()),())=_ from k1] at hv
  cases hv
theorem aad {s:am} {id:Int} (h:kS 1048576 s) (hv:ck s id=some (true,())):0≤s.first∧s.first≤16∧s.log.length≤16∧0≤s.commit∧s.commit≤s.first+(s.log.length:Int)∧rr s.log=some (true,())∧rr s.learned=some (true,())∧0≤s.epoch∧s.epoch≤20:=by
 unfold ck ic at hv
 simp only [yu,Option.bind_some,ma] at hv
 cases h1:t5 s.version 1 2 with
 | false=>rw [h1] at hv; cases hv
 | true=>
 cases h2:t5 s.epoch 0 20 with
 | false=>rw [h1,h2] at hv; cases hv
 | true=>
 rw [h1,h2] at hv
 rcases NM s.log (dH h.2.1) with ⟨a1,a2,a3⟩ | ⟨a1,a2⟩
 case inr=>simp only [a1,Option.bind_some,bA,bJ] at hv; cases hv
 rcases NM s.learned (dH h.2.2) with ⟨b1,b2,b3⟩ | ⟨b1,b2⟩
 case inr=>simp only [a1,b1,Option.bind_some,bA,bJ] at hv; cases hv
 simp only [a1,b1,Option.bind_some,bA] at hv
 cases hw:t5 s.first 0 16 with
 | false=>rw [hw] at hv; cases hv
 | true=>
 have hf:=jJ.1 hw
 rw [hw,ec (n:=s.first+(s.log.length:Int)) (by omega) (by omega)] at hv
 simp only [bA] at hv
 cases h3:t5 (s.first+(s.log.length:Int)) 0 16 with
 | false=>rw [h3] at hv; cases hv
 | true=>
 cases h4:t5 s.commit 0 (s.first+(s.log.length:Int)) with
 | false=>rw [h3,h4] at hv; cases hv
 | true=>
 exact⟨hf.1,hf.2,a3,(jJ.1 h4).1,(jJ.1 h4).2,a1,b1,(jJ.1 h2).1,(jJ.1 h2).2⟩
structure VC (x:aj):Prop where
 len:x.servers.length=5
 ml:cR x.master=some (true,())
 sides:ku x.sides=some (true,())
 places:nq x.places=some (true,())
 lease:oa x.lease=some (true,())
 now:0≤x.now∧x.now≤999
 up:0≤x.masterUp∧x.masterUp≤3
 srv: ∀ k (hk:k < x.servers.length),ck x.servers[k] (k:Int)=some (true,())
theorem Cw {x:aj} (h:rl 1048576 x) (hv:bn x=some (true,())):VC x:=by
 obtain⟨⟨hs1,hs2⟩,hsd,hml,hpl⟩:=h
 have hm:=dH hs1
 have bU:=rp (B1:=bu) (B2:=bu) x.servers.length (fun k=>(((),(k:Int),()),((x.now,x.servers,x.sides,x.master.configs,x.master.activated,x.masterUp,x.lease.epoch,x.lease.holder,x.lease.ends,x.places,()),()),())) (fun k=>(((),(k:Int),()),((x.now,x.servers,x.sides,x.master.configs,x.master.activated,x.masterUp,x.lease.epoch,x.lease.holder,x.lease.ends,x.places,()),()),())) (.inr (((),()),(),())) (.inr (((),()),(),())) (fun _=> .inl ((false,()),(),())) (fun _=> .inl ((false,()),(),()))
  (fun k=> ∀ hk:k < x.servers.length,ck x.servers[k] (k:Int)=some (true,())) (fun _=>True)
  (by simp only [bu,dI]; rw [aw,if_neg (by omega)])
  (by simp only [bu,dI]; rw [aw,if_neg (by omega)])
  (fun k hk=>by
    have c1: (k:Int) < (x.servers.length:Int):=by omega
    have c2: (0:Int)≤(k:Int):=by omega
    have hsk:=hs2 _ (List.getElem_mem hk)
    obtain⟨b,v1,v2⟩:=Jy x.servers[k] (k:Int) hsk
    obtain⟨n,n1,n2⟩:=yw x.servers[k].learned (dH hsk.2.2)
    obtain⟨c,d,d1,d2,d3⟩:=NN x.master x.servers[k].config.epoch hml
    have hcfg:=kP hsk.1
    have j5:bu (((),(k:Int),()),((x.now,x.servers,x.sides,x.master.configs,x.master.activated,x.masterUp,x.lease.epoch,x.lease.holder,x.lease.ends,x.places,()),()),())=some (.inr (.inl ((false,()),(),())))∨(b=true∧bu (((),(k:Int),()),((x.now,x.servers,x.sides,x.master.configs,x.master.activated,x.masterUp,x.lease.epoch,x.lease.holder,x.lease.ends,x.places,()),()),())=some (.inl (((),((k+1:Nat):Int),()),((x.now,x.servers,x.sides,x.master.configs,x.master.activated,x.masterUp,x.lease.epoch,x.lease.holder,x.lease.ends,x.places,()),()),()))):=by
     simp only [bu,dI,aw,be,if_pos c1,if_pos c2,Int.toNat_natCast,List.getElem?_eq_getElem hk,Option.bind_some,v1,n1,bF hm hk,ma,
      show (⟨x.master.configs,x.master.activated⟩:ak)=x.master from rfl,d1,Lg _ hcfg,(qo c x.servers[k].config d3).1]
     cases b with
     | false=>exact .inl rfl
     | true=>
       simp only [bA]
       repeat' split
       all_goals first | exact .inl trivial | exact .inr ⟨trivial,trivial⟩ | (cases d <;> first | exact .inl rfl | (simp only [bA]; repeat' split) <;> first | exact .inl trivial | exact .inr ⟨trivial,trivial⟩)
    rcases j5 with h1 | ⟨rfl,h1⟩
    ·rw [h1]; exact .inr ⟨rfl,rfl,trivial⟩
    ·rw [h1]; exact .inl ⟨rfl,rfl,fun _=>v1⟩)
 unfold bn i4 at hv
 obtain⟨b1,a1,a2⟩:=GV x.sides (dH hsd)
 obtain⟨b2,m1,m2⟩:=masterLog x.master (qp hml)
 obtain⟨b3,l1,l2⟩:=Lf x.lease
 obtain⟨b4,p1,p2⟩:=Qj x.places (dH hpl)
 simp only [yu,a1,m1,l1,p1,Option.bind_some,ma,aw] at hv
 cases h1:t5 x.now 0 999 with
 | false=>rw [h1] at hv; cases hv
 | true=>
 cases h2: ((x.servers.length:Int)==5) with
 | false=>rw [h1,h2] at hv; cases hv
 | true=>
 cases b1 with
 | false=>rw [h1,h2] at hv; cases hv
 | true=>
 cases b2 with
 | false=>rw [h1,h2] at hv; cases hv
 | true=>
 cases h3:t5 x.masterUp 0 3 with
 | false=>rw [h1,h2,h3] at hv; cases hv
 | true=>
 cases b3 with
 | false=>rw [h1,h2,h3] at hv; cases hv
 | true=>
 cases b4 with
 | false=>rw [h1,h2,h3] at hv; cases hv
 | true=>
 rw [h1,h2,h3] at hv
 simp only [bA] at hv
 by_cases h4:x.lease.epoch > x.master.activated
 ·rw [if_pos h4] at hv; cases hv
 ·rw [if_neg h4] at hv
  rcases bU with ⟨k1,_,k3⟩ | ⟨k,_,k1,_,_⟩
  ·refine⟨?_,m1,a1,p1,l1,jJ.1 h1,jJ.1 h3,fun k hk=>k3 k hk hk⟩
   simp only [beq_iff_eq] at h2
   omega
  ·rw [show ig (((),0,()),((x.now,x.servers,x.sides,x.master.configs,x.master.activated,x.masterUp,x.lease.epoch,x.lease.holder,x.lease.ends,x.places,()),()),())=_ from k1] at hv
   cases hv
end Go.Proofs.YtkcgfceffffmoaaGreat.En
