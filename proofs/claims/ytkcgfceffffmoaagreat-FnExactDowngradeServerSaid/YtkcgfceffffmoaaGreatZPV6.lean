/- What a valid cluster is known to have. -/
import Derived.Test.YtkcgfceffffmoaaGreatZPV5
namespace Go.Proofs.YtkcgfceffffmoaaGreat.En
open Go
structure VC (x:ao):Prop where
 len:x.servers.length=5
 ml:gK x.master=some (true,())
 sides:nl x.sides=some (true,())
 places:lq x.places=some (true,())
 lease:pA x.lease=some (true,())
 now:0≤x.now∧x.now≤999
 up:0≤x.masterUp∧x.masterUp≤3
 srv: ∀ k (hk:k < x.servers.length),dz x.servers[k] (k:Int)=some (true,())
theorem V5 {x:ao} (h:tC 1048576 x) (hv:dH x=some (true,())):VC x:=by
 obtain⟨⟨hs1,hs2⟩,hsd,hml,hpl⟩:=h
 have hm:=eX hs1
 have ce:=rd (B1:=bn) (B2:=bn) x.servers.length (fun k=>(((),(k:Int),()),((x.now,x.servers,x.sides,x.master.configs,x.master.activated,x.masterUp,x.lease.epoch,x.lease.holder,x.lease.ends,x.places,()),()),())) (fun k=>(((),(k:Int),()),((x.now,x.servers,x.sides,x.master.configs,x.master.activated,x.masterUp,x.lease.epoch,x.lease.holder,x.lease.ends,x.places,()),()),())) (.inr (((),()),(),())) (.inr (((),()),(),())) (fun _=> .inl ((false,()),(),())) (fun _=> .inl ((false,()),(),()))
  (fun k=> ∀ hk:k < x.servers.length,dz x.servers[k] (k:Int)=some (true,())) (fun _=>True)
  (by simp only [bn,dj]; rw [ay,if_neg (by omega)])
  (by simp only [bn,dj]; rw [ay,if_neg (by omega)])
  (fun k hk=>by
    have c1: (k:Int) < (x.servers.length:Int):=by omega
    have c2: (0:Int)≤(k:Int):=by omega
    have hsk:=hs2 _ (List.getElem_mem hk)
    obtain⟨b,v1,v2⟩:=Fo x.servers[k] (k:Int) hsk
    obtain⟨n,n1,n2⟩:=Eu x.servers[k].learned (eX hsk.2.2)
    obtain⟨c,d,d1,d2,d3⟩:=Pm x.master x.servers[k].config.epoch hml
    have hcfg:=nY hsk.1
    have kw:bn (((),(k:Int),()),((x.now,x.servers,x.sides,x.master.configs,x.master.activated,x.masterUp,x.lease.epoch,x.lease.holder,x.lease.ends,x.places,()),()),())=some (.inr (.inl ((false,()),(),())))∨(b=true∧bn (((),(k:Int),()),((x.now,x.servers,x.sides,x.master.configs,x.master.activated,x.masterUp,x.lease.epoch,x.lease.holder,x.lease.ends,x.places,()),()),())=some (.inl (((),((k+1:Nat):Int),()),((x.now,x.servers,x.sides,x.master.configs,x.master.activated,x.masterUp,x.lease.epoch,x.lease.holder,x.lease.ends,x.places,()),()),()))):=by
     simp only [bn,dj,ay,bE,if_pos c1,if_pos c2,Int.toNat_natCast,List.getElem?_eq_getElem hk,Option.bind_some,v1,n1,bO hm hk,qE,
      show (⟨x.master.configs,x.master.activated⟩:an)=x.master from rfl,d1,C1 _ hcfg,(iw c x.servers[k].config d3).1]
     cases b with
     | false=>exact .inl rfl
     | true=>
       simp only [eY]
       repeat' split
       all_goals first | exact .inl trivial | exact .inr ⟨trivial,trivial⟩ | (cases d <;> first | exact .inl rfl | (simp only [eY]; repeat' split) <;> first | exact .inl trivial | exact .inr ⟨trivial,trivial⟩)
    rcases kw with h1 | ⟨rfl,h1⟩
    ·rw [h1]; exact .inr ⟨rfl,rfl,trivial⟩
    ·rw [h1]; exact .inl ⟨rfl,rfl,fun _=>v1⟩)
 unfold dH hO at hv
 obtain⟨b1,a1,a2⟩:=Pk x.sides (eX hsd)
 obtain⟨b2,m1,m2⟩:=masterLog x.master (Ev hml)
 obtain⟨b3,l1,l2⟩:=Ry x.lease
 obtain⟨b4,p1,p2⟩:=K6 x.places (eX hpl)
 simp only [CZ,a1,m1,l1,p1,Option.bind_some,qE,ay] at hv
 cases h1:yW x.now 0 999 with
 | false=>rw [h1] at hv; cases hv
 | true=>
 cases h2: ((x.servers.length:Int)==5) with
 | false=>rw [h1,h2] at hv; cases hv
 | true=>
 cases b1 with
 | false=>rw [h1,h2] at hv; cases hv
 | true=>
 cases b2 with
 | false=>rw [h1,h2] at hv; cases hv
 | true=>
 cases h3:yW x.masterUp 0 3 with
 | false=>rw [h1,h2,h3] at hv; cases hv
 | true=>
 cases b3 with
 | false=>rw [h1,h2,h3] at hv; cases hv
 | true=>
 cases b4 with
 | false=>rw [h1,h2,h3] at hv; cases hv
 | true=>
 rw [h1,h2,h3] at hv
 simp only [eY] at hv
 by_cases h4:x.lease.epoch > x.master.activated
 ·rw [if_pos h4] at hv; cases hv
 ·rw [if_neg h4] at hv
  rcases ce with ⟨k1,_,k3⟩ | ⟨k,_,k1,_,_⟩
  ·refine⟨?_,m1,a1,p1,l1,sD.1 h1,sD.1 h3,fun k hk=>k3 k hk hk⟩
   simp only [beq_iff_eq] at h2
   omega
  ·rw [show gi (((),0,()),((x.now,x.servers,x.sides,x.master.configs,x.master.activated,x.masterUp,x.lease.epoch,x.lease.holder,x.lease.ends,x.places,()),()),())=_ from k1] at hv
   cases hv
end Go.Proofs.YtkcgfceffffmoaaGreat.En
