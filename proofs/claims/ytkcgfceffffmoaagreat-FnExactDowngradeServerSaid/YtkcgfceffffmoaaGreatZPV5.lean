/- Valid clusters, on: servers, configurations in force, the whole. -/
import Derived.Test.YtkcgfceffffmoaaGreatZPV4
namespace Go.Proofs.YtkcgfceffffmoaaGreat.En
open Go
theorem nY {c:ai} (h:ll 1048576 c):ll maxLen c:=⟨eX h.1,eX h.2⟩
theorem Ev {m:an} (h:I2 1048576 m):I2 maxLen m:=⟨eX h.1,fun c hc=>nY (h.2 c hc)⟩
theorem C1 (c:ai) (h:ll maxLen c):n7 c=some (decide (c=⟨0,0,[],[]⟩),()):=by
 unfold n7 sZ
 rw [(iw c _ h).1]
 rfl
theorem Fo (s:aj) (id:Int) (h:qD 1048576 s):ET (dz s id) (ik s id):=by
 have hc:=nY h.1
 unfold dz iU ik ld
 simp only [CZ,Et,Option.bind_some,qE]
 cases yW s.version 1 2 with
 | false=>exact⟨_,rfl,rfl⟩
 | true=>
 cases yW s.epoch 0 20 with
 | false=>exact⟨_,rfl,rfl⟩
 | true=>
 rcases Wq s.log (eX h.2.1) with ⟨a1,a2,a3⟩ | ⟨a1,a2⟩
 case inr=>simp only [a1,a2,Option.bind_some,eY,cW]; exact⟨_,rfl,rfl⟩
 rcases Wq s.learned (eX h.2.2) with ⟨b1,b2,b3⟩ | ⟨b1,b2⟩
 case inr=>simp only [a1,a2,b1,b2,Option.bind_some,eY,cW]; exact⟨_,rfl,rfl⟩
 simp only [a1,a2,b1,b2,Option.bind_some,eY]
 cases hw:yW s.first 0 16 with
 | false=>exact⟨_,rfl,rfl⟩
 | true=>
 have hf:=sD.1 hw
 rw [f8 (n:=s.first+(s.log.length:Int)) (by omega) (by omega)]
 by_cases h16:s.first+(s.log.length:Int)≤16
 case neg=>
  have e1:yW (s.first+(s.log.length:Int)) 0 16=false:=by unfold yW; simp; omega
  simp only [e1,eY,cW,ay,if_pos (show s.first+(s.log.length:Int) > 16 by omega)]
  exact⟨_,rfl,rfl⟩
 have e1:yW (s.first+(s.log.length:Int)) 0 16=true:=sD.2 ⟨by omega,h16⟩
 simp only [e1,eY,ay,if_neg (show ¬ s.first+(s.log.length:Int) > 16 by omega),C1 s.config hc,(iw s.config ⟨0,0,[],[]⟩ hc).2,Option.bind_some]
 cases yW s.commit 0 (s.first+(s.log.length:Int)) with
 | false=>exact⟨_,rfl,rfl⟩
 | true=>
 simp only [eY]
 by_cases hz:s.config=⟨0,0,[],[]⟩
 ·simp only [if_pos hz]
  cases (s.first==0) <;> cases (s.commit==0) <;> cases ((s.log.length:Int)==0) <;> exact⟨_,rfl,rfl⟩
 ·simp only [if_neg hz]
  cases s.intact with
  | false=>exact⟨_,rfl,rfl⟩
  | true=>
  simp only [eY]
  by_cases he:s.epoch < s.config.epoch
  ·simp only [if_pos he]
   exact⟨_,rfl,rfl⟩
  ·simp only [if_neg he]
   obtain⟨n,n1,n2⟩:=Eu s.log (eX h.2.1)
   simp only [n1,n2,Option.bind_some]
   by_cases hn:n > s.config.epoch
   ·simp only [if_pos hn]
    exact⟨_,rfl,rfl⟩
   ·simp only [if_neg hn]
    obtain⟨r,r1,r2,r3⟩:=Xf s.config id hc
    simp only [r1,r2,Option.bind_some]
    rcases r3 with rfl | rfl | rfl | rfl
    ·exact⟨_,rfl,rfl⟩
    ·exact⟨_,rfl,rfl⟩
    ·exact⟨_,rfl,rfl⟩
    ·have ht:tb s.first s.log=some (decide ((s.log.length:Int)≤3)&&((s.first==0)||((s.log.length:Int)==3)),()):=by
      unfold tb vi
      simp only [a2,Et,Option.bind_some,eY,ay]
      rw [f8 (by omega) (by omega),show yW s.first 0 (16 - (s.log.length:Int))=true from sD.2 ⟨by omega,by omega⟩]
      by_cases h3: (s.log.length:Int)≤3
      ·rw [if_pos h3,decide_eq_true h3]
       cases (s.first==0) <;> cases ((s.log.length:Int)==3) <;> rfl
      ·rw [if_neg h3,decide_eq_false h3]
       rfl
     rw [ht]
     by_cases h3: (s.log.length:Int)≤3
     ·rw [if_pos h3,decide_eq_true h3]
      cases (s.first==0) <;> cases ((s.log.length:Int)==3) <;> exact⟨_,rfl,rfl⟩
     ·rw [if_neg h3,decide_eq_false h3]
      exact⟨_,rfl,rfl⟩
theorem Pm (m:an) (e:Int) (h:I2 1048576 m): ∃ c b,pc m e=some (c,b,())∧pk m e=some (c,b,())∧ll maxLen c:=by
 obtain⟨b,m1,m2⟩:=masterLog m (Ev h)
 have zero:ll maxLen ⟨0,0,[],[]⟩:=⟨Nat.zero_le _,Nat.zero_le _⟩
 have hl:=h.1
 unfold pc rz pk rH
 simp only [m1,m2,CZ,Et,Option.bind_some,qE]
 cases b with
 | false=>exact⟨_,_,rfl,rfl,zero⟩
 | true=>
   cases hw:yW e 1 (m.configs.length:Int) with
   | false=>exact⟨_,_,rfl,rfl,zero⟩
   | true=>
     have hw:=sD.1 hw
     simp only [eY]
     rw [f8 (n:=e - 1) (by omega) (by omega)]
     have hlt: (e - 1).toNat < m.configs.length:=by omega
     have hk:=h.2 _ (List.getElem_mem hlt)
     have copy: ∀ c:ai,ll 1048576 c→ni c=some (c,())∧fC c=some (c,()):=by
      intro c hc
      unfold ni sK fC mh
      simp only [List.nil_append]
      rw [ir (yX hc.1),ir (yX hc.2)]
      exact⟨rfl,rfl⟩
     rw [ir (by omega),ir (by omega),List.getElem?_eq_getElem hlt]
     simp only [Option.bind_some,(copy _ hk).1,(copy _ hk).2]
     exact⟨_,_,rfl,rfl,nY hk⟩
theorem MW (x:ao) (h:tC 1048576 x):ET (dH x) (gn x):=by
 obtain⟨⟨hs1,hs2⟩,hsd,hml,hpl⟩:=h
 have hm:=eX hs1
 have ce:=rd (B1:=bn) (B2:=c8) x.servers.length (fun k=>(((),(k:Int),()),((x.now,x.servers,x.sides,x.master.configs,x.master.activated,x.masterUp,x.lease.epoch,x.lease.holder,x.lease.ends,x.places,()),()),())) (fun k=>(((),x.servers,(x.servers.length:Int),(k:Int),()),((x.now,x.servers,x.sides,x.master.configs,x.master.activated,x.masterUp,x.lease.epoch,x.lease.holder,x.lease.ends,x.places,()),()),())) (.inr (((),()),(),())) (.inr (((),()),(),())) (fun _=> .inl ((false,()),(),())) (fun _=> .inl ((false,()),(),()))
  (fun _=>True) (fun _=>True)
  (by simp only [bn,dj]; rw [ay,if_neg (by omega)])
  (by simp only [c8,fP]; rw [ay,if_neg (by omega)])
  (fun k hk=>by
    have c1: (k:Int) < (x.servers.length:Int):=by omega
    have c2: (0:Int)≤(k:Int):=by omega
    have hsk:=hs2 _ (List.getElem_mem hk)
    obtain⟨b,v1,v2⟩:=Fo x.servers[k] (k:Int) hsk
    obtain⟨n,n1,n2⟩:=Eu x.servers[k].learned (eX hsk.2.2)
    obtain⟨c,d,d1,d2,d3⟩:=Pm x.master x.servers[k].config.epoch hml
    have hcfg:=nY hsk.1
    simp only [bn,dj,c8,fP,ay,bE,if_pos c1,if_pos c2,Int.toNat_natCast,List.getElem?_eq_getElem hk,Option.bind_some,v1,v2,n1,n2,bO hm hk,qE,
     show (⟨x.master.configs,x.master.activated⟩:an)=x.master from rfl,d1,d2,C1 _ hcfg,(iw _ (⟨0,0,[],[]⟩:ai) hcfg).2,(iw c x.servers[k].config d3).1,(iw c x.servers[k].config d3).2]
    cases b with
    | false=>exact .inr ⟨rfl,rfl,trivial⟩
    | true=>
      simp only [eY]
      by_cases h1:x.servers[k].epoch > (x.master.configs.length:Int)
      ·simp only [if_pos h1]
       exact .inr ⟨trivial,trivial,trivial⟩
      ·simp only [if_neg h1]
       by_cases h2:n > x.master.activated
       ·simp only [if_pos h2]
        exact .inr ⟨trivial,trivial,trivial⟩
       ·simp only [if_neg h2]
        by_cases h3:x.servers[k].config=⟨0,0,[],[]⟩
        ·simp only [if_pos h3]
         exact .inl ⟨trivial,trivial,trivial⟩
        ·simp only [if_neg h3]
         cases d with
         | false=>exact .inr ⟨rfl,rfl,trivial⟩
         | true=>
           simp only [eY]
           by_cases h4:c=x.servers[k].config
           ·simp only [if_pos h4]
            by_cases h5:x.servers[k].config.epoch > x.master.activated
            ·simp only [if_pos h5]
             exact .inr ⟨trivial,trivial,trivial⟩
            ·simp only [if_neg h5]
             exact .inl ⟨trivial,trivial,trivial⟩
           ·simp only [if_neg h4]
            exact .inr ⟨trivial,trivial,trivial⟩)
 unfold dH hO gn j4
 obtain⟨b1,a1,a2⟩:=Pk x.sides (eX hsd)
 obtain⟨b2,m1,m2⟩:=masterLog x.master (Ev hml)
 obtain⟨b3,l1,l2⟩:=Ry x.lease
 obtain⟨b4,p1,p2⟩:=K6 x.places (eX hpl)
 simp only [CZ,Et,a1,a2,m1,m2,l1,l2,p1,p2,Option.bind_some,qE,ay]
 cases yW x.now 0 999 with
 | false=>exact⟨_,rfl,rfl⟩
 | true=>
 cases ((x.servers.length:Int)==5) with
 | false=>exact⟨_,rfl,rfl⟩
 | true=>
 cases b1 with
 | false=>exact⟨_,rfl,rfl⟩
 | true=>
 cases b2 with
 | false=>exact⟨_,rfl,rfl⟩
 | true=>
 cases yW x.masterUp 0 3 with
 | false=>cases b3 <;> cases b4 <;> exact⟨_,rfl,rfl⟩
 | true=>
 cases b3 with
 | false=>exact⟨_,rfl,rfl⟩
 | true=>
 cases b4 with
 | false=>exact⟨_,rfl,rfl⟩
 | true=>
 simp only [eY]
 by_cases h1:x.lease.epoch > x.master.activated
 ·simp only [if_pos h1]
  exact⟨_,rfl,rfl⟩
 ·simp only [if_neg h1]
  rcases ce with ⟨k1,k2,_⟩ | ⟨k,_,k1,k2,_⟩
  ·rw [show gi (((),0,()),((x.now,x.servers,x.sides,x.master.configs,x.master.activated,x.masterUp,x.lease.epoch,x.lease.holder,x.lease.ends,x.places,()),()),())=_ from k1,show jn (((),x.servers,(x.servers.length:Int),0,()),((x.now,x.servers,x.sides,x.master.configs,x.master.activated,x.masterUp,x.lease.epoch,x.lease.holder,x.lease.ends,x.places,()),()),())=_ from k2]
   exact⟨_,rfl,rfl⟩
  ·rw [show gi (((),0,()),((x.now,x.servers,x.sides,x.master.configs,x.master.activated,x.masterUp,x.lease.epoch,x.lease.holder,x.lease.ends,x.places,()),()),())=_ from k1,show jn (((),x.servers,(x.servers.length:Int),0,()),((x.now,x.servers,x.sides,x.master.configs,x.master.activated,x.masterUp,x.lease.epoch,x.lease.holder,x.lease.ends,x.places,()),()),())=_ from k2]
   exact⟨_,rfl,rfl⟩
end Go.Proofs.YtkcgfceffffmoaaGreat.En
