/- Valid clusters, on: servers, configurations in force, the whole. -/
import Derived.Test.YtkcgfceffffmoaaGreatZPV4
namespace Go.Proofs.YtkcgfceffffmoaaGreat.En
open Go
theorem oE {c:ai} (h:iM 1048576 c):iM maxLen c:=⟨f7 h.1,f7 h.2⟩
theorem pO {m:aw} (h:Cr 1048576 m):Cr maxLen m:=⟨f7 h.1,fun c hc=>oE (h.2 c hc)⟩
theorem Ij (c:ai) (h:iM maxLen c):nh c=some (decide (c=⟨0,0,[],[]⟩),()):=by
 unfold nh p7
 rw [(lN c _ h).1]
 rfl
theorem Bp (s:ay) (id:Int) (h:qv 1048576 s):Dz (dX s id) (fR s id):=by
 have hc:=oE h.1
 unfold dX jq fR jA
 simp only [xj,AB,Option.bind_some,oD]
 cases tR s.version 1 2 with
 | false=>exact⟨_,rfl,rfl⟩
 | true=>
 cases tR s.epoch 0 20 with
 | false=>exact⟨_,rfl,rfl⟩
 | true=>
 rcases Ry s.log (f7 h.2.1) with ⟨a1,a2,a3⟩ | ⟨a1,a2⟩
 case inr=>simp only [a1,a2,Option.bind_some,cW,dh]; exact⟨_,rfl,rfl⟩
 rcases Ry s.learned (f7 h.2.2) with ⟨b1,b2,b3⟩ | ⟨b1,b2⟩
 case inr=>simp only [a1,a2,b1,b2,Option.bind_some,cW,dh]; exact⟨_,rfl,rfl⟩
 simp only [a1,a2,b1,b2,Option.bind_some,cW]
 cases hw:tR s.first 0 16 with
 | false=>exact⟨_,rfl,rfl⟩
 | true=>
 have hf:=mz.1 hw
 rw [hQ (n:=s.first+(s.log.length:Int)) (by omega) (by omega)]
 by_cases h16:s.first+(s.log.length:Int)≤16
 case neg=>
  have e1:tR (s.first+(s.log.length:Int)) 0 16=false:=by unfold tR; simp; omega
  simp only [e1,cW,dh,aE,if_pos (show s.first+(s.log.length:Int) > 16 by omega)]
  exact⟨_,rfl,rfl⟩
 have e1:tR (s.first+(s.log.length:Int)) 0 16=true:=mz.2 ⟨by omega,h16⟩
 simp only [e1,cW,aE,if_neg (show ¬ s.first+(s.log.length:Int) > 16 by omega),Ij s.config hc,(lN s.config ⟨0,0,[],[]⟩ hc).2,Option.bind_some]
 cases tR s.commit 0 (s.first+(s.log.length:Int)) with
 | false=>exact⟨_,rfl,rfl⟩
 | true=>
 simp only [cW]
 by_cases hz:s.config=⟨0,0,[],[]⟩
 ·simp only [if_pos hz]
  cases (s.first==0) <;> cases (s.commit==0) <;> cases ((s.log.length:Int)==0) <;> exact⟨_,rfl,rfl⟩
 ·simp only [if_neg hz]
  cases s.intact with
  | false=>exact⟨_,rfl,rfl⟩
  | true=>
  simp only [cW]
  by_cases he:s.epoch < s.config.epoch
  ·simp only [if_pos he]
   exact⟨_,rfl,rfl⟩
  ·simp only [if_neg he]
   obtain⟨n,n1,n2⟩:=AD s.log (f7 h.2.1)
   simp only [n1,n2,Option.bind_some]
   by_cases hn:n > s.config.epoch
   ·simp only [if_pos hn]
    exact⟨_,rfl,rfl⟩
   ·simp only [if_neg hn]
    obtain⟨r,r1,r2,r3⟩:=Sv s.config id hc
    simp only [r1,r2,Option.bind_some]
    rcases r3 with rfl | rfl | rfl | rfl
    ·exact⟨_,rfl,rfl⟩
    ·exact⟨_,rfl,rfl⟩
    ·exact⟨_,rfl,rfl⟩
    ·have ht:qh s.first s.log=some (decide ((s.log.length:Int)≤3)&&((s.first==0)||((s.log.length:Int)==3)),()):=by
      unfold qh se
      simp only [a2,AB,Option.bind_some,cW,aE]
      rw [hQ (by omega) (by omega),show tR s.first 0 (16 - (s.log.length:Int))=true from mz.2 ⟨by omega,by omega⟩]
      by_cases h3: (s.log.length:Int)≤3
      ·rw [if_pos h3,decide_eq_true h3]
       cases (s.first==0) <;> cases ((s.log.length:Int)==3) <;> rfl
      ·rw [if_neg h3,decide_eq_false h3]
       rfl
     rw [ht]
     by_cases h3: (s.log.length:Int)≤3
     ·rw [if_pos h3,decide_eq_true h3]
      cases (s.first==0) <;> cases ((s.log.length:Int)==3) <;> exact⟨_,rfl,rfl⟩
     ·rw [if_neg h3,decide_eq_false h3]
      exact⟨_,rfl,rfl⟩
theorem ES (m:aw) (e:Int) (h:Cr 1048576 m): ∃ c b,iV m e=some (c,b,())∧iZ m e=some (c,b,())∧iM maxLen c:=by
 obtain⟨b,m1,m2⟩:=masterLog m (pO h)
 have zero:iM maxLen ⟨0,0,[],[]⟩:=⟨Nat.zero_le _,Nat.zero_le _⟩
 have hl:=h.1
 unfold iV ne iZ nj
 simp only [m1,m2,xj,AB,Option.bind_some,oD]
 cases b with
 | false=>exact⟨_,_,rfl,rfl,zero⟩
 | true=>
   cases hw:tR e 1 (m.configs.length:Int) with
   | false=>exact⟨_,_,rfl,rfl,zero⟩
   | true=>
     have hw:=mz.1 hw
     simp only [cW]
     rw [hQ (n:=e - 1) (by omega) (by omega)]
     have hlt: (e - 1).toNat < m.configs.length:=by omega
     have hk:=h.2 _ (List.getElem_mem hlt)
     have copy: ∀ c:ai,iM 1048576 c→nH c=some (c,())∧fZ c=some (c,()):=by
      intro c hc
      unfold nH pN fZ km
      simp only [List.nil_append]
      rw [eh (qX hc.1),eh (qX hc.2)]
      exact⟨rfl,rfl⟩
     rw [eh (by omega),eh (by omega),List.getElem?_eq_getElem hlt]
     simp only [Option.bind_some,(copy _ hk).1,(copy _ hk).2]
     exact⟨_,_,rfl,rfl,oE hk⟩
theorem Ik (x:aQ) (h:yZ 1048576 x):Dz (da x) (fb x):=by
 obtain⟨⟨hs1,hs2⟩,hsd,hml,hpl⟩:=h
 have hm:=f7 hs1
 have b8:=oG (B1:=ba) (B2:=cB) x.servers.length (fun k=>(((),(k:Int),()),((x.now,x.servers,x.sides,x.master.configs,x.master.activated,x.masterUp,x.lease.epoch,x.lease.holder,x.lease.ends,x.places,()),()),())) (fun k=>(((),x.servers,(x.servers.length:Int),(k:Int),()),((x.now,x.servers,x.sides,x.master.configs,x.master.activated,x.masterUp,x.lease.epoch,x.lease.holder,x.lease.ends,x.places,()),()),())) (.inr (((),()),(),())) (.inr (((),()),(),())) (fun _=> .inl ((false,()),(),())) (fun _=> .inl ((false,()),(),()))
  (fun _=>True) (fun _=>True)
  (by simp only [ba,cL]; rw [aE,if_neg (by omega)])
  (by simp only [cB,eM]; rw [aE,if_neg (by omega)])
  (fun k hk=>by
    have c1: (k:Int) < (x.servers.length:Int):=by omega
    have c2: (0:Int)≤(k:Int):=by omega
    have hsk:=hs2 _ (List.getElem_mem hk)
    obtain⟨b,v1,v2⟩:=Bp x.servers[k] (k:Int) hsk
    obtain⟨n,n1,n2⟩:=AD x.servers[k].learned (f7 hsk.2.2)
    obtain⟨c,d,d1,d2,d3⟩:=ES x.master x.servers[k].config.epoch hml
    have hcfg:=oE hsk.1
    simp only [ba,cL,cB,eM,aE,co,if_pos c1,if_pos c2,Int.toNat_natCast,List.getElem?_eq_getElem hk,Option.bind_some,v1,v2,n1,n2,b7 hm hk,oD,
     show (⟨x.master.configs,x.master.activated⟩:aw)=x.master from rfl,d1,d2,Ij _ hcfg,(lN _ (⟨0,0,[],[]⟩:ai) hcfg).2,(lN c x.servers[k].config d3).1,(lN c x.servers[k].config d3).2]
    cases b with
    | false=>exact .inr ⟨rfl,rfl,trivial⟩
    | true=>
      simp only [cW]
      by_cases h1:x.servers[k].epoch > (x.master.configs.length:Int)
      ·simp only [if_pos h1]
       exact .inr ⟨trivial,trivial,trivial⟩
      ·simp only [if_neg h1]
       by_cases h2:n > x.master.activated
       ·simp only [if_pos h2]
        exact .inr ⟨trivial,trivial,trivial⟩
       ·simp only [if_neg h2]
        by_cases h3:x.servers[k].config=⟨0,0,[],[]⟩
        ·simp only [if_pos h3]
         exact .inl ⟨trivial,trivial,trivial⟩
        ·simp only [if_neg h3]
         cases d with
         | false=>exact .inr ⟨rfl,rfl,trivial⟩
         | true=>
           simp only [cW]
           by_cases h4:c=x.servers[k].config
           ·simp only [if_pos h4]
            by_cases h5:x.servers[k].config.epoch > x.master.activated
            ·simp only [if_pos h5]
             exact .inr ⟨trivial,trivial,trivial⟩
            ·simp only [if_neg h5]
             exact .inl ⟨trivial,trivial,trivial⟩
           ·simp only [if_neg h4]
            exact .inr ⟨trivial,trivial,trivial⟩)
 unfold da fG fb iE
 obtain⟨b1,a1,a2⟩:=KD x.sides (f7 hsd)
 obtain⟨b2,m1,m2⟩:=masterLog x.master (pO hml)
 obtain⟨b3,l1,l2⟩:=MN x.lease
 obtain⟨b4,p1,p2⟩:=GA x.places (f7 hpl)
 simp only [xj,AB,a1,a2,m1,m2,l1,l2,p1,p2,Option.bind_some,oD,aE]
 cases tR x.now 0 999 with
 | false=>exact⟨_,rfl,rfl⟩
 | true=>
 cases ((x.servers.length:Int)==5) with
 | false=>exact⟨_,rfl,rfl⟩
 | true=>
 cases b1 with
 | false=>exact⟨_,rfl,rfl⟩
 | true=>
 cases b2 with
 | false=>exact⟨_,rfl,rfl⟩
 | true=>
 cases tR x.masterUp 0 3 with
 | false=>cases b3 <;> cases b4 <;> exact⟨_,rfl,rfl⟩
 | true=>
 cases b3 with
 | false=>exact⟨_,rfl,rfl⟩
 | true=>
 cases b4 with
 | false=>exact⟨_,rfl,rfl⟩
 | true=>
 simp only [cW]
 by_cases h1:x.lease.epoch > x.master.activated
 ·simp only [if_pos h1]
  exact⟨_,rfl,rfl⟩
 ·simp only [if_neg h1]
  rcases b8 with ⟨k1,k2,_⟩ | ⟨k,_,k1,k2,_⟩
  ·rw [show eZ (((),0,()),((x.now,x.servers,x.sides,x.master.configs,x.master.activated,x.masterUp,x.lease.epoch,x.lease.holder,x.lease.ends,x.places,()),()),())=_ from k1,show gU (((),x.servers,(x.servers.length:Int),0,()),((x.now,x.servers,x.sides,x.master.configs,x.master.activated,x.masterUp,x.lease.epoch,x.lease.holder,x.lease.ends,x.places,()),()),())=_ from k2]
   exact⟨_,rfl,rfl⟩
  ·rw [show eZ (((),0,()),((x.now,x.servers,x.sides,x.master.configs,x.master.activated,x.masterUp,x.lease.epoch,x.lease.holder,x.lease.ends,x.places,()),()),())=_ from k1,show gU (((),x.servers,(x.servers.length:Int),0,()),((x.now,x.servers,x.sides,x.master.configs,x.master.activated,x.masterUp,x.lease.epoch,x.lease.holder,x.lease.ends,x.places,()),()),())=_ from k2]
   exact⟨_,rfl,rfl⟩
end Go.Proofs.YtkcgfceffffmoaaGreat.En
