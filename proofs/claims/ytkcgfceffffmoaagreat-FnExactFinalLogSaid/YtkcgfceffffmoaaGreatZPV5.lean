/- Valid clusters, on: servers, configurations in force, the whole. -/
import Derived.Test.YtkcgfceffffmoaaGreatZPV4
namespace Go.Proofs.YtkcgfceffffmoaaGreat.En
open Go
theorem oD {c:ai} (h:hM 1048576 c):hM maxLen c:=⟨fV h.1,fV h.2⟩
theorem pM {m:aw} (h:Cj 1048576 m):Cj maxLen m:=⟨fV h.1,fun c hc=>oD (h.2 c hc)⟩
theorem H8 (c:ai) (h:hM maxLen c):ne c=some (decide (c=⟨0,0,[],[]⟩),()):=by
 unfold ne pZ
 rw [(lO c _ h).1]
 rfl
theorem Bh (s:ay) (id:Int) (h:o4 1048576 s):Ds (dX s id) (fR s id):=by
 have hc:=oD h.1
 unfold dX jn fR jy
 simp only [vw,yS,Option.bind_some,oC]
 cases tL s.version 1 2 with
 | false=>exact⟨_,rfl,rfl⟩
 | true=>
 cases tL s.epoch 0 20 with
 | false=>exact⟨_,rfl,rfl⟩
 | true=>
 rcases Rm s.log (fV h.2.1) with ⟨a1,a2,a3⟩ | ⟨a1,a2⟩
 case inr=>simp only [a1,a2,Option.bind_some,cY,cI]; exact⟨_,rfl,rfl⟩
 rcases Rm s.learned (fV h.2.2) with ⟨b1,b2,b3⟩ | ⟨b1,b2⟩
 case inr=>simp only [a1,a2,b1,b2,Option.bind_some,cY,cI]; exact⟨_,rfl,rfl⟩
 simp only [a1,a2,b1,b2,Option.bind_some,cY]
 cases hw:tL s.first 0 16 with
 | false=>exact⟨_,rfl,rfl⟩
 | true=>
 have hf:=lM.1 hw
 rw [eW (n:=s.first+(s.log.length:Int)) (by omega) (by omega)]
 by_cases h16:s.first+(s.log.length:Int)≤16
 case neg=>
  have e1:tL (s.first+(s.log.length:Int)) 0 16=false:=by unfold tL; simp; omega
  simp only [e1,cY,cI,az,if_pos (show s.first+(s.log.length:Int) > 16 by omega)]
  exact⟨_,rfl,rfl⟩
 have e1:tL (s.first+(s.log.length:Int)) 0 16=true:=lM.2 ⟨by omega,h16⟩
 simp only [e1,cY,az,if_neg (show ¬ s.first+(s.log.length:Int) > 16 by omega),H8 s.config hc,(lO s.config ⟨0,0,[],[]⟩ hc).2,Option.bind_some]
 cases tL s.commit 0 (s.first+(s.log.length:Int)) with
 | false=>exact⟨_,rfl,rfl⟩
 | true=>
 simp only [cY]
 by_cases hz:s.config=⟨0,0,[],[]⟩
 ·simp only [if_pos hz]
  cases (s.first==0) <;> cases (s.commit==0) <;> cases ((s.log.length:Int)==0) <;> exact⟨_,rfl,rfl⟩
 ·simp only [if_neg hz]
  cases s.intact with
  | false=>exact⟨_,rfl,rfl⟩
  | true=>
  simp only [cY]
  by_cases he:s.epoch < s.config.epoch
  ·simp only [if_pos he]
   exact⟨_,rfl,rfl⟩
  ·simp only [if_neg he]
   obtain⟨n,n1,n2⟩:=Ar s.log (fV h.2.1)
   simp only [n1,n2,Option.bind_some]
   by_cases hn:n > s.config.epoch
   ·simp only [if_pos hn]
    exact⟨_,rfl,rfl⟩
   ·simp only [if_neg hn]
    obtain⟨r,r1,r2,r3⟩:=Sf s.config id hc
    simp only [r1,r2,Option.bind_some]
    rcases r3 with rfl | rfl | rfl | rfl
    ·exact⟨_,rfl,rfl⟩
    ·exact⟨_,rfl,rfl⟩
    ·exact⟨_,rfl,rfl⟩
    ·have ht:qf s.first s.log=some (decide ((s.log.length:Int)≤3)&&((s.first==0)||((s.log.length:Int)==3)),()):=by
      unfold qf rY
      simp only [a2,yS,Option.bind_some,cY,az]
      rw [eW (by omega) (by omega),show tL s.first 0 (16 - (s.log.length:Int))=true from lM.2 ⟨by omega,by omega⟩]
      by_cases h3: (s.log.length:Int)≤3
      ·rw [if_pos h3,decide_eq_true h3]
       cases (s.first==0) <;> cases ((s.log.length:Int)==3) <;> rfl
      ·rw [if_neg h3,decide_eq_false h3]
       rfl
     rw [ht]
     by_cases h3: (s.log.length:Int)≤3
     ·rw [if_pos h3,decide_eq_true h3]
      cases (s.first==0) <;> cases ((s.log.length:Int)==3) <;> exact⟨_,rfl,rfl⟩
     ·rw [if_neg h3,decide_eq_false h3]
      exact⟨_,rfl,rfl⟩
theorem EJ (m:aw) (e:Int) (h:Cj 1048576 m): ∃ c b,iT m e=some (c,b,())∧iX m e=some (c,b,())∧hM maxLen c:=by
 obtain⟨b,m1,m2⟩:=masterLog m (pM h)
 have zero:hM maxLen ⟨0,0,[],[]⟩:=⟨Nat.zero_le _,Nat.zero_le _⟩
 have hl:=h.1
 unfold iT na iX nh
 simp only [m1,m2,vw,yS,Option.bind_some,oC]
 cases b with
 | false=>exact⟨_,_,rfl,rfl,zero⟩
 | true=>
   cases hw:tL e 1 (m.configs.length:Int) with
   | false=>exact⟨_,_,rfl,rfl,zero⟩
   | true=>
     have hw:=lM.1 hw
     simp only [cY]
     rw [eW (n:=e - 1) (by omega) (by omega)]
     have hlt: (e - 1).toNat < m.configs.length:=by omega
     have hk:=h.2 _ (List.getElem_mem hlt)
     have copy: ∀ c:ai,hM 1048576 c→nG c=some (c,())∧fZ c=some (c,()):=by
      intro c hc
      unfold nG pL fZ kn
      simp only [List.nil_append]
      rw [eh (qU hc.1),eh (qU hc.2)]
      exact⟨rfl,rfl⟩
     rw [eh (by omega),eh (by omega),List.getElem?_eq_getElem hlt]
     simp only [Option.bind_some,(copy _ hk).1,(copy _ hk).2]
     exact⟨_,_,rfl,rfl,oD hk⟩
theorem yT (x:aP) (h:xd 1048576 x):Ds (cP x) (ff x):=by
 obtain⟨⟨hs1,hs2⟩,hsd,hml,hpl⟩:=h
 have hm:=fV hs1
 have ca:=oF (B1:=ba) (B2:=cE) x.servers.length (fun k=>(((),(k:Int),()),((x.now,x.servers,x.sides,x.master.configs,x.master.activated,x.masterUp,x.lease.epoch,x.lease.holder,x.lease.ends,x.places,()),()),())) (fun k=>(((),x.servers,(x.servers.length:Int),(k:Int),()),((x.now,x.servers,x.sides,x.master.configs,x.master.activated,x.masterUp,x.lease.epoch,x.lease.holder,x.lease.ends,x.places,()),()),())) (.inr (((),()),(),())) (.inr (((),()),(),())) (fun _=> .inl ((false,()),(),())) (fun _=> .inl ((false,()),(),()))
  (fun _=>True) (fun _=>True)
  (by simp only [ba,cN]; rw [az,if_neg (by omega)])
  (by simp only [cE,eM]; rw [az,if_neg (by omega)])
  (fun k hk=>by
    have c1: (k:Int) < (x.servers.length:Int):=by omega
    have c2: (0:Int)≤(k:Int):=by omega
    have hsk:=hs2 _ (List.getElem_mem hk)
    obtain⟨b,v1,v2⟩:=Bh x.servers[k] (k:Int) hsk
    obtain⟨n,n1,n2⟩:=Ar x.servers[k].learned (fV hsk.2.2)
    obtain⟨c,d,d1,d2,d3⟩:=EJ x.master x.servers[k].config.epoch hml
    have hcfg:=oD hsk.1
    simp only [ba,cN,cE,eM,az,bT,if_pos c1,if_pos c2,Int.toNat_natCast,List.getElem?_eq_getElem hk,Option.bind_some,v1,v2,n1,n2,bU hm hk,oC,
     show (⟨x.master.configs,x.master.activated⟩:aw)=x.master from rfl,d1,d2,H8 _ hcfg,(lO _ (⟨0,0,[],[]⟩:ai) hcfg).2,(lO c x.servers[k].config d3).1,(lO c x.servers[k].config d3).2]
    cases b with
    | false=>exact .inr ⟨rfl,rfl,trivial⟩
    | true=>
      simp only [cY]
      by_cases h1:x.servers[k].epoch > (x.master.configs.length:Int)
      ·simp only [if_pos h1]
       exact .inr ⟨trivial,trivial,trivial⟩
      ·simp only [if_neg h1]
       by_cases h2:n > x.master.activated
       ·simp only [if_pos h2]
        exact .inr ⟨trivial,trivial,trivial⟩
       ·simp only [if_neg h2]
        by_cases h3:x.servers[k].config=⟨0,0,[],[]⟩
        ·simp only [if_pos h3]
         exact .inl ⟨trivial,trivial,trivial⟩
        ·simp only [if_neg h3]
         cases d with
         | false=>exact .inr ⟨rfl,rfl,trivial⟩
         | true=>
           simp only [cY]
           by_cases h4:c=x.servers[k].config
           ·simp only [if_pos h4]
            by_cases h5:x.servers[k].config.epoch > x.master.activated
            ·simp only [if_pos h5]
             exact .inr ⟨trivial,trivial,trivial⟩
            ·simp only [if_neg h5]
             exact .inl ⟨trivial,trivial,trivial⟩
           ·simp only [if_neg h4]
            exact .inr ⟨trivial,trivial,trivial⟩)
 unfold cP fH ff iB
 obtain⟨b1,a1,a2⟩:=Kt x.sides (fV hsd)
 obtain⟨b2,m1,m2⟩:=masterLog x.master (pM hml)
 obtain⟨b3,l1,l2⟩:=ME x.lease
 obtain⟨b4,p1,p2⟩:=Gq x.places (fV hpl)
 simp only [vw,yS,a1,a2,m1,m2,l1,l2,p1,p2,Option.bind_some,oC,az]
 cases tL x.now 0 999 with
 | false=>exact⟨_,rfl,rfl⟩
 | true=>
 cases ((x.servers.length:Int)==5) with
 | false=>exact⟨_,rfl,rfl⟩
 | true=>
 cases b1 with
 | false=>exact⟨_,rfl,rfl⟩
 | true=>
 cases b2 with
 | false=>exact⟨_,rfl,rfl⟩
 | true=>
 cases tL x.masterUp 0 3 with
 | false=>cases b3 <;> cases b4 <;> exact⟨_,rfl,rfl⟩
 | true=>
 cases b3 with
 | false=>exact⟨_,rfl,rfl⟩
 | true=>
 cases b4 with
 | false=>exact⟨_,rfl,rfl⟩
 | true=>
 simp only [cY]
 by_cases h1:x.lease.epoch > x.master.activated
 ·simp only [if_pos h1]
  exact⟨_,rfl,rfl⟩
 ·simp only [if_neg h1]
  rcases ca with ⟨k1,k2,_⟩ | ⟨k,_,k1,k2,_⟩
  ·rw [show fa (((),0,()),((x.now,x.servers,x.sides,x.master.configs,x.master.activated,x.masterUp,x.lease.epoch,x.lease.holder,x.lease.ends,x.places,()),()),())=_ from k1,show gT (((),x.servers,(x.servers.length:Int),0,()),((x.now,x.servers,x.sides,x.master.configs,x.master.activated,x.masterUp,x.lease.epoch,x.lease.holder,x.lease.ends,x.places,()),()),())=_ from k2]
   exact⟨_,rfl,rfl⟩
  ·rw [show fa (((),0,()),((x.now,x.servers,x.sides,x.master.configs,x.master.activated,x.masterUp,x.lease.epoch,x.lease.holder,x.lease.ends,x.places,()),()),())=_ from k1,show gT (((),x.servers,(x.servers.length:Int),0,()),((x.now,x.servers,x.sides,x.master.configs,x.master.activated,x.masterUp,x.lease.epoch,x.lease.holder,x.lease.ends,x.places,()),()),())=_ from k2]
   exact⟨_,rfl,rfl⟩
end Go.Proofs.YtkcgfceffffmoaaGreat.En
