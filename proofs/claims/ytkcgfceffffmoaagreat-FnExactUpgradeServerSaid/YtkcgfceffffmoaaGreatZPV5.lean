/- Valid clusters, on: servers, configurations in force, the whole. -/
import Derived.Test.YtkcgfceffffmoaaGreatZPV4
namespace Go.Proofs.YtkcgfceffffmoaaGreat.En
open Go
theorem rA {c:ai} (h:j5 1048576 c):j5 maxLen c:=⟨fg h.1,fg h.2⟩
theorem Cj {m:an} (h:GI 1048576 m):GI maxLen m:=⟨fg h.1,fun c hc=>rA (h.2 c hc)⟩
theorem KE (c:ai) (h:j5 maxLen c):nW c=some (decide (c=⟨0,0,[],[]⟩),()):=by
 unfold nW q7
 rw [(mw c _ h).1]
 rfl
theorem Da (s:ak) (id:Int) (h:o2 1048576 s):Fr (cZ s id) (gf s id):=by
 have hc:=rA h.1
 unfold cZ gO gf jY
 simp only [AU,Ch,Option.bind_some,qd]
 cases wQ s.version 1 2 with
 | false=>exact⟨_,rfl,rfl⟩
 | true=>
 cases wQ s.epoch 0 20 with
 | false=>exact⟨_,rfl,rfl⟩
 | true=>
 rcases Ue s.log (fg h.2.1) with ⟨a1,a2,a3⟩ | ⟨a1,a2⟩
 case inr=>simp only [a1,a2,Option.bind_some,eD,cT]; exact⟨_,rfl,rfl⟩
 rcases Ue s.learned (fg h.2.2) with ⟨b1,b2,b3⟩ | ⟨b1,b2⟩
 case inr=>simp only [a1,a2,b1,b2,Option.bind_some,eD,cT]; exact⟨_,rfl,rfl⟩
 simp only [a1,a2,b1,b2,Option.bind_some,eD]
 cases hw:wQ s.first 0 16 with
 | false=>exact⟨_,rfl,rfl⟩
 | true=>
 have hf:=qE.1 hw
 rw [fj (n:=s.first+(s.log.length:Int)) (by omega) (by omega)]
 by_cases h16:s.first+(s.log.length:Int)≤16
 case neg=>
  have e1:wQ (s.first+(s.log.length:Int)) 0 16=false:=by unfold wQ; simp; omega
  simp only [e1,eD,cT,aB,if_pos (show s.first+(s.log.length:Int) > 16 by omega)]
  exact⟨_,rfl,rfl⟩
 have e1:wQ (s.first+(s.log.length:Int)) 0 16=true:=qE.2 ⟨by omega,h16⟩
 simp only [e1,eD,aB,if_neg (show ¬ s.first+(s.log.length:Int) > 16 by omega),KE s.config hc,(mw s.config ⟨0,0,[],[]⟩ hc).2,Option.bind_some]
 cases wQ s.commit 0 (s.first+(s.log.length:Int)) with
 | false=>exact⟨_,rfl,rfl⟩
 | true=>
 simp only [eD]
 by_cases hz:s.config=⟨0,0,[],[]⟩
 ·simp only [if_pos hz]
  cases (s.first==0) <;> cases (s.commit==0) <;> cases ((s.log.length:Int)==0) <;> exact⟨_,rfl,rfl⟩
 ·simp only [if_neg hz]
  cases s.intact with
  | false=>exact⟨_,rfl,rfl⟩
  | true=>
  simp only [eD]
  by_cases he:s.epoch < s.config.epoch
  ·simp only [if_pos he]
   exact⟨_,rfl,rfl⟩
  ·simp only [if_neg he]
   obtain⟨n,n1,n2⟩:=Ci s.log (fg h.2.1)
   simp only [n1,n2,Option.bind_some]
   by_cases hn:n > s.config.epoch
   ·simp only [if_pos hn]
    exact⟨_,rfl,rfl⟩
   ·simp only [if_neg hn]
    obtain⟨r,r1,r2,r3⟩:=U3 s.config id hc
    simp only [r1,r2,Option.bind_some]
    rcases r3 with rfl | rfl | rfl | rfl
    ·exact⟨_,rfl,rfl⟩
    ·exact⟨_,rfl,rfl⟩
    ·exact⟨_,rfl,rfl⟩
    ·have ht:rk s.first s.log=some (decide ((s.log.length:Int)≤3)&&((s.first==0)||((s.log.length:Int)==3)),()):=by
      unfold rk to
      simp only [a2,Ch,Option.bind_some,eD,aB]
      rw [fj (by omega) (by omega),show wQ s.first 0 (16 - (s.log.length:Int))=true from qE.2 ⟨by omega,by omega⟩]
      by_cases h3: (s.log.length:Int)≤3
      ·rw [if_pos h3,decide_eq_true h3]
       cases (s.first==0) <;> cases ((s.log.length:Int)==3) <;> rfl
      ·rw [if_neg h3,decide_eq_false h3]
       rfl
     rw [ht]
     by_cases h3: (s.log.length:Int)≤3
     ·rw [if_pos h3,decide_eq_true h3]
      cases (s.first==0) <;> cases ((s.log.length:Int)==3) <;> exact⟨_,rfl,rfl⟩
     ·rw [if_neg h3,decide_eq_false h3]
      exact⟨_,rfl,rfl⟩
theorem M2 (m:an) (e:Int) (h:GI 1048576 m): ∃ c b,nB m e=some (c,b,())∧nJ m e=some (c,b,())∧j5 maxLen c:=by
 obtain⟨b,m1,m2⟩:=masterLog m (Cj h)
 have zero:j5 maxLen ⟨0,0,[],[]⟩:=⟨Nat.zero_le _,Nat.zero_le _⟩
 have hl:=h.1
 unfold nB pP nJ pV
 simp only [m1,m2,AU,Ch,Option.bind_some,qd]
 cases b with
 | false=>exact⟨_,_,rfl,rfl,zero⟩
 | true=>
   cases hw:wQ e 1 (m.configs.length:Int) with
   | false=>exact⟨_,_,rfl,rfl,zero⟩
   | true=>
     have hw:=qE.1 hw
     simp only [eD]
     rw [fj (n:=e - 1) (by omega) (by omega)]
     have hlt: (e - 1).toNat < m.configs.length:=by omega
     have hk:=h.2 _ (List.getElem_mem hlt)
     have copy: ∀ c:ai,j5 1048576 c→lD c=some (c,())∧eI c=some (c,()):=by
      intro c hc
      unfold lD qL eI kQ
      simp only [List.nil_append]
      rw [gm (wR hc.1),gm (wR hc.2)]
      exact⟨rfl,rfl⟩
     rw [gm (by omega),gm (by omega),List.getElem?_eq_getElem hlt]
     simp only [Option.bind_some,(copy _ hk).1,(copy _ hk).2]
     exact⟨_,_,rfl,rfl,rA hk⟩
theorem KF (x:ao) (h:sL 1048576 x):Fr (dc x) (fr x):=by
 obtain⟨⟨hs1,hs2⟩,hsd,hml,hpl⟩:=h
 have hm:=fg hs1
 have ca:=qu (B1:=be) (B2:=cB) x.servers.length (fun k=>(((),(k:Int),()),((x.now,x.servers,x.sides,x.master.configs,x.master.activated,x.masterUp,x.lease.epoch,x.lease.holder,x.lease.ends,x.places,()),()),())) (fun k=>(((),x.servers,(x.servers.length:Int),(k:Int),()),((x.now,x.servers,x.sides,x.master.configs,x.master.activated,x.masterUp,x.lease.epoch,x.lease.holder,x.lease.ends,x.places,()),()),())) (.inr (((),()),(),())) (.inr (((),()),(),())) (fun _=> .inl ((false,()),(),())) (fun _=> .inl ((false,()),(),()))
  (fun _=>True) (fun _=>True)
  (by simp only [be,cK]; rw [aB,if_neg (by omega)])
  (by simp only [cB,eU]; rw [aB,if_neg (by omega)])
  (fun k hk=>by
    have c1: (k:Int) < (x.servers.length:Int):=by omega
    have c2: (0:Int)≤(k:Int):=by omega
    have hsk:=hs2 _ (List.getElem_mem hk)
    obtain⟨b,v1,v2⟩:=Da x.servers[k] (k:Int) hsk
    obtain⟨n,n1,n2⟩:=Ci x.servers[k].learned (fg hsk.2.2)
    obtain⟨c,d,d1,d2,d3⟩:=M2 x.master x.servers[k].config.epoch hml
    have hcfg:=rA hsk.1
    simp only [be,cK,cB,eU,aB,bB,if_pos c1,if_pos c2,Int.toNat_natCast,List.getElem?_eq_getElem hk,Option.bind_some,v1,v2,n1,n2,bM hm hk,qd,
     show (⟨x.master.configs,x.master.activated⟩:an)=x.master from rfl,d1,d2,KE _ hcfg,(mw _ (⟨0,0,[],[]⟩:ai) hcfg).2,(mw c x.servers[k].config d3).1,(mw c x.servers[k].config d3).2]
    cases b with
    | false=>exact .inr ⟨rfl,rfl,trivial⟩
    | true=>
      simp only [eD]
      by_cases h1:x.servers[k].epoch > (x.master.configs.length:Int)
      ·simp only [if_pos h1]
       exact .inr ⟨trivial,trivial,trivial⟩
      ·simp only [if_neg h1]
       by_cases h2:n > x.master.activated
       ·simp only [if_pos h2]
        exact .inr ⟨trivial,trivial,trivial⟩
       ·simp only [if_neg h2]
        by_cases h3:x.servers[k].config=⟨0,0,[],[]⟩
        ·simp only [if_pos h3]
         exact .inl ⟨trivial,trivial,trivial⟩
        ·simp only [if_neg h3]
         cases d with
         | false=>exact .inr ⟨rfl,rfl,trivial⟩
         | true=>
           simp only [eD]
           by_cases h4:c=x.servers[k].config
           ·simp only [if_pos h4]
            by_cases h5:x.servers[k].config.epoch > x.master.activated
            ·simp only [if_pos h5]
             exact .inr ⟨trivial,trivial,trivial⟩
            ·simp only [if_neg h5]
             exact .inl ⟨trivial,trivial,trivial⟩
           ·simp only [if_neg h4]
            exact .inr ⟨trivial,trivial,trivial⟩)
 unfold dc fW fr iZ
 obtain⟨b1,a1,a2⟩:=M1 x.sides (fg hsd)
 obtain⟨b2,m1,m2⟩:=masterLog x.master (Cj hml)
 obtain⟨b3,l1,l2⟩:=Pn x.lease
 obtain⟨b4,p1,p2⟩:=IU x.places (fg hpl)
 simp only [AU,Ch,a1,a2,m1,m2,l1,l2,p1,p2,Option.bind_some,qd,aB]
 cases wQ x.now 0 999 with
 | false=>exact⟨_,rfl,rfl⟩
 | true=>
 cases ((x.servers.length:Int)==5) with
 | false=>exact⟨_,rfl,rfl⟩
 | true=>
 cases b1 with
 | false=>exact⟨_,rfl,rfl⟩
 | true=>
 cases b2 with
 | false=>exact⟨_,rfl,rfl⟩
 | true=>
 cases wQ x.masterUp 0 3 with
 | false=>cases b3 <;> cases b4 <;> exact⟨_,rfl,rfl⟩
 | true=>
 cases b3 with
 | false=>exact⟨_,rfl,rfl⟩
 | true=>
 cases b4 with
 | false=>exact⟨_,rfl,rfl⟩
 | true=>
 simp only [eD]
 by_cases h1:x.lease.epoch > x.master.activated
 ·simp only [if_pos h1]
  exact⟨_,rfl,rfl⟩
 ·simp only [if_neg h1]
  rcases ca with ⟨k1,k2,_⟩ | ⟨k,_,k1,k2,_⟩
  ·rw [show fp (((),0,()),((x.now,x.servers,x.sides,x.master.configs,x.master.activated,x.masterUp,x.lease.epoch,x.lease.holder,x.lease.ends,x.places,()),()),())=_ from k1,show il (((),x.servers,(x.servers.length:Int),0,()),((x.now,x.servers,x.sides,x.master.configs,x.master.activated,x.masterUp,x.lease.epoch,x.lease.holder,x.lease.ends,x.places,()),()),())=_ from k2]
   exact⟨_,rfl,rfl⟩
  ·rw [show fp (((),0,()),((x.now,x.servers,x.sides,x.master.configs,x.master.activated,x.masterUp,x.lease.epoch,x.lease.holder,x.lease.ends,x.places,()),()),())=_ from k1,show il (((),x.servers,(x.servers.length:Int),0,()),((x.now,x.servers,x.sides,x.master.configs,x.master.activated,x.masterUp,x.lease.epoch,x.lease.holder,x.lease.ends,x.places,()),()),())=_ from k2]
   exact⟨_,rfl,rfl⟩
end Go.Proofs.YtkcgfceffffmoaaGreat.En
