/- Valid clusters, on: servers, configurations in force, the whole. -/
import Derived.Test.YtkcgfceffffmoaaGreatZPV4
namespace Go.Proofs.YtkcgfceffffmoaaGreat.En
open Go
theorem kP {c:ai} (h:iA 1048576 c):iA maxLen c:=⟨dH h.1,dH h.2⟩
theorem qp {m:ak} (h:AE 1048576 m):AE maxLen m:=⟨dH h.1,fun c hc=>kP (h.2 c hc)⟩
theorem Lg (c:ai) (h:iA maxLen c):rY c=some (decide (c=⟨0,0,[],[]⟩),()):=by
 unfold rY vC
 rw [(qo c _ h).1]
 rfl
theorem Jy (s:am) (id:Int) (h:kS 1048576 s):xM (ck s id) (jl s id):=by
 have hc:=kP h.1
 unfold ck ic jl m8
 simp only [yu,BU,Option.bind_some,ma]
 cases t5 s.version 1 2 with
 | false=>exact⟨_,rfl,rfl⟩
 | true=>
 cases t5 s.epoch 0 20 with
 | false=>exact⟨_,rfl,rfl⟩
 | true=>
 rcases NM s.log (dH h.2.1) with ⟨a1,a2,a3⟩ | ⟨a1,a2⟩
 case inr=>simp only [a1,a2,Option.bind_some,bA,bJ]; exact⟨_,rfl,rfl⟩
 rcases NM s.learned (dH h.2.2) with ⟨b1,b2,b3⟩ | ⟨b1,b2⟩
 case inr=>simp only [a1,a2,b1,b2,Option.bind_some,bA,bJ]; exact⟨_,rfl,rfl⟩
 simp only [a1,a2,b1,b2,Option.bind_some,bA]
 cases hw:t5 s.first 0 16 with
 | false=>exact⟨_,rfl,rfl⟩
 | true=>
 have hf:=jJ.1 hw
 rw [ec (n:=s.first+(s.log.length:Int)) (by omega) (by omega)]
 by_cases h16:s.first+(s.log.length:Int)≤16
 case neg=>
  have e1:t5 (s.first+(s.log.length:Int)) 0 16=false:=by unfold t5; simp; omega
  simp only [e1,bA,bJ,aw,if_pos (show s.first+(s.log.length:Int) > 16 by omega)]
  exact⟨_,rfl,rfl⟩
 have e1:t5 (s.first+(s.log.length:Int)) 0 16=true:=jJ.2 ⟨by omega,h16⟩
 simp only [e1,bA,aw,if_neg (show ¬ s.first+(s.log.length:Int) > 16 by omega),Lg s.config hc,(qo s.config ⟨0,0,[],[]⟩ hc).2,Option.bind_some]
 cases t5 s.commit 0 (s.first+(s.log.length:Int)) with
 | false=>exact⟨_,rfl,rfl⟩
 | true=>
 simp only [bA]
 by_cases hz:s.config=⟨0,0,[],[]⟩
 ·simp only [if_pos hz]
  cases (s.first==0) <;> cases (s.commit==0) <;> cases ((s.log.length:Int)==0) <;> exact⟨_,rfl,rfl⟩
 ·simp only [if_neg hz]
  cases s.intact with
  | false=>exact⟨_,rfl,rfl⟩
  | true=>
  simp only [bA]
  by_cases he:s.epoch < s.config.epoch
  ·simp only [if_pos he]
   exact⟨_,rfl,rfl⟩
  ·simp only [if_neg he]
   obtain⟨n,n1,n2⟩:=yw s.log (dH h.2.1)
   simp only [n1,n2,Option.bind_some]
   by_cases hn:n > s.config.epoch
   ·simp only [if_pos hn]
    exact⟨_,rfl,rfl⟩
   ·simp only [if_neg hn]
    obtain⟨r,r1,r2,r3⟩:=aac s.config id hc
    simp only [r1,r2,Option.bind_some]
    rcases r3 with rfl | rfl | rfl | rfl
    ·exact⟨_,rfl,rfl⟩
    ·exact⟨_,rfl,rfl⟩
    ·exact⟨_,rfl,rfl⟩
    ·have ht:vN s.first s.log=some (decide ((s.log.length:Int)≤3)&&((s.first==0)||((s.log.length:Int)==3)),()):=by
      unfold vN yg
      simp only [a2,BU,Option.bind_some,bA,aw]
      rw [ec (by omega) (by omega),show t5 s.first 0 (16 - (s.log.length:Int))=true from jJ.2 ⟨by omega,by omega⟩]
      by_cases h3: (s.log.length:Int)≤3
      ·rw [if_pos h3,decide_eq_true h3]
       cases (s.first==0) <;> cases ((s.log.length:Int)==3) <;> rfl
      ·rw [if_neg h3,decide_eq_false h3]
       rfl
     rw [ht]
     by_cases h3: (s.log.length:Int)≤3
     ·rw [if_pos h3,decide_eq_true h3]
      cases (s.first==0) <;> cases ((s.log.length:Int)==3) <;> exact⟨_,rfl,rfl⟩
     ·rw [if_neg h3,decide_eq_false h3]
      exact⟨_,rfl,rfl⟩
theorem NN (m:ak) (e:Int) (h:AE 1048576 m): ∃ c b,lQ m e=some (c,b,())∧lZ m e=some (c,b,())∧iA maxLen c:=by
 obtain⟨b,m1,m2⟩:=masterLog m (qp h)
 have zero:iA maxLen ⟨0,0,[],[]⟩:=⟨Nat.zero_le _,Nat.zero_le _⟩
 have hl:=h.1
 unfold lQ rX lZ sb
 simp only [m1,m2,yu,BU,Option.bind_some,ma]
 cases b with
 | false=>exact⟨_,_,rfl,rfl,zero⟩
 | true=>
   cases hw:t5 e 1 (m.configs.length:Int) with
   | false=>exact⟨_,_,rfl,rfl,zero⟩
   | true=>
     have hw:=jJ.1 hw
     simp only [bA]
     rw [ec (n:=e - 1) (by omega) (by omega)]
     have hlt: (e - 1).toNat < m.configs.length:=by omega
     have hk:=h.2 _ (List.getElem_mem hlt)
     have copy: ∀ c:ai,iA 1048576 c→jt c=some (c,())∧dJ c=some (c,()):=by
      intro c hc
      unfold jt tC dJ lW
      simp only [List.nil_append]
      rw [fm (va hc.1),fm (va hc.2)]
      exact⟨rfl,rfl⟩
     rw [fm (by omega),fm (by omega),List.getElem?_eq_getElem hlt]
     simp only [Option.bind_some,(copy _ hk).1,(copy _ hk).2]
     exact⟨_,_,rfl,rfl,kP hk⟩
theorem vd (x:aj) (h:rl 1048576 x):xM (bn x) (dk x):=by
 obtain⟨⟨hs1,hs2⟩,hsd,hml,hpl⟩:=h
 have hm:=dH hs1
 have bU:=rp (B1:=bu) (B2:=dy) x.servers.length (fun k=>(((),(k:Int),()),((x.now,x.servers,x.sides,x.master.configs,x.master.activated,x.masterUp,x.lease.epoch,x.lease.holder,x.lease.ends,x.places,()),()),())) (fun k=>(((),x.servers,(x.servers.length:Int),(k:Int),()),((x.now,x.servers,x.sides,x.master.configs,x.master.activated,x.masterUp,x.lease.epoch,x.lease.holder,x.lease.ends,x.places,()),()),())) (.inr (((),()),(),())) (.inr (((),()),(),())) (fun _=> .inl ((false,()),(),())) (fun _=> .inl ((false,()),(),()))
  (fun _=>True) (fun _=>True)
  (by simp only [bu,dI]; rw [aw,if_neg (by omega)])
  (by simp only [dy,gK]; rw [aw,if_neg (by omega)])
  (fun k hk=>by
    have c1: (k:Int) < (x.servers.length:Int):=by omega
    have c2: (0:Int)≤(k:Int):=by omega
    have hsk:=hs2 _ (List.getElem_mem hk)
    obtain⟨b,v1,v2⟩:=Jy x.servers[k] (k:Int) hsk
    obtain⟨n,n1,n2⟩:=yw x.servers[k].learned (dH hsk.2.2)
    obtain⟨c,d,d1,d2,d3⟩:=NN x.master x.servers[k].config.epoch hml
    have hcfg:=kP hsk.1
    simp only [bu,dI,dy,gK,aw,be,if_pos c1,if_pos c2,Int.toNat_natCast,List.getElem?_eq_getElem hk,Option.bind_some,v1,v2,n1,n2,bF hm hk,ma,
     show (⟨x.master.configs,x.master.activated⟩:ak)=x.master from rfl,d1,d2,Lg _ hcfg,(qo _ (⟨0,0,[],[]⟩:ai) hcfg).2,(qo c x.servers[k].config d3).1,(qo c x.servers[k].config d3).2]
    cases b with
    | false=>exact .inr ⟨rfl,rfl,trivial⟩
    | true=>
      simp only [bA]
      by_cases h1:x.servers[k].epoch > (x.master.configs.length:Int)
      ·simp only [if_pos h1]
       exact .inr ⟨trivial,trivial,trivial⟩
      ·simp only [if_neg h1]
       by_cases h2:n > x.master.activated
       ·simp only [if_pos h2]
        exact .inr ⟨trivial,trivial,trivial⟩
       ·simp only [if_neg h2]
        by_cases h3:x.servers[k].config=⟨0,0,[],[]⟩
        ·simp only [if_pos h3]
         exact .inl ⟨trivial,trivial,trivial⟩
        ·simp only [if_neg h3]
         cases d with
         | false=>exact .inr ⟨rfl,rfl,trivial⟩
         | true=>
           simp only [bA]
           by_cases h4:c=x.servers[k].config
           ·simp only [if_pos h4]
            by_cases h5:x.servers[k].config.epoch > x.master.activated
            ·simp only [if_pos h5]
             exact .inr ⟨trivial,trivial,trivial⟩
            ·simp only [if_neg h5]
             exact .inl ⟨trivial,trivial,trivial⟩
           ·simp only [if_neg h4]
            exact .inr ⟨trivial,trivial,trivial⟩)
 unfold bn i4 dk lC
 obtain⟨b1,a1,a2⟩:=GV x.sides (dH hsd)
 obtain⟨b2,m1,m2⟩:=masterLog x.master (qp hml)
 obtain⟨b3,l1,l2⟩:=Lf x.lease
 obtain⟨b4,p1,p2⟩:=Qj x.places (dH hpl)
 simp only [yu,BU,a1,a2,m1,m2,l1,l2,p1,p2,Option.bind_some,ma,aw]
 cases t5 x.now 0 999 with
 | false=>exact⟨_,rfl,rfl⟩
 | true=>
 cases ((x.servers.length:Int)==5) with
 | false=>exact⟨_,rfl,rfl⟩
 | true=>
 cases b1 with
 | false=>exact⟨_,rfl,rfl⟩
 | true=>
 cases b2 with
 | false=>exact⟨_,rfl,rfl⟩
 | true=>
 cases t5 x.masterUp 0 3 with
 | false=>cases b3 <;> cases b4 <;> exact⟨_,rfl,rfl⟩
 | true=>
 cases b3 with
 | false=>exact⟨_,rfl,rfl⟩
 | true=>
 cases b4 with
 | false=>exact⟨_,rfl,rfl⟩
 | true=>
 simp only [bA]
 by_cases h1:x.lease.epoch > x.master.activated
 ·simp only [if_pos h1]
  exact⟨_,rfl,rfl⟩
 ·simp only [if_neg h1]
  rcases bU with ⟨k1,k2,_⟩ | ⟨k,_,k1,k2,_⟩
  ·rw [show ig (((),0,()),((x.now,x.servers,x.sides,x.master.configs,x.master.activated,x.masterUp,x.lease.epoch,x.lease.holder,x.lease.ends,x.places,()),()),())=_ from k1,show kH (((),x.servers,(x.servers.length:Int),0,()),((x.now,x.servers,x.sides,x.master.configs,x.master.activated,x.masterUp,x.lease.epoch,x.lease.holder,x.lease.ends,x.places,()),()),())=_ from k2]
   exact⟨_,rfl,rfl⟩
  ·rw [show ig (((),0,()),((x.now,x.servers,x.sides,x.master.configs,x.master.activated,x.masterUp,x.lease.epoch,x.lease.holder,x.lease.ends,x.places,()),()),())=_ from k1,show kH (((),x.servers,(x.servers.length:Int),0,()),((x.now,x.servers,x.sides,x.master.configs,x.master.activated,x.masterUp,x.lease.epoch,x.lease.holder,x.lease.ends,x.places,()),()),())=_ from k2]
   exact⟨_,rfl,rfl⟩
end Go.Proofs.YtkcgfceffffmoaaGreat.En
