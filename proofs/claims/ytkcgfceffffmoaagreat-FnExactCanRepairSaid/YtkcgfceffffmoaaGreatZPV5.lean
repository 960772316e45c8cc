/- Valid clusters, on: servers, configurations in force, the whole. -/
import Derived.Test.YtkcgfceffffmoaaGreatZPV4
namespace Go.Proofs.YtkcgfceffffmoaaGreat.En
open Go
theorem ox {c:ai} (h:jQ 1048576 c):jQ maxLen c:=⟨fo h.1,fo h.2⟩
theorem oy {m:aD} (h:DF 1048576 m):DF maxLen m:=⟨fo h.1,fun c hc=>ox (h.2 c hc)⟩
theorem Hv (c:ai) (h:jQ maxLen c):mQ c=some (decide (c=⟨0,0,[],[]⟩),()):=by
 unfold mQ pW
 rw [(lr c _ h).1]
 rfl
theorem Al (s:aZ) (id:Int) (h:uc 1048576 s):wK (dV s id) (fA s id):=by
 have hc:=ox h.1
 unfold dV iZ fA jg
 simp only [uP,wn,Option.bind_some,nW]
 cases rK s.version 1 2 with
 | false=>exact⟨_,rfl,rfl⟩
 | true=>
 cases rK s.epoch 0 20 with
 | false=>exact⟨_,rfl,rfl⟩
 | true=>
 rcases QD s.log (fo h.2.1) with ⟨a1,a2,a3⟩ | ⟨a1,a2⟩
 case inr=>simp only [a1,a2,Option.bind_some,cA,cT]; exact⟨_,rfl,rfl⟩
 rcases QD s.learned (fo h.2.2) with ⟨b1,b2,b3⟩ | ⟨b1,b2⟩
 case inr=>simp only [a1,a2,b1,b2,Option.bind_some,cA,cT]; exact⟨_,rfl,rfl⟩
 simp only [a1,a2,b1,b2,Option.bind_some,cA]
 cases hw:rK s.first 0 16 with
 | false=>exact⟨_,rfl,rfl⟩
 | true=>
 have hf:=ke.1 hw
 rw [mi (n:=s.first+(s.log.length:Int)) (by omega) (by omega)]
 by_cases h16:s.first+(s.log.length:Int)≤16
 case neg=>
  have e1:rK (s.first+(s.log.length:Int)) 0 16=false:=by unfold rK; simp; omega
  simp only [e1,cA,cT,aR,if_pos (show s.first+(s.log.length:Int) > 16 by omega)]
  exact⟨_,rfl,rfl⟩
 have e1:rK (s.first+(s.log.length:Int)) 0 16=true:=ke.2 ⟨by omega,h16⟩
 simp only [e1,cA,aR,if_neg (show ¬ s.first+(s.log.length:Int) > 16 by omega),Hv s.config hc,(lr s.config ⟨0,0,[],[]⟩ hc).2,Option.bind_some]
 cases rK s.commit 0 (s.first+(s.log.length:Int)) with
 | false=>exact⟨_,rfl,rfl⟩
 | true=>
 simp only [cA]
 by_cases hz:s.config=⟨0,0,[],[]⟩
 ·simp only [if_pos hz]
  cases (s.first==0) <;> cases (s.commit==0) <;> cases ((s.log.length:Int)==0) <;> exact⟨_,rfl,rfl⟩
 ·simp only [if_neg hz]
  cases s.intact with
  | false=>exact⟨_,rfl,rfl⟩
  | true=>
  simp only [cA]
  by_cases he:s.epoch < s.config.epoch
  ·simp only [if_pos he]
   exact⟨_,rfl,rfl⟩
  ·simp only [if_neg he]
   obtain⟨n,n1,n2⟩:=zq s.log (fo h.2.1)
   simp only [n1,n2,Option.bind_some]
   by_cases hn:n > s.config.epoch
   ·simp only [if_pos hn]
    exact⟨_,rfl,rfl⟩
   ·simp only [if_neg hn]
    obtain⟨r,r1,r2,r3⟩:=Ru s.config id hc
    simp only [r1,r2,Option.bind_some]
    rcases r3 with rfl | rfl | rfl | rfl
    ·exact⟨_,rfl,rfl⟩
    ·exact⟨_,rfl,rfl⟩
    ·exact⟨_,rfl,rfl⟩
    ·have ht:qc s.first s.log=some (decide ((s.log.length:Int)≤3)&&((s.first==0)||((s.log.length:Int)==3)),()):=by
      unfold qc rH
      simp only [a2,wn,Option.bind_some,cA,aR]
      rw [mi (by omega) (by omega),show rK s.first 0 (16 - (s.log.length:Int))=true from ke.2 ⟨by omega,by omega⟩]
      by_cases h3: (s.log.length:Int)≤3
      ·rw [if_pos h3,decide_eq_true h3]
       cases (s.first==0) <;> cases ((s.log.length:Int)==3) <;> rfl
      ·rw [if_neg h3,decide_eq_false h3]
       rfl
     rw [ht]
     by_cases h3: (s.log.length:Int)≤3
     ·rw [if_pos h3,decide_eq_true h3]
      cases (s.first==0) <;> cases ((s.log.length:Int)==3) <;> exact⟨_,rfl,rfl⟩
     ·rw [if_neg h3,decide_eq_false h3]
      exact⟨_,rfl,rfl⟩
theorem J0 (m:aD) (e:Int) (h:DF 1048576 m): ∃ c b,iv m e=some (c,b,())∧iA m e=some (c,b,())∧jQ maxLen c:=by
 obtain⟨b,m1,m2⟩:=masterLog m (oy h)
 have zero:jQ maxLen ⟨0,0,[],[]⟩:=⟨Nat.zero_le _,Nat.zero_le _⟩
 have hl:=h.1
 unfold iv mS iA mU
 simp only [m1,m2,uP,wn,Option.bind_some,nW]
 cases b with
 | false=>exact⟨_,_,rfl,rfl,zero⟩
 | true=>
   cases hw:rK e 1 (m.configs.length:Int) with
   | false=>exact⟨_,_,rfl,rfl,zero⟩
   | true=>
     have hw:=ke.1 hw
     simp only [cA]
     rw [mi (n:=e - 1) (by omega) (by omega)]
     have hlt: (e - 1).toNat < m.configs.length:=by omega
     have hk:=h.2 _ (List.getElem_mem hlt)
     have copy: ∀ c:ai,jQ 1048576 c→nA c=some (c,())∧fH c=some (c,()):=by
      intro c hc
      unfold nA pK fH jY
      simp only [List.nil_append]
      rw [en (pE hc.1),en (pE hc.2)]
      exact⟨rfl,rfl⟩
     rw [en (by omega),en (by omega),List.getElem?_eq_getElem hlt]
     simp only [Option.bind_some,(copy _ hk).1,(copy _ hk).2]
     exact⟨_,_,rfl,rfl,ox hk⟩
theorem Hw (x:ax) (h:zn 1048576 x):wK (cg x) (eT x):=by
 obtain⟨⟨hs1,hs2⟩,hsd,hml,hpl⟩:=h
 have hm:=fo hs1
 have cd:=oA (B1:=bc) (B2:=cI) x.servers.length (fun k=>(((),(k:Int),()),((x.now,x.servers,x.sides,x.master.configs,x.master.activated,x.masterUp,x.lease.epoch,x.lease.holder,x.lease.ends,x.places,()),()),())) (fun k=>(((),x.servers,(x.servers.length:Int),(k:Int),()),((x.now,x.servers,x.sides,x.master.configs,x.master.activated,x.masterUp,x.lease.epoch,x.lease.holder,x.lease.ends,x.places,()),()),())) (.inr (((),()),(),())) (.inr (((),()),(),())) (fun _=> .inl ((false,()),(),())) (fun _=> .inl ((false,()),(),()))
  (fun _=>True) (fun _=>True)
  (by simp only [bc,cO]; rw [aR,if_neg (by omega)])
  (by simp only [cI,eE]; rw [aR,if_neg (by omega)])
  (fun k hk=>by
    have c1: (k:Int) < (x.servers.length:Int):=by omega
    have c2: (0:Int)≤(k:Int):=by omega
    have hsk:=hs2 _ (List.getElem_mem hk)
    obtain⟨b,v1,v2⟩:=Al x.servers[k] (k:Int) hsk
    obtain⟨n,n1,n2⟩:=zq x.servers[k].learned (fo hsk.2.2)
    obtain⟨c,d,d1,d2,d3⟩:=J0 x.master x.servers[k].config.epoch hml
    have hcfg:=ox hsk.1
    simp only [bc,cO,cI,eE,aR,cU,if_pos c1,if_pos c2,Int.toNat_natCast,List.getElem?_eq_getElem hk,Option.bind_some,v1,v2,n1,n2,cc hm hk,nW,
     show (⟨x.master.configs,x.master.activated⟩:aD)=x.master from rfl,d1,d2,Hv _ hcfg,(lr _ (⟨0,0,[],[]⟩:ai) hcfg).2,(lr c x.servers[k].config d3).1,(lr c x.servers[k].config d3).2]
    cases b with
    | false=>exact .inr ⟨rfl,rfl,trivial⟩
    | true=>
      simp only [cA]
      by_cases h1:x.servers[k].epoch > (x.master.configs.length:Int)
      ·simp only [if_pos h1]
       exact .inr ⟨trivial,trivial,trivial⟩
      ·simp only [if_neg h1]
       by_cases h2:n > x.master.activated
       ·simp only [if_pos h2]
        exact .inr ⟨trivial,trivial,trivial⟩
       ·simp only [if_neg h2]
        by_cases h3:x.servers[k].config=⟨0,0,[],[]⟩
        ·simp only [if_pos h3]
         exact .inl ⟨trivial,trivial,trivial⟩
        ·simp only [if_neg h3]
         cases d with
         | false=>exact .inr ⟨rfl,rfl,trivial⟩
         | true=>
           simp only [cA]
           by_cases h4:c=x.servers[k].config
           ·simp only [if_pos h4]
            by_cases h5:x.servers[k].config.epoch > x.master.activated
            ·simp only [if_pos h5]
             exact .inr ⟨trivial,trivial,trivial⟩
            ·simp only [if_neg h5]
             exact .inl ⟨trivial,trivial,trivial⟩
           ·simp only [if_neg h4]
            exact .inr ⟨trivial,trivial,trivial⟩)
 unfold cg fr eT ic
 obtain⟨b1,a1,a2⟩:=DJ x.sides (fo hsd)
 obtain⟨b2,m1,m2⟩:=masterLog x.master (oy hml)
 obtain⟨b3,l1,l2⟩:=Hu x.lease
 obtain⟨b4,p1,p2⟩:=uH x.places (fo hpl)
 simp only [uP,wn,a1,a2,m1,m2,l1,l2,p1,p2,Option.bind_some,nW,aR]
 cases rK x.now 0 999 with
 | false=>exact⟨_,rfl,rfl⟩
 | true=>
 cases ((x.servers.length:Int)==5) with
 | false=>exact⟨_,rfl,rfl⟩
 | true=>
 cases b1 with
 | false=>exact⟨_,rfl,rfl⟩
 | true=>
 cases b2 with
 | false=>exact⟨_,rfl,rfl⟩
 | true=>
 cases rK x.masterUp 0 3 with
 | false=>cases b3 <;> cases b4 <;> exact⟨_,rfl,rfl⟩
 | true=>
 cases b3 with
 | false=>exact⟨_,rfl,rfl⟩
 | true=>
 cases b4 with
 | false=>exact⟨_,rfl,rfl⟩
 | true=>
 simp only [cA]
 by_cases h1:x.lease.epoch > x.master.activated
 ·simp only [if_pos h1]
  exact⟨_,rfl,rfl⟩
 ·simp only [if_neg h1]
  rcases cd with ⟨k1,k2,_⟩ | ⟨k,_,k1,k2,_⟩
  ·rw [show eR (((),0,()),((x.now,x.servers,x.sides,x.master.configs,x.master.activated,x.masterUp,x.lease.epoch,x.lease.holder,x.lease.ends,x.places,()),()),())=_ from k1,show gt (((),x.servers,(x.servers.length:Int),0,()),((x.now,x.servers,x.sides,x.master.configs,x.master.activated,x.masterUp,x.lease.epoch,x.lease.holder,x.lease.ends,x.places,()),()),())=_ from k2]
   exact⟨_,rfl,rfl⟩
  ·rw [show eR (((),0,()),((x.now,x.servers,x.sides,x.master.configs,x.master.activated,x.masterUp,x.lease.epoch,x.lease.holder,x.lease.ends,x.places,()),()),())=_ from k1,show gt (((),x.servers,(x.servers.length:Int),0,()),((x.now,x.servers,x.sides,x.master.configs,x.master.activated,x.masterUp,x.lease.epoch,x.lease.holder,x.lease.ends,x.places,()),()),())=_ from k2]
   exact⟨_,rfl,rfl⟩
end Go.Proofs.YtkcgfceffffmoaaGreat.En
