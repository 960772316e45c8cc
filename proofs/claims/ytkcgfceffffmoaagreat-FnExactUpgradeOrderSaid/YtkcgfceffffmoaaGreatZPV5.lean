/- Valid clusters, on: servers, configurations in force, the whole. -/
import Derived.Test.YtkcgfceffffmoaaGreatZPV4
namespace Go.Proofs.YtkcgfceffffmoaaGreat.En
open Go
theorem pY {c:ai} (h:jG 1048576 c):jG maxLen c:=⟨hZ h.1,hZ h.2⟩
theorem rg {m:ay} (h:Ee 1048576 m):Ee maxLen m:=⟨hZ h.1,fun c hc=>pY (h.2 c hc)⟩
theorem Ka (c:ai) (h:jG maxLen c):oL c=some (decide (c=⟨0,0,[],[]⟩),()):=by
 unfold oL rz
 rw [(nm c _ h).1]
 rfl
theorem Dd (s:aB) (id:Int) (h:rU 1048576 s):Fq (eI s id) (gR s id):=by
 have hc:=pY h.1
 unfold eI kj gR kz
 simp only [zw,Cq,Option.bind_some,oC]
 cases vu s.version 1 2 with
 | false=>exact⟨_,rfl,rfl⟩
 | true=>
 cases vu s.epoch 0 20 with
 | false=>exact⟨_,rfl,rfl⟩
 | true=>
 rcases Tw s.log (hZ h.2.1) with ⟨a1,a2,a3⟩ | ⟨a1,a2⟩
 case inr=>simp only [a1,a2,Option.bind_some,dv,dz]; exact⟨_,rfl,rfl⟩
 rcases Tw s.learned (hZ h.2.2) with ⟨b1,b2,b3⟩ | ⟨b1,b2⟩
 case inr=>simp only [a1,a2,b1,b2,Option.bind_some,dv,dz]; exact⟨_,rfl,rfl⟩
 simp only [a1,a2,b1,b2,Option.bind_some,dv]
 cases hw:vu s.first 0 16 with
 | false=>exact⟨_,rfl,rfl⟩
 | true=>
 have hf:=od.1 hw
 rw [gb (n:=s.first+(s.log.length:Int)) (by omega) (by omega)]
 by_cases h16:s.first+(s.log.length:Int)≤16
 case neg=>
  have e1:vu (s.first+(s.log.length:Int)) 0 16=false:=by unfold vu; simp; omega
  simp only [e1,dv,dz,aA,if_pos (show s.first+(s.log.length:Int) > 16 by omega)]
  exact⟨_,rfl,rfl⟩
 have e1:vu (s.first+(s.log.length:Int)) 0 16=true:=od.2 ⟨by omega,h16⟩
 simp only [e1,dv,aA,if_neg (show ¬ s.first+(s.log.length:Int) > 16 by omega),Ka s.config hc,(nm s.config ⟨0,0,[],[]⟩ hc).2,Option.bind_some]
 cases vu s.commit 0 (s.first+(s.log.length:Int)) with
 | false=>exact⟨_,rfl,rfl⟩
 | true=>
 simp only [dv]
 by_cases hz:s.config=⟨0,0,[],[]⟩
 ·simp only [if_pos hz]
  cases (s.first==0) <;> cases (s.commit==0) <;> cases ((s.log.length:Int)==0) <;> exact⟨_,rfl,rfl⟩
 ·simp only [if_neg hz]
  cases s.intact with
  | false=>exact⟨_,rfl,rfl⟩
  | true=>
  simp only [dv]
  by_cases he:s.epoch < s.config.epoch
  ·simp only [if_pos he]
   exact⟨_,rfl,rfl⟩
  ·simp only [if_neg he]
   obtain⟨n,n1,n2⟩:=Cr s.log (hZ h.2.1)
   simp only [n1,n2,Option.bind_some]
   by_cases hn:n > s.config.epoch
   ·simp only [if_pos hn]
    exact⟨_,rfl,rfl⟩
   ·simp only [if_neg hn]
    obtain⟨r,r1,r2,r3⟩:=Uq s.config id hc
    simp only [r1,r2,Option.bind_some]
    rcases r3 with rfl | rfl | rfl | rfl
    ·exact⟨_,rfl,rfl⟩
    ·exact⟨_,rfl,rfl⟩
    ·exact⟨_,rfl,rfl⟩
    ·have ht:rJ s.first s.log=some (decide ((s.log.length:Int)≤3)&&((s.first==0)||((s.log.length:Int)==3)),()):=by
      unfold rJ tU
      simp only [a2,Cq,Option.bind_some,dv,aA]
      rw [gb (by omega) (by omega),show vu s.first 0 (16 - (s.log.length:Int))=true from od.2 ⟨by omega,by omega⟩]
      by_cases h3: (s.log.length:Int)≤3
      ·rw [if_pos h3,decide_eq_true h3]
       cases (s.first==0) <;> cases ((s.log.length:Int)==3) <;> rfl
      ·rw [if_neg h3,decide_eq_false h3]
       rfl
     rw [ht]
     by_cases h3: (s.log.length:Int)≤3
     ·rw [if_pos h3,decide_eq_true h3]
      cases (s.first==0) <;> cases ((s.log.length:Int)==3) <;> exact⟨_,rfl,rfl⟩
     ·rw [if_neg h3,decide_eq_false h3]
      exact⟨_,rfl,rfl⟩
theorem GC (m:ay) (e:Int) (h:Ee 1048576 m): ∃ c b,jN m e=some (c,b,())∧jQ m e=some (c,b,())∧jG maxLen c:=by
 obtain⟨b,m1,m2⟩:=masterLog m (rg h)
 have zero:jG maxLen ⟨0,0,[],[]⟩:=⟨Nat.zero_le _,Nat.zero_le _⟩
 have hl:=h.1
 unfold jN oJ jQ oO
 simp only [m1,m2,zw,Cq,Option.bind_some,oC]
 cases b with
 | false=>exact⟨_,_,rfl,rfl,zero⟩
 | true=>
   cases hw:vu e 1 (m.configs.length:Int) with
   | false=>exact⟨_,_,rfl,rfl,zero⟩
   | true=>
     have hw:=od.1 hw
     simp only [dv]
     rw [gb (n:=e - 1) (by omega) (by omega)]
     have hlt: (e - 1).toNat < m.configs.length:=by omega
     have hk:=h.2 _ (List.getElem_mem hlt)
     have copy: ∀ c:ai,jG 1048576 c→pa c=some (c,())∧hU c=some (c,()):=by
      intro c hc
      unfold pa rf hU lx
      simp only [List.nil_append]
      rw [eU (oe hc.1),eU (oe hc.2)]
      exact⟨rfl,rfl⟩
     rw [eU (by omega),eU (by omega),List.getElem?_eq_getElem hlt]
     simp only [Option.bind_some,(copy _ hk).1,(copy _ hk).2]
     exact⟨_,_,rfl,rfl,pY hk⟩
theorem Kb (x:aG) (h:A4 1048576 x):Fq (dG x) (fR x):=by
 obtain⟨⟨hs1,hs2⟩,hsd,hml,hpl⟩:=h
 have hm:=hZ hs1
 have b7:=p6 (B1:=bi) (B2:=cS) x.servers.length (fun k=>(((),(k:Int),()),((x.now,x.servers,x.sides,x.master.configs,x.master.activated,x.masterUp,x.lease.epoch,x.lease.holder,x.lease.ends,x.places,()),()),())) (fun k=>(((),x.servers,(x.servers.length:Int),(k:Int),()),((x.now,x.servers,x.sides,x.master.configs,x.master.activated,x.masterUp,x.lease.epoch,x.lease.holder,x.lease.ends,x.places,()),()),())) (.inr (((),()),(),())) (.inr (((),()),(),())) (fun _=> .inl ((false,()),(),())) (fun _=> .inl ((false,()),(),()))
  (fun _=>True) (fun _=>True)
  (by simp only [bi,c9]; rw [aA,if_neg (by omega)])
  (by simp only [cS,fy]; rw [aA,if_neg (by omega)])
  (fun k hk=>by
    have c1: (k:Int) < (x.servers.length:Int):=by omega
    have c2: (0:Int)≤(k:Int):=by omega
    have hsk:=hs2 _ (List.getElem_mem hk)
    obtain⟨b,v1,v2⟩:=Dd x.servers[k] (k:Int) hsk
    obtain⟨n,n1,n2⟩:=Cr x.servers[k].learned (hZ hsk.2.2)
    obtain⟨c,d,d1,d2,d3⟩:=GC x.master x.servers[k].config.epoch hml
    have hcfg:=pY hsk.1
    simp only [bi,c9,cS,fy,aA,bR,if_pos c1,if_pos c2,Int.toNat_natCast,List.getElem?_eq_getElem hk,Option.bind_some,v1,v2,n1,n2,bD hm hk,oC,
     show (⟨x.master.configs,x.master.activated⟩:ay)=x.master from rfl,d1,d2,Ka _ hcfg,(nm _ (⟨0,0,[],[]⟩:ai) hcfg).2,(nm c x.servers[k].config d3).1,(nm c x.servers[k].config d3).2]
    cases b with
    | false=>exact .inr ⟨rfl,rfl,trivial⟩
    | true=>
      simp only [dv]
      by_cases h1:x.servers[k].epoch > (x.master.configs.length:Int)
      ·simp only [if_pos h1]
       exact .inr ⟨trivial,trivial,trivial⟩
      ·simp only [if_neg h1]
       by_cases h2:n > x.master.activated
       ·simp only [if_pos h2]
        exact .inr ⟨trivial,trivial,trivial⟩
       ·simp only [if_neg h2]
        by_cases h3:x.servers[k].config=⟨0,0,[],[]⟩
        ·simp only [if_pos h3]
         exact .inl ⟨trivial,trivial,trivial⟩
        ·simp only [if_neg h3]
         cases d with
         | false=>exact .inr ⟨rfl,rfl,trivial⟩
         | true=>
           simp only [dv]
           by_cases h4:c=x.servers[k].config
           ·simp only [if_pos h4]
            by_cases h5:x.servers[k].config.epoch > x.master.activated
            ·simp only [if_pos h5]
             exact .inr ⟨trivial,trivial,trivial⟩
            ·simp only [if_neg h5]
             exact .inl ⟨trivial,trivial,trivial⟩
           ·simp only [if_neg h4]
            exact .inr ⟨trivial,trivial,trivial⟩)
 unfold dG gz fR jA
 obtain⟨b1,a1,a2⟩:=Mv x.sides (hZ hsd)
 obtain⟨b2,m1,m2⟩:=masterLog x.master (rg hml)
 obtain⟨b3,l1,l2⟩:=OF x.lease
 obtain⟨b4,p1,p2⟩:=It x.places (hZ hpl)
 simp only [zw,Cq,a1,a2,m1,m2,l1,l2,p1,p2,Option.bind_some,oC,aA]
 cases vu x.now 0 999 with
 | false=>exact⟨_,rfl,rfl⟩
 | true=>
 cases ((x.servers.length:Int)==5) with
 | false=>exact⟨_,rfl,rfl⟩
 | true=>
 cases b1 with
 | false=>exact⟨_,rfl,rfl⟩
 | true=>
 cases b2 with
 | false=>exact⟨_,rfl,rfl⟩
 | true=>
 cases vu x.masterUp 0 3 with
 | false=>cases b3 <;> cases b4 <;> exact⟨_,rfl,rfl⟩
 | true=>
 cases b3 with
 | false=>exact⟨_,rfl,rfl⟩
 | true=>
 cases b4 with
 | false=>exact⟨_,rfl,rfl⟩
 | true=>
 simp only [dv]
 by_cases h1:x.lease.epoch > x.master.activated
 ·simp only [if_pos h1]
  exact⟨_,rfl,rfl⟩
 ·simp only [if_neg h1]
  rcases b7 with ⟨k1,k2,_⟩ | ⟨k,_,k1,k2,_⟩
  ·rw [show fM (((),0,()),((x.now,x.servers,x.sides,x.master.configs,x.master.activated,x.masterUp,x.lease.epoch,x.lease.holder,x.lease.ends,x.places,()),()),())=_ from k1,show i4 (((),x.servers,(x.servers.length:Int),0,()),((x.now,x.servers,x.sides,x.master.configs,x.master.activated,x.masterUp,x.lease.epoch,x.lease.holder,x.lease.ends,x.places,()),()),())=_ from k2]
   exact⟨_,rfl,rfl⟩
  ·rw [show fM (((),0,()),((x.now,x.servers,x.sides,x.master.configs,x.master.activated,x.masterUp,x.lease.epoch,x.lease.holder,x.lease.ends,x.places,()),()),())=_ from k1,show i4 (((),x.servers,(x.servers.length:Int),0,()),((x.now,x.servers,x.sides,x.master.configs,x.master.activated,x.masterUp,x.lease.epoch,x.lease.holder,x.lease.ends,x.places,()),()),())=_ from k2]
   exact⟨_,rfl,rfl⟩
end Go.Proofs.YtkcgfceffffmoaaGreat.En
