/- Valid clusters, on: servers, configurations in force, the whole. -/
import Derived.Test.YtkcgfceffffmoaaGreatZPV4
namespace Go.Proofs.YtkcgfceffffmoaaGreat.En
open Go
theorem mr {c:dW} (h:nm 1048576 c):nm maxLen c:=⟨gJ h.1,gJ h.2⟩
theorem q9 {m:ei} (h:JQ 1048576 m):JQ maxLen m:=⟨gJ h.1,fun c hc=>mr (h.2 c hc)⟩
theorem JT (c:dW) (h:nm maxLen c):yd c=some (decide (c=⟨0,0,[],[]⟩),()):=by
 unfold yd Je;rw [(rT c _ h).1];rfl
theorem Hl (s:eb) (id:Int) (h:nX 1048576 s):NT (fw s id) (nw s id):=by
 have hc:=mr h.1;unfold fw mz nw yA;simp only [vk,z6,ae,iq];cases sP s.version 1 2 with
 | false=>exact⟨_,rfl,rfl⟩
 | true=>
 cases sP s.epoch 0 20 with
 | false=>exact⟨_,rfl,rfl⟩
 | true=>
 rcases KG s.log (gJ h.2.1) with ⟨a1,a2,a3⟩ | ⟨a1,a2⟩
 case inr=>simp only [a1,a2,ae,ew,fA]; exact⟨_,rfl,rfl⟩
 rcases KG s.learned (gJ h.2.2) with ⟨b1,b2,b3⟩ | ⟨b1,b2⟩
 case inr=>simp only [a1,a2,b1,b2,ae,ew,fA]; exact⟨_,rfl,rfl⟩
 simp only [a1,a2,b1,b2,ae,ew];cases hw:sP s.first 0 16 with
 | false=>exact⟨_,rfl,rfl⟩
 | true=>
 have hf:=jD.1 hw;rw [iY (n:=s.first+(s.log.length:Int)) (by omega) (by omega)];by_cases h16:s.first+(s.log.length:Int)<=16
 case neg=>
  have e1:sP (s.first+(s.log.length:Int)) 0 16=false:=by unfold sP; simp; omega
  simp only [e1,ew,fA,ec,if_pos (show s.first+(s.log.length:Int) > 16 by omega)];exact⟨_,rfl,rfl⟩
 have e1:sP (s.first+(s.log.length:Int)) 0 16=true:=jD.2 ⟨by omega,h16⟩;simp only [e1,ew,ec,if_neg (show ¬ s.first+(s.log.length:Int) > 16 by omega),JT s.config hc,(rT s.config ⟨0,0,[],[]⟩ hc).2,ae];cases sP s.commit 0 (s.first+(s.log.length:Int)) with
 | false=>exact⟨_,rfl,rfl⟩
 | true=>
 simp only [ew];by_cases hz:s.config=⟨0,0,[],[]⟩
 ·simp only [if_pos hz];cases (s.first==0) <;> cases (s.commit==0) <;> cases ((s.log.length:Int)==0) <;> exact⟨_,rfl,rfl⟩
 ·simp only [if_neg hz];cases s.intact with
  | false=>exact⟨_,rfl,rfl⟩
  | true=>
  simp only [ew];by_cases he:s.epoch < s.config.epoch
  ·simp only [if_pos he];exact⟨_,rfl,rfl⟩
  ·simp only [if_neg he];obtain⟨n,n1,n2⟩:=FQ s.log (gJ h.2.1);simp only [n1,n2,ae];by_cases hn:n > s.config.epoch
   ·simp only [if_pos hn];exact⟨_,rfl,rfl⟩
   ·simp only [if_neg hn];obtain⟨r,r1,r2,r3⟩:=akF s.config id hc;simp only [r1,r2,ae];rcases r3 with rfl | rfl | rfl | rfl
    ·exact⟨_,rfl,rfl⟩
    ·exact⟨_,rfl,rfl⟩
    ·exact⟨_,rfl,rfl⟩
    ·have ht:Ct s.first s.log=some (decide ((s.log.length:Int)<=3)&&((s.first==0)||((s.log.length:Int)==3)),()):=by
      unfold Ct Iz;simp only [a2,z6,ae,ew,ec];rw [iY (by omega) (by omega),show sP s.first 0 (16 - (s.log.length:Int))=true from jD.2 ⟨by omega,by omega⟩];by_cases h3: (s.log.length:Int)<=3
      ·rw [if_pos h3,decide_eq_true h3];cases (s.first==0) <;> cases ((s.log.length:Int)==3) <;> rfl
      ·rw [if_neg h3,decide_eq_false h3];rfl
     rw [ht];by_cases h3: (s.log.length:Int)<=3
     ·rw [if_pos h3,decide_eq_true h3];cases (s.first==0) <;> cases ((s.log.length:Int)==3) <;> exact⟨_,rfl,rfl⟩
     ·rw [if_neg h3,decide_eq_false h3];exact⟨_,rfl,rfl⟩
theorem ML (m:ei) (e:Int) (h:JQ 1048576 m): ∃ c b,oZ m e=some (c,b,())/\qj m e=some (c,b,())/\nm maxLen c:=by
 obtain⟨b,m1,m2⟩:=masterLog m (q9 h);have zero:nm maxLen ⟨0,0,[],[]⟩:=⟨aK _,aK _⟩
 have hl:=h.1;unfold oZ Eb qj Eg;simp only [m1,m2,vk,z6,ae,iq];cases b with
 | false=>exact⟨_,_,rfl,rfl,zero⟩
 | true=>
   cases hw:sP e 1 (m.configs.length:Int) with
   | false=>exact⟨_,_,rfl,rfl,zero⟩
   | true=>
     have hw:=jD.1 hw;simp only [ew];rw [iY (n:=e - 1) (by omega) (by omega)];have hlt: (e - 1).toNat < m.configs.length:=by omega
     have hk:=h.2 _ (bc hlt)
     have copy: ∀ c:dW,nm 1048576 c->o9 c=some (c,())/\jz c=some (c,()):=by
      intro c hc;unfold o9 FI jz vC;simp only [bq];rw [jT (qA hc.1),jT (qA hc.2)];exact⟨rfl,rfl⟩
     rw [jT (by omega),jT (by omega),ai hlt];simp only [ae,(copy _ hk).1,(copy _ hk).2];exact⟨_,_,rfl,rfl,mr hk⟩
theorem od (x:dV) (h:pg 1048576 x):NT (eC x) (gZ x):=by
 obtain⟨⟨hs1,hs2⟩,hsd,hml,hpl⟩:=h;have hm:=gJ hs1
 have fC:=ug (B1:=eP) (B2:=jf) x.servers.length (fun k=>(((),(k:Int),()),((x.now,x.servers,x.sides,x.master.configs,x.master.activated,x.masterUp,x.lease.epoch,x.lease.holder,x.lease.ends,x.places,()),()),())) (fun k=>(((),x.servers,(x.servers.length:Int),(k:Int),()),((x.now,x.servers,x.sides,x.master.configs,x.master.activated,x.masterUp,x.lease.epoch,x.lease.holder,x.lease.ends,x.places,()),()),())) (.inr (((),()),(),())) (.inr (((),()),(),())) (fun _=> .inl ((false,()),(),())) (fun _=> .inl ((false,()),(),()))
  (fun _=>True) (fun _=>True)
  (by simp only [eP,ic,iP]; rw [ec,if_neg (by omega)])
  (by simp only [jf,pe,sN]; rw [ec,if_neg (by omega)])
  (fun k hk=>by
    have c1: (k:Int) < (x.servers.length:Int):=by omega
    have c2: (0:Int)<=(k:Int):=by omega
    have hsk:=hs2 _ (bc hk);obtain⟨b,v1,v2⟩:=Hl x.servers[k] (k:Int) hsk;obtain⟨n,n1,n2⟩:=FQ x.servers[k].learned (gJ hsk.2.2);obtain⟨c,d,d1,d2,d3⟩:=ML x.master x.servers[k].config.epoch hml;have hcfg:=mr hsk.1
    simp only [eP,ic,iP,jf,pe,sN,ec,ez,if_pos c1,if_pos c2,aw,ai hk,ae,v1,v2,n1,n2,eB hm hk,iq,
     show (⟨x.master.configs,x.master.activated⟩:ei)=x.master from rfl,d1,d2,JT _ hcfg,(rT _ (⟨0,0,[],[]⟩:dW) hcfg).2,(rT c x.servers[k].config d3).1,(rT c x.servers[k].config d3).2]
    cases b with
    | false=>exact .inr ⟨rfl,rfl,trivial⟩
    | true=>
      simp only [ew];by_cases h1:x.servers[k].epoch > (x.master.configs.length:Int)
      ·simp only [if_pos h1];exact .inr ⟨trivial,trivial,trivial⟩
      ·simp only [if_neg h1];by_cases h2:n > x.master.activated
       ·simp only [if_pos h2];exact .inr ⟨trivial,trivial,trivial⟩
       ·simp only [if_neg h2];by_cases h3:x.servers[k].config=⟨0,0,[],[]⟩
        ·simp only [if_pos h3];exact .inl ⟨trivial,trivial,trivial⟩
        ·simp only [if_neg h3];cases d with
         | false=>exact .inr ⟨rfl,rfl,trivial⟩
         | true=>
           simp only [ew];by_cases h4:c=x.servers[k].config
           ·simp only [if_pos h4];by_cases h5:x.servers[k].config.epoch > x.master.activated
            ·simp only [if_pos h5];exact .inr ⟨trivial,trivial,trivial⟩
            ·simp only [if_neg h5];exact .inl ⟨trivial,trivial,trivial⟩
           ·simp only [if_neg h4];exact .inr ⟨trivial,trivial,trivial⟩)
 unfold eC m9 gZ wo;obtain⟨b1,a1,a2⟩:=MJ x.sides (gJ hsd);obtain⟨b2,m1,m2⟩:=masterLog x.master (q9 hml);obtain⟨b3,l1,l2⟩:=Ni x.lease;obtain⟨b4,p1,p2⟩:=Ds x.places (gJ hpl);simp only [vk,z6,a1,a2,m1,m2,l1,l2,p1,p2,ae,iq,ec];cases sP x.now 0 999 with
 | false=>exact⟨_,rfl,rfl⟩
 | true=>
 cases ((x.servers.length:Int)==5) with
 | false=>exact⟨_,rfl,rfl⟩
 | true=>
 cases b1 with
 | false=>exact⟨_,rfl,rfl⟩
 | true=>
 cases b2 with
 | false=>exact⟨_,rfl,rfl⟩
 | true=>
 cases sP x.masterUp 0 3 with
 | false=>cases b3 <;> cases b4 <;> exact⟨_,rfl,rfl⟩
 | true=>
 cases b3 with
 | false=>exact⟨_,rfl,rfl⟩
 | true=>
 cases b4 with
 | false=>exact⟨_,rfl,rfl⟩
 | true=>
 simp only [ew];by_cases h1:x.lease.epoch > x.master.activated
 ·simp only [if_pos h1];exact⟨_,rfl,rfl⟩
 ·simp only [if_neg h1];rcases fC with ⟨k1,k2,_⟩ | ⟨k,_,k1,k2,_⟩
  ·rw [show kU (((),0,()),((x.now,x.servers,x.sides,x.master.configs,x.master.activated,x.masterUp,x.lease.epoch,x.lease.holder,x.lease.ends,x.places,()),()),())=_ from k1,show qn (((),x.servers,(x.servers.length:Int),0,()),((x.now,x.servers,x.sides,x.master.configs,x.master.activated,x.masterUp,x.lease.epoch,x.lease.holder,x.lease.ends,x.places,()),()),())=_ from k2];exact⟨_,rfl,rfl⟩
  ·rw [show kU (((),0,()),((x.now,x.servers,x.sides,x.master.configs,x.master.activated,x.masterUp,x.lease.epoch,x.lease.holder,x.lease.ends,x.places,()),()),())=_ from k1,show qn (((),x.servers,(x.servers.length:Int),0,()),((x.now,x.servers,x.sides,x.master.configs,x.master.activated,x.masterUp,x.lease.epoch,x.lease.holder,x.lease.ends,x.places,()),()),())=_ from k2];exact⟨_,rfl,rfl⟩
end Go.Proofs.YtkcgfceffffmoaaGreat.En
