/- What a valid cluster says of each server; other servers in its place. -/
import Derived.Test.YtkcgfceffffmoaaGreatZPAct
namespace Go.Proofs.YtkcgfceffffmoaaGreat.En
open Go
structure SV (m:ei) (s:eb) (k:Int):Prop where
 val:fw s k=some (true,())
 ep:s.epoch<=(m.configs.length:Int)
 lrn: ∃ e,vv s.learned=some (e,())/\e<=m.activated
 cfg:s.config=⟨0,0,[],[]⟩\/(oZ m s.config.epoch=some (s.config,true,())/\s.config.epoch<=m.activated)
theorem arR (x:dV) (ok:pg 1048576 x) (k:Nat) (hk:k < x.servers.length):
  (SV x.master x.servers[k] (k:Int)/\eP (((),(k:Int),()),((x.now,x.servers,x.sides,x.master.configs,x.master.activated,x.masterUp,x.lease.epoch,x.lease.holder,x.lease.ends,x.places,()),()),())=some (.inl (((),((k+1:Nat):Int),()),((x.now,x.servers,x.sides,x.master.configs,x.master.activated,x.masterUp,x.lease.epoch,x.lease.holder,x.lease.ends,x.places,()),()),())))\/
  (¬ SV x.master x.servers[k] (k:Int)/\eP (((),(k:Int),()),((x.now,x.servers,x.sides,x.master.configs,x.master.activated,x.masterUp,x.lease.epoch,x.lease.holder,x.lease.ends,x.places,()),()),())=some (.inr (.inl ((false,()),(),())))):=by
 obtain⟨⟨hs1,hs2⟩,hsd,hml,hpl⟩:=ok;have hm:=gJ hs1;have c1: (k:Int) < (x.servers.length:Int):=by omega
 have c2: (0:Int)<=(k:Int):=by omega
 have hsk:=hs2 _ (bc hk);obtain⟨b,v1,v2⟩:=Hl x.servers[k] (k:Int) hsk;obtain⟨n,n1,n2⟩:=FQ x.servers[k].learned (gJ hsk.2.2);obtain⟨c,d,d1,d2,d3⟩:=ML x.master x.servers[k].config.epoch hml;have hcfg:=mr hsk.1
 simp only [eP,ic,iP,ec,ez,if_pos c1,if_pos c2,aw,ai hk,ae,v1,n1,eB hm hk,iq,
  show (⟨x.master.configs,x.master.activated⟩:ei)=x.master from rfl,d1,JT _ hcfg,(rT c x.servers[k].config d3).1]
 cases b with
 | false=>exact .inr ⟨(fun h=>(by have h:=v1.symm.trans h.val; cases h)),rfl⟩
 | true=>
   simp only [ew];by_cases h1:x.servers[k].epoch > (x.master.configs.length:Int)
   ·simp only [if_pos h1];exact .inr ⟨fun h=>by have:=h.ep; omega,trivial⟩
   ·simp only [if_neg h1];by_cases h2:n > x.master.activated
    ·simp only [if_pos h2];refine .inr ⟨fun h=> ?_,trivial⟩;obtain⟨e,e1,e2⟩:=h.lrn;rw [n1] at e1;simp only [af,aq,and_true] at e1;omega
    ·simp only [if_neg h2];by_cases h3:x.servers[k].config=⟨0,0,[],[]⟩
     ·simp only [if_pos h3];exact .inl ⟨⟨v1,by omega,⟨n,n1,by omega⟩, .inl h3⟩,trivial⟩
     ·simp only [if_neg h3];cases d with
      | false=>
        refine .inr ⟨fun h=> ?_,rfl⟩;rcases h.cfg with h | ⟨h,_⟩
        ·exact h3 h
        ·rw [d1] at h;cases h
      | true=>
        simp only [ew];by_cases h4:c=x.servers[k].config
        ·simp only [if_pos h4];by_cases h5:x.servers[k].config.epoch > x.master.activated
         ·simp only [if_pos h5];refine .inr ⟨fun h=> ?_,trivial⟩;rcases h.cfg with h | ⟨_,h⟩
          ·exact h3 h
          ·omega
         ·simp only [if_neg h5];exact .inl ⟨⟨v1,by omega,⟨n,n1,by omega⟩, .inr ⟨by rw [d1,h4],by omega⟩⟩,trivial⟩
        ·simp only [if_neg h4];refine .inr ⟨fun h=> ?_,trivial⟩;rcases h.cfg with h | ⟨h,_⟩
         ·exact h3 h
         ·rw [d1] at h;simp only [af,aq,and_true] at h;exact h4 h
theorem akO (x:dV) (ok:pg 1048576 x):
  ((∀ k (hk:k < x.servers.length),SV x.master x.servers[k] (k:Int))/\kU (((),0,()),((x.now,x.servers,x.sides,x.master.configs,x.master.activated,x.masterUp,x.lease.epoch,x.lease.holder,x.lease.ends,x.places,()),()),())=some (.inr (((),()),(),())))\/
  ((∃ k,∃ hk:k < x.servers.length,¬ SV x.master x.servers[k] (k:Int))/\kU (((),0,()),((x.now,x.servers,x.sides,x.master.configs,x.master.activated,x.masterUp,x.lease.epoch,x.lease.holder,x.lease.ends,x.places,()),()),())=some (.inl ((false,()),(),()))):=by
 have fC:=ug (B1:=eP) (B2:=eP) x.servers.length (fun k=>(((),(k:Int),()),((x.now,x.servers,x.sides,x.master.configs,x.master.activated,x.masterUp,x.lease.epoch,x.lease.holder,x.lease.ends,x.places,()),()),())) (fun k=>(((),(k:Int),()),((x.now,x.servers,x.sides,x.master.configs,x.master.activated,x.masterUp,x.lease.epoch,x.lease.holder,x.lease.ends,x.places,()),()),())) (.inr (((),()),(),())) (.inr (((),()),(),())) (fun _=> .inl ((false,()),(),())) (fun _=> .inl ((false,()),(),()))
  (fun k=> ∀ hk:k < x.servers.length,SV x.master x.servers[k] (k:Int)) (fun k=> ∃ hk:k < x.servers.length,¬ SV x.master x.servers[k] (k:Int))
  (by simp only [eP,ic,iP]; rw [ec,if_neg (by omega)])
  (by simp only [eP,ic,iP]; rw [ec,if_neg (by omega)])
  (fun k hk=>by
    rcases arR x ok k hk with ⟨h1,h2⟩ | ⟨h1,h2⟩
    ·exact .inl ⟨h2,h2,fun _=>h1⟩
    ·exact .inr ⟨h2,h2,hk,h1⟩)
 rcases fC with ⟨k1,_,k3⟩ | ⟨k,hk,k1,_,k3⟩
 ·exact .inl ⟨fun k hk=>k3 k hk hk,k1⟩
 ·exact .inr ⟨⟨k,k3⟩,k1⟩
theorem apb {x:dV} (ok:pg 1048576 x) (hv:eC x=some (true,())): ∀ k (hk:k < x.servers.length),SV x.master x.servers[k] (k:Int):=by
 rcases akO x ok with ⟨h,_⟩ | ⟨_,h⟩
 ·exact h
 ·exfalso;obtain⟨b1,a1,_⟩:=MJ x.sides (gJ ok.2.1);obtain⟨b2,m1,_⟩:=masterLog x.master (q9 ok.2.2.1);obtain⟨b3,l1,_⟩:=Ni x.lease;obtain⟨b4,p1,_⟩:=Ds x.places (gJ ok.2.2.2);unfold eC m9 at hv;simp only [vk,a1,m1,l1,p1,ae,h,aA] at hv;revert hv;cases sP x.now 0 999 <;> cases ((x.servers.length:Int)==5) <;> cases b1 <;> cases b2 <;> cases sP x.masterUp 0 3 <;> cases b3 <;> cases b4 <;> cases decide (x.lease.epoch > x.master.activated) <;> intro hv <;> cases hv
theorem arS {x:dV} (ok:pg 1048576 x) (hv:eC x=some (true,())) (S:List eb) (hl:S.length=x.servers.length) (hok: ∀ s∈S,nX 1048576 s) (hS: ∀ k (hk:k < S.length),SV x.master S[k] (k:Int)):
  pg 1048576 ⟨x.now,S,x.sides,x.master,x.masterUp,x.lease,x.places⟩/\eC ⟨x.now,S,x.sides,x.master,x.masterUp,x.lease,x.places⟩=some (true,()):=by
 have ok2:pg 1048576 ⟨x.now,S,x.sides,x.master,x.masterUp,x.lease,x.places⟩:=⟨⟨by show S.length<=_; rw [hl]; exact ok.1.1,hok⟩,ok.2.1,ok.2.2.1,ok.2.2.2⟩
 refine⟨ok2,?_⟩;rcases akO x ok with ⟨_,h1⟩ | ⟨⟨k,hk,h0⟩,_⟩
 ·rcases akO ⟨x.now,S,x.sides,x.master,x.masterUp,x.lease,x.places⟩ ok2 with ⟨_,h2⟩ | ⟨⟨k,hk,h0⟩,_⟩
  ·have hv':=hv;unfold eC m9 at hv' ⊢;rw [h1] at hv';rw [h2];simp only [hl];exact hv'
  ·exact absurd (hS k hk) h0
 ·exact absurd (apb ok hv k hk) h0
theorem SV.old {m:ei} {s:eb} {k:Int} (h:SV m s k) (hm:JQ 1048576 m) (hv:ib m=some (true,())):s.config.epoch<=(m.configs.length:Int):=by
 obtain⟨_,f2,f3⟩:=SX (q9 hm) hv;rcases h.cfg with h | ⟨_,h⟩
 ·rw [h];show (0:Int)<=_;omega
 ·omega
end Go.Proofs.YtkcgfceffffmoaaGreat.En
