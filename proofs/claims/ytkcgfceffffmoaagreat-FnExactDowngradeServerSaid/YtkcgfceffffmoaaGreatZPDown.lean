/- DowngradeServer: the plain law. -/
import Derived.Test.YtkcgfceffffmoaaGreatZPUp
namespace Go.Proofs.YtkcgfceffffmoaaGreat.En
open Go
def Ew (l:List az):Bool:=l.any fun e=>e.op.kind==2
theorem wb (l:List az) (hl:l.length≤maxLen):dV l=some (Ew l,())∧eP l=some (Ew l,()):=by
 obtain⟨b,h1,h2⟩:=SU l hl
 have ce:=C0 (B:=cF) l.length (fun k=>((l,(k:Int),()),(),())) (.inr (((),()),(),())) (fun _=> .inl ((true,()),(),())) (fun k=>match l[k]? with | some e=>e.op.kind==2 | none=>false)
  (by simp only [cF,ez]; rw [ay,if_neg (by omega)])
  (fun k hk=>by
    have c1: (k:Int) < (l.length:Int):=by omega
    have c2: (0:Int)≤(k:Int):=by omega
    simp only [cF,ez,kk,kR,ay,bE,if_pos c1,if_pos c2,Int.toNat_natCast,List.getElem?_eq_getElem hk,Option.bind_some,bO hl hk]
    cases (l[k].op.kind==2) <;> rfl)
 have hb:dV l=some (Ew l,()):=by
  unfold dV jE jd jD
  rcases ce with ⟨k1,k2⟩ | ⟨k,hk,k1,k2,_⟩
  ·rw [show gl ((l,0,()),(),())=_ from k1]
   have :Ew l=false:=by
    unfold Ew
    rw [List.any_eq_false]
    intro e he
    obtain⟨k,hk,rfl⟩:=List.getElem_of_mem he
    have:=k2 k hk
    rw [List.getElem?_eq_getElem hk] at this
    simpa using this
   rw [this]
   rfl
  ·rw [show gl ((l,0,()),(),())=_ from k1]
   have :Ew l=true:=by
    unfold Ew
    rw [List.getElem?_eq_getElem hk] at k2
    exact List.any_eq_true.2 ⟨_,List.getElem_mem hk,k2⟩
   rw [this]
   rfl
 rw [hb] at h1
 simp only [Option.some.injEq,Prod.mk.injEq,and_true] at h1
 subst h1
 exact⟨hb,h2⟩
def C3 (c:ai) (s:aj):Bool:=decide (s.config=c)&&Ew s.log
theorem Gq (x:ao) (id:Int) (ok:tC 1048576 x) (ht:Pp x≤1048576): ∃ y n,fB x id=some (y,n,())∧eA x id=some (y,n,())∧tC 1048576 y∧Pp y≤100000000:=by
 obtain⟨b,g1,g2,g3⟩:=good x id ok
 unfold fB je eA jq pC qp
 simp only [(UT x ok).1,(UT x ok).2,g1,g2,Option.bind_some,qE]
 cases b with
 | false=>exact⟨x,1,rfl,rfl,ok,by omega⟩
 | true=>
   obtain⟨hv,h0,h5⟩:=g3 rfl
   have vc:=V5 ok hv
   have hlt:id.toNat < x.servers.length:=by rw [vc.len]; omega
   have hg:=List.getElem?_eq_getElem hlt
   have hver:=QQ (vc.srv _ hlt)
   have hok:=ok.1.2 _ (List.getElem_mem hlt)
   generalize x.servers[id.toNat] =s at hg hver hok
   have c2:0≤id∧id < (x.servers.length:Int):=by rw [vc.len]; omega
   have e1:IntKind.wrap .i64 (3 - 2)=1:=by rw [f8 (by decide) (by decide)]; rfl
   have hm:=eX ok.1.1
   have hcfg:=nY hok.1
   simp only [eY,bE,if_pos h0,if_pos c2,hg,Option.bind_some,I5,e1]
   rcases hver with h | h
   ·simp only [h,if_neg (show ¬ (1:Int)=2 by decide),if_true]
    exact⟨x,1,rfl,rfl,ok,by omega⟩
   simp only [h,if_neg (show ¬ (2:Int)=1 by decide),if_true]
   cases hup:s.up with
   | false=>exact⟨x,2,rfl,rfl,ok,by omega⟩
   | true=>
   have nL:=wb s.learned (eX hok.2.2)
   have e0: ((0:Int)==0)=true:=rfl
   simp only [eY,Option.bind_some,if_pos h0,hg,nL.1,nL.2,(iw s.config ⟨0,0,[],[]⟩ hcfg).2,if_true]
   have res:tC 1048576 (ue x id.toNat ⟨true,s.intact,1,s.epoch,s.config,s.first,s.log,s.commit,s.learned⟩)∧Pp (ue x id.toNat ⟨true,s.intact,1,s.epoch,s.config,s.first,s.log,s.commit,s.learned⟩)≤100000000:=by
    refine⟨QR ok _ hok,?_⟩
    rw [SX hg]
    show Pp x - Po s+Po s≤_
    omega
   by_cases hz:s.config=⟨0,0,[],[]⟩
   ·
    have k1:fi ((id,(),(),(),(),0,()),((x.now,x.servers,x.sides,x.master.configs,x.master.activated,x.masterUp,x.lease.epoch,x.lease.holder,x.lease.ends,x.places,()),(0,(),(),(),0,0,0,0,0,(),()),(x.now,(),(),(),x.master.activated,x.masterUp,x.lease.epoch,x.lease.holder,x.lease.ends,(),()),(true,s.intact,2,s.epoch,s.config.epoch,s.config.primary,s.config.replicas,s.config.witnesses,s.first,s.log,s.commit,s.learned,()),()),(x.servers,x.sides,x.master.configs,x.places,()))=some (.inr ((id,(),(),(),()),((0,(),(),(),0,0,0,0,0,(),()),(x.now,(),(),(),x.master.activated,x.masterUp,x.lease.epoch,x.lease.holder,x.lease.ends,(),()),()),(x.servers,x.sides,x.master.configs,x.places,()))):=by
     refine pP ?_
     have ec: (⟨s.config.epoch,s.config.primary,s.config.replicas,s.config.witnesses⟩:ai)=s.config:=rfl
     simp only [ci,dP,ay,ec,C1 s.config hcfg,Option.bind_some,if_pos hz,qE]
     split <;> rfl
    simp only [k1,Option.bind_some,Sum.elim_inr,decide_eq_true hz,eY,if_pos c2,hg]
    cases Ew s.learned with
    | true=>exact⟨x,6,rfl,rfl,ok,by omega⟩
    | false=>exact⟨ue x id.toNat ⟨true,s.intact,1,s.epoch,s.config,s.first,s.log,s.commit,s.learned⟩,0,by simp only [cW]; rw [hup]; rfl,rfl,res.1,res.2⟩
   ·have ec: (⟨s.config.epoch,s.config.primary,s.config.replicas,s.config.witnesses⟩:ai)=s.config:=rfl
    have kS:=C0 (B:=ci) x.servers.length (fun k=>((id,(),(),(),(),(k:Int),()),((x.now,x.servers,x.sides,x.master.configs,x.master.activated,x.masterUp,x.lease.epoch,x.lease.holder,x.lease.ends,x.places,()),(0,(),(),(),0,0,0,0,0,(),()),(x.now,(),(),(),x.master.activated,x.masterUp,x.lease.epoch,x.lease.holder,x.lease.ends,(),()),(true,s.intact,2,s.epoch,s.config.epoch,s.config.primary,s.config.replicas,s.config.witnesses,s.first,s.log,s.commit,s.learned,()),()),(x.servers,x.sides,x.master.configs,x.places,())))
     (.inr ((id,(),(),(),()),((0,(),(),(),0,0,0,0,0,(),()),(x.now,(),(),(),x.master.activated,x.masterUp,x.lease.epoch,x.lease.holder,x.lease.ends,(),()),()),(x.servers,x.sides,x.master.configs,x.places,())))
     (fun _=> .inl ((id,(),6,(),()),((x.now,(),(),(),x.master.activated,x.masterUp,x.lease.epoch,x.lease.holder,x.lease.ends,(),()),(x.now,(),(),(),x.master.activated,x.masterUp,x.lease.epoch,x.lease.holder,x.lease.ends,(),()),()),(x.servers,x.sides,x.master.configs,x.places,())))
     (fun k=>match x.servers[k]? with | some t=>C3 s.config t | none=>false)
     (by simp only [ci,dP]; rw [ay,if_neg (by omega)])
     (fun k hk=>by
       have c1: (k:Int) < (x.servers.length:Int):=by omega
       have c3: (0:Int)≤(k:Int):=by omega
       have hko:=ok.1.2 _ (List.getElem_mem hk)
       simp only [ci,dP,ay,bE,if_pos c1,if_pos c3,Int.toNat_natCast,List.getElem?_eq_getElem hk,Option.bind_some,ec,C1 s.config hcfg,if_neg hz,qE,(iw x.servers[k].config s.config (nY hko.1)).1,(wb x.servers[k].log (eX hko.2.1)).1,bO hm hk]
       by_cases hq:x.servers[k].config=s.config
       ·simp only [C3,if_pos hq,decide_eq_true hq,Bool.true_and]
        cases Ew x.servers[k].log <;> rfl
       ·simp only [C3,if_neg hq,decide_eq_false hq,Bool.false_and]
        rfl)
    have kI:=C0 (B:=aF) x.servers.length (fun k=>((x.servers,(s,()),(x.servers.length:Int),(k:Int),()),(),())) (.inr (((),()),(),())) (fun k=> .inl (((k:Int),()),(),())) (fun k=>match x.servers[k]? with | some t=>C3 s.config t | none=>false)
     (by simp only [aF,bA]; rw [ay,if_neg (by omega)])
     (fun k hk=>by
       have c1: (k:Int) < (x.servers.length:Int):=by omega
       have c3: (0:Int)≤(k:Int):=by omega
       have hko:=ok.1.2 _ (List.getElem_mem hk)
       simp only [aF,bA,fm,ga,ay,bE,if_pos c1,if_pos c3,Int.toNat_natCast,List.getElem?_eq_getElem hk,Option.bind_some,(iw x.servers[k].config s.config (nY hko.1)).2,(wb x.servers[k].log (eX hko.2.1)).2,bO hm hk]
       by_cases hq:x.servers[k].config=s.config
       ·simp only [C3,if_pos hq,decide_eq_true hq,Bool.true_and,Option.bind_some]
        cases Ew x.servers[k].log <;> rfl
       ·simp only [C3,if_neg hq,decide_eq_false hq,Bool.false_and,Option.bind_some]
        rfl)
    simp only [decide_eq_false hz,cW,bB,bM,bF,ca]
    rcases kS with ⟨a1,a2⟩ | ⟨k,hk,a1,a2,a3⟩
    ·have kI':bU ((x.servers,(s,()),(x.servers.length:Int),0,()),(),())=some (.inr (((),()),(),())):=by
      rcases kI with ⟨b1,_⟩ | ⟨j,hj,_,b2,_⟩
      ·exact b1
      ·exact absurd (a2 j hj) (by rw [b2]; decide)
     rw [show fi ((id,(),(),(),(),0,()),((x.now,x.servers,x.sides,x.master.configs,x.master.activated,x.masterUp,x.lease.epoch,x.lease.holder,x.lease.ends,x.places,()),(0,(),(),(),0,0,0,0,0,(),()),(x.now,(),(),(),x.master.activated,x.masterUp,x.lease.epoch,x.lease.holder,x.lease.ends,(),()),(true,s.intact,2,s.epoch,s.config.epoch,s.config.primary,s.config.replicas,s.config.witnesses,s.first,s.log,s.commit,s.learned,()),()),(x.servers,x.sides,x.master.configs,x.places,()))=_ from a1,kI']
     simp only [Option.bind_some,Sum.elim_inr,ay,if_pos c2,hg,if_neg (show ¬ (-1:Int)≥0 by decide)]
     cases Ew s.learned with
     | true=>exact⟨x,6,rfl,rfl,ok,by omega⟩
     | false=>exact⟨ue x id.toNat ⟨true,s.intact,1,s.epoch,s.config,s.first,s.log,s.commit,s.learned⟩,0,by simp only [cW]; rw [hup]; rfl,rfl,res.1,res.2⟩
    ·have kI': ∃ j:Nat,bU ((x.servers,(s,()),(x.servers.length:Int),0,()),(),())=some (.inl (((j:Int),()),(),())):=by
      rcases kI with ⟨_,b2⟩ | ⟨j,hj,b1,_,_⟩
      ·exact absurd (b2 k hk) (by rw [a2]; decide)
      ·exact⟨j,b1⟩
     obtain⟨j,kI'⟩:=kI'
     rw [show fi ((id,(),(),(),(),0,()),((x.now,x.servers,x.sides,x.master.configs,x.master.activated,x.masterUp,x.lease.epoch,x.lease.holder,x.lease.ends,x.places,()),(0,(),(),(),0,0,0,0,0,(),()),(x.now,(),(),(),x.master.activated,x.masterUp,x.lease.epoch,x.lease.holder,x.lease.ends,(),()),(true,s.intact,2,s.epoch,s.config.epoch,s.config.primary,s.config.replicas,s.config.witnesses,s.first,s.log,s.commit,s.learned,()),()),(x.servers,x.sides,x.master.configs,x.places,()))=_ from a1,kI']
     simp only [Option.bind_some,Sum.elim_inl,ay,if_pos (show (j:Int)≥0 by omega)]
     exact⟨x,6,by cases Ew s.learned <;> rfl,rfl,ok,by omega⟩
theorem Ko (x:ao) (id:Int) (h:tC maxLen x):dJ x id=some (true,()):=by
 unfold dJ ex
 obtain⟨n,g1,g2⟩:=X1 x h
 simp only [g1,Option.bind_some,ay]
 split
 ·rfl
 ·obtain⟨ok,ht,_⟩:=g2 (by omega)
  obtain⟨y,c,s1,s2,oy,ty⟩:=Gq x id ok ht
  simp only [Er x ok,s1,s2,Option.bind_some]
  refine X5 x y c some _ ok ht oy ty ?_
  simp only [Er x ok,Option.bind_some,ay]
end Go.Proofs.YtkcgfceffffmoaaGreat.En
