/- Intact replicas; total losses. -/
import Derived.Test.YtkcgfceffffmoaaGreatZPAct
namespace Go.Proofs.YtkcgfceffffmoaaGreat.En
open Go
theorem Yq (x:aj) (ok:rl 1048576 x) (hv:bn x=some (true,())):xM (fQ x) (fS x):=by
 obtain⟨b,v1,v2⟩:=vd x ok
 rw [hv] at v1
 simp only [Option.some.injEq,Prod.mk.injEq,and_true] at v1
 subst v1
 have vc:=Cw ok hv
 obtain⟨c,d,c1,c2,c3,c4,c5,c6⟩:=Ah x ok hv
 unfold fQ jv fS jB
 simp only [c1,c2,hv,v2,Option.bind_some,ma,bA]
 cases d with
 | false=>
   have hz:=c6 rfl
   subst hz
   simp only [bJ]
   have h1:fW (((),(),false,0,()),((x.now,x.servers,x.sides,x.master.configs,x.master.activated,x.masterUp,x.lease.epoch,x.lease.holder,x.lease.ends,x.places,()),(0,0,(),(),()),()),([],[],()))=some (.inr (((),false,()),(),())):=by
    refine nK ?_
    simp only [cr,ek]
    rfl
   rw [h1]
   exact⟨_,rfl,rfl⟩
 | true=>
   simp only [bA]
   obtain⟨asc,_,_,_,_,_⟩:=NP c3 (c5 rfl).1
   have hl:=asc.len
   have hm:c.replicas.length≤maxLen:=by unfold maxLen; omega
   have bU:=rp (B1:=cr) (B2:=aO) c.replicas.length (fun k=>(((),(),true,(k:Int),()),((x.now,x.servers,x.sides,x.master.configs,x.master.activated,x.masterUp,x.lease.epoch,x.lease.holder,x.lease.ends,x.places,()),(c.epoch,c.primary,(),(),()),()),(c.replicas,c.witnesses,()))) (fun k=>((c.replicas,(x,c,()),(c.replicas.length:Int),(k:Int),()),(),()))
    (.inr (((),true,()),(),())) (.inr (((),()),(),())) (fun _=> .inl ((true,true,()),(),())) (fun k=> .inl (((k:Int),()),(),()))
    (fun _=>True) (fun _=>True)
    (by simp only [cr,ek]; rw [aw,if_neg (by omega)])
    (by simp only [aO,bH]; rw [aw,if_neg (by omega)])
    (fun k hk=>by
      have c1: (k:Int) < (c.replicas.length:Int):=by omega
      have c2: (0:Int)≤(k:Int):=by omega
      have c3: (0:Int)≤(k:Int)∧(k:Int) < (c.replicas.length:Int):=⟨c2,c1⟩
      have hid:=(asc k hk).1
      have c4: (0:Int)≤c.replicas[k] :=hid.1
      have hlt:c.replicas[k].toNat < x.servers.length:=by rw [vc.len]; omega
      simp only [cr,ek,aO,bH,fj,gz,aw,be,if_pos c1,if_pos c2,if_pos c3,Int.toNat_natCast,List.getElem?_eq_getElem hk,Option.bind_some,if_pos c4,List.getElem?_eq_getElem hlt,bA,bF hm hk]
      cases (x.servers[c.replicas[k].toNat].config.epoch==c.epoch) with
      | false=>exact .inl ⟨rfl,rfl,trivial⟩
      | true=>exact .inr ⟨rfl,rfl,trivial⟩)
   unfold bI b6 bS cw
   rcases bU with ⟨k1,k2,_⟩ | ⟨k,_,k1,k2,_⟩
   ·rw [show fW (((),(),true,0,()),((x.now,x.servers,x.sides,x.master.configs,x.master.activated,x.masterUp,x.lease.epoch,x.lease.holder,x.lease.ends,x.places,()),(c.epoch,c.primary,(),(),()),()),(c.replicas,c.witnesses,()))=_ from k1,show cg ((c.replicas,(x,c,()),(c.replicas.length:Int),0,()),(),())=_ from k2]
    exact⟨_,rfl,rfl⟩
   ·rw [show fW (((),(),true,0,()),((x.now,x.servers,x.sides,x.master.configs,x.master.activated,x.masterUp,x.lease.epoch,x.lease.holder,x.lease.ends,x.places,()),(c.epoch,c.primary,(),(),()),()),(c.replicas,c.witnesses,()))=_ from k1,show cg ((c.replicas,(x,c,()),(c.replicas.length:Int),0,()),(),())=_ from k2]
    simp only [Option.bind_some,Sum.elim_inl]
    rw [decide_eq_true (by omega)]
    exact⟨_,rfl,rfl⟩
theorem U0 (x:aj) (ok:rl 1048576 x):xM (lS x) (jW x):=by
 obtain⟨b,v1,v2⟩:=vd x ok
 unfold lS pd jW ne
 cases b with
 | false=>
   obtain⟨c,d,d1,_,_⟩:=NN x.master x.master.activated ok.2.2.1
   unfold fK j8
   simp only [d1,v1,v2,Option.bind_some,bJ]
   exact⟨_,rfl,rfl⟩
 | true=>
   obtain⟨c,d,c1,c2,c3,c4,c5,c6⟩:=Ah x ok v1
   obtain⟨e,e1,e2⟩:=Yq x ok v1
   simp only [c1,v1,v2,e1,e2,Option.bind_some,bA]
   rw [←c4]
   cases d <;> exact⟨_,rfl,rfl⟩
end Go.Proofs.YtkcgfceffffmoaaGreat.En
