/- Valid clusters: spec and impl tell the same. -/
import Derived.Test.YtkcgfceffffmoaaGreatZPV3
namespace Go.Proofs.YtkcgfceffffmoaaGreat.En
open Go
theorem KD (l:List Int) (hl:l.length≤maxLen):Dz (kY l) (mO l):=by
 have b8:=oG (B1:=fw) (B2:=aU) l.length (fun k=>((l,(k:Int),()),(),())) (fun k=>((l,(),(l.length:Int),(k:Int),()),(),())) (.inr ((l,(),()),(),())) (.inr (((),()),(),())) (fun _=> .inl ((l,false,()),(),())) (fun k=> .inl (((k:Int),()),(),()))
  (fun _=>True) (fun _=>True)
  (by simp only [fw,kh]; rw [aE,if_neg (by omega)])
  (by simp only [aU,bS]; rw [aE,if_neg (by omega)])
  (fun k hk=>by
    have c1: (k:Int) < (l.length:Int):=by omega
    have c2: (0:Int)≤(k:Int):=by omega
    simp only [fw,kh,aU,bS,aE,co,if_pos c1,if_pos c2,Int.toNat_natCast,List.getElem?_eq_getElem hk,Option.bind_some,kj,k9,xj,AB,b7 hl hk]
    cases tR l[k] 0 3 with
    | false=>exact .inr ⟨rfl,rfl,trivial⟩
    | true=>exact .inl ⟨rfl,rfl,trivial⟩)
 unfold kY oV mO oY bT cq cj cO
 rcases b8 with ⟨k1,k2,_⟩ | ⟨k,_,k1,k2,_⟩
 ·rw [show nJ ((l,0,()),(),())=_ from k1,show cI ((l,(),(l.length:Int),0,()),(),())=_ from k2]
  simp only [Option.bind_some,Sum.elim_inr]
  cases ((l.length:Int)==5) <;> exact⟨_,rfl,rfl⟩
 ·rw [show nJ ((l,0,()),(),())=_ from k1,show cI ((l,(),(l.length:Int),0,()),(),())=_ from k2]
  simp only [Option.bind_some,Sum.elim_inl]
  rw [decide_eq_true (by omega)]
  cases ((l.length:Int)==5) <;> exact⟨_,rfl,rfl⟩
theorem masterLog (m:aw) (h:Cr maxLen m): ∃ b,dy m=some (b,())∧gl m=some (b,()):=by
 obtain⟨hl,hc⟩:=h
 have b8:=oG (B1:=bK) (B2:=dz) m.configs.length (fun k=>(((),(k:Int),()),((m.configs,m.activated,()),()),())) (fun k=>(((),m.configs,(m.configs.length:Int),(k:Int),()),((m.configs,m.activated,()),()),())) (.inr (((),(),()),((m.configs,m.activated,()),()),())) (.inr (((),(),()),((m.configs,m.activated,()),()),())) (fun _=> .inl (((),false,()),((m.configs,m.activated,()),()),())) (fun _=> .inl (((),false,()),((m.configs,m.activated,()),()),()))
  (fun _=>True) (fun _=>True)
  (by simp only [bK,dC]; rw [aE,if_neg (by omega)])
  (by simp only [dz,gx]; rw [aE,if_neg (by omega)])
  (fun k hk=>by
    have c1: (k:Int) < (m.configs.length:Int):=by omega
    have c2: (0:Int)≤(k:Int):=by omega
    obtain⟨b,v1,v2⟩:=uV m.configs[k] (hc _ (List.getElem_mem hk))
    simp only [bK,dC,dz,gx,aE,co,if_pos c1,if_pos c2,Int.toNat_natCast,List.getElem?_eq_getElem hk,Option.bind_some,v1,v2,b7 hl hk,oD]
    cases b with
    | false=>exact .inr ⟨rfl,rfl,trivial⟩
    | true=>
      cases (m.configs[k].epoch==((k+1:Nat):Int)) with
      | false=>exact .inr ⟨rfl,rfl,trivial⟩
      | true=>exact .inl ⟨rfl,rfl,trivial⟩)
 unfold dy jk gl li
 rcases b8 with ⟨k1,k2,_⟩ | ⟨k,_,k1,k2,_⟩
 ·rw [show fO (((),0,()),((m.configs,m.activated,()),()),())=_ from k1,show j7 (((),m.configs,(m.configs.length:Int),0,()),((m.configs,m.activated,()),()),())=_ from k2]
  simp only [Option.bind_some,Sum.elim_inr,xj,AB]
  exact⟨_,rfl,rfl⟩
 ·rw [show fO (((),0,()),((m.configs,m.activated,()),()),())=_ from k1,show j7 (((),m.configs,(m.configs.length:Int),0,()),((m.configs,m.activated,()),()),())=_ from k2]
  exact⟨_,rfl,rfl⟩
theorem MN (x:jV):Dz (nf x) (oz x):=by
 unfold nf pZ oz qe
 simp only [xj,AB,Option.bind_some]
 cases ((x.epoch==0)&&((x.holder==0)&&((x.ends==0)&&true))) <;> cases tR x.epoch 1 20 <;> cases tR x.holder 0 4 <;> exact⟨_,rfl,rfl⟩
theorem GA (l:List bh) (hl:l.length≤maxLen):Dz (jG l) (ll l):=by
 have b8:=oG (B1:=ep) (B2:=aK) l.length (fun k=>((l,(k:Int),()),(),())) (fun k=>((l,(),(l.length:Int),(k:Int),()),(),())) (.inr ((l,(),()),(),())) (.inr (((),()),(),())) (fun _=> .inl ((l,false,()),(),())) (fun k=> .inl (((k:Int),()),(),()))
  (fun _=>True) (fun _=>True)
  (by simp only [ep,jl]; rw [aE,if_neg (by omega)])
  (by simp only [aK,bE]; rw [aE,if_neg (by omega)])
  (fun k hk=>by
    have c1: (k:Int) < (l.length:Int):=by omega
    have c2: (0:Int)≤(k:Int):=by omega
    simp only [ep,jl,aK,bE,aE,co,if_pos c1,if_pos c2,Int.toNat_natCast,List.getElem?_eq_getElem hk,Option.bind_some,jy,j8,xj,AB,b7 hl hk]
    cases tR l[k].rack 0 9 with
    | false=>exact .inr ⟨rfl,rfl,trivial⟩
    | true=>
      cases tR l[k].capacity 0 9 with
      | false=>exact .inr ⟨rfl,rfl,trivial⟩
      | true=>
        cases tR l[k].load 0 99 with
        | false=>exact .inr ⟨rfl,rfl,trivial⟩
        | true=>exact .inl ⟨rfl,rfl,trivial⟩)
 unfold jG nK ll nV bF b6 bX ct
 rcases b8 with ⟨k1,k2,_⟩ | ⟨k,_,k1,k2,_⟩
 ·rw [show l9 ((l,0,()),(),())=_ from k1,show cf ((l,(),(l.length:Int),0,()),(),())=_ from k2]
  simp only [Option.bind_some,Sum.elim_inr]
  cases ((l.length:Int)==5) <;> exact⟨_,rfl,rfl⟩
 ·rw [show l9 ((l,0,()),(),())=_ from k1,show cf ((l,(),(l.length:Int),0,()),(),())=_ from k2]
  simp only [Option.bind_some,Sum.elim_inl]
  rw [decide_eq_true (by omega)]
  cases ((l.length:Int)==5) <;> exact⟨_,rfl,rfl⟩
theorem Rc (x:Op):Dz (kZ x) (jJ x):=by
 unfold kZ nL jJ nW
 simp only [xj,AB,Option.bind_some]
 cases tR x.client 0 2 <;> cases tR x.seq 1 99 <;> cases tR x.object 0 2 <;> cases tR x.value 0 9 <;> cases (x.kind==1) <;> cases (x.kind==2) <;> cases (x.old==0) <;> exact⟨_,rfl,rfl⟩
theorem Ry (l:List aA) (hl:l.length≤maxLen): (pC l=some (true,())∧oJ l=some (true,())∧l.length≤16)∨(pC l=some (false,())∧oJ l=some (false,())):=by
 have b8:=oG (B1:=ki) (B2:=kk) l.length (fun k=>((l,(k:Int),()),(),())) (fun k=>((l,l,(l.length:Int),(k:Int),()),(),())) (.inr ((l,(),()),(),())) (.inr ((l,(),()),(),())) (fun _=> .inl ((l,false,()),(),())) (fun _=> .inl ((l,false,()),(),()))
  (fun _=>True) (fun _=>True)
  (by simp only [ki,ox]; rw [aE,if_neg (by omega)])
  (by simp only [kk,oB]; rw [aE,if_neg (by omega)])
  (fun k hk=>by
    have c1: (k:Int) < (l.length:Int):=by omega
    have c2: (0:Int)≤(k:Int):=by omega
    obtain⟨b,v1,v2⟩:=Rc l[k].op
    simp only [ki,ox,kk,oB,aE,co,if_pos c1,if_pos c2,Int.toNat_natCast,List.getElem?_eq_getElem hk,Option.bind_some,v1,v2,xj,AB,b7 hl hk,oD]
    cases tR l[k].epoch 1 20 with
    | false=>exact .inr ⟨rfl,rfl,trivial⟩
    | true=>
      simp only [cW]
      by_cases h0:0 < k
      ·have c3: (k:Int) > 0:=by omega
       have c4: (0:Int)≤((k - 1:Nat):Int):=by omega
       have e2:l[k - 1]? =some l[k - 1] :=List.getElem?_eq_getElem (by omega)
       simp only [if_pos c3,rL h0 (by omega),if_pos c4,Int.toNat_natCast,e2,Option.bind_some]
       by_cases hlt:l[k].epoch < l[k - 1].epoch
       ·rw [if_pos hlt,if_pos (show l[k - 1].epoch > l[k].epoch from hlt)]
        cases b <;> exact .inr ⟨rfl,rfl,trivial⟩
       ·rw [if_neg hlt,if_neg (show ¬ l[k - 1].epoch > l[k].epoch from hlt)]
        cases b with
        | false=>exact .inr ⟨rfl,rfl,trivial⟩
        | true=>exact .inl ⟨rfl,rfl,trivial⟩
      ·have c3: ¬ (k:Int) > 0:=by omega
       simp only [if_neg c3]
       cases b with
       | false=>exact .inr ⟨rfl,rfl,trivial⟩
       | true=>exact .inl ⟨rfl,rfl,trivial⟩)
 unfold pC ur oJ uC
 rcases b8 with ⟨k1,k2,_⟩ | ⟨k,_,k1,k2,_⟩
 ·rw [show rP ((l,0,()),(),())=_ from k1,show sb ((l,l,(l.length:Int),0,()),(),())=_ from k2]
  simp only [Option.bind_some,Sum.elim_inr]
  by_cases h: (l.length:Int)≤16
  ·rw [decide_eq_true h]
   exact .inl ⟨rfl,rfl,by omega⟩
  ·rw [decide_eq_false h]
   exact .inr ⟨rfl,rfl⟩
 ·rw [show rP ((l,0,()),(),())=_ from k1,show sb ((l,l,(l.length:Int),0,()),(),())=_ from k2]
  exact .inr ⟨rfl,rfl⟩
theorem pI (a b:List Int) (ha:a.length≤maxLen):fy a b=some (decide (a=b),())∧fD a b=some (decide (a=b),()):=by
 unfold fy jX fD j9 lJ mq
 by_cases hlen:a.length=b.length
 ·have hbe: (!((a.length:Int)==(b.length:Int)))=false:=by simp [hlen]
  have b8:=oG (B1:=c9) (B2:=dR) a.length (fun k=>((a,b,(k:Int),()),(),())) (fun k=>((a,b,(a.length:Int),(k:Int),()),(),())) (.inr (((),()),(),())) (.inr (((),()),(),())) (fun _=> .inl ((false,()),(),())) (fun _=> .inl ((false,()),(),()))
   (fun k=>a[k]? =b[k]?) (fun k=>a[k]? ≠b[k]?)
   (by simp only [c9,fF]; rw [aE,if_neg (by omega)])
   (by simp only [dR,im]; rw [aE,if_neg (by omega)])
   (fun k hk=>by
     have c1: (k:Int) < (a.length:Int):=by omega
     have c2: (0:Int)≤(k:Int):=by omega
     simp only [c9,fF,dR,im,aE,co,if_pos c1,if_pos c2,Int.toNat_natCast,List.getElem?_eq_getElem hk,List.getElem?_eq_getElem (show k < b.length by omega),Option.bind_some,b7 ha hk,oD,xi]
     by_cases he:a[k] =b[k]'(by omega)
     ·simp only [if_pos he]
      exact .inl ⟨trivial,trivial,by rw [he]⟩
     ·simp only [if_neg he]
      exact .inr ⟨trivial,trivial,fun h=>he (Option.some.inj h)⟩)
  rw [hbe,dh,dh]
  rcases b8 with ⟨k1,k2,k3⟩ | ⟨k,hk,k1,k2,k3⟩
  ·rw [show jo ((a,b,0,()),(),())=_ from k1,show ln ((a,b,(a.length:Int),0,()),(),())=_ from k2]
   have :a=b:=List.ext_getElem? fun k=>by
    rcases Nat.lt_or_ge k a.length with h | h
    ·exact k3 k h
    ·rw [List.getElem?_eq_none h,List.getElem?_eq_none (by omega)]
   rw [decide_eq_true this]
   exact⟨rfl,rfl⟩
  ·rw [show jo ((a,b,0,()),(),())=_ from k1,show ln ((a,b,(a.length:Int),0,()),(),())=_ from k2]
   have :a≠b:=fun h=>k3 (by rw [h])
   rw [decide_eq_false this]
   exact⟨rfl,rfl⟩
 ·have hbe: (!((a.length:Int)==(b.length:Int)))=true:=by
   simp only [Bool.not_eq_true',beq_eq_false_iff_ne,ne_eq]
   omega
  rw [hbe,cW,cW,decide_eq_false (fun h=>hlen (by rw [h]))]
  exact⟨rfl,rfl⟩
theorem lN (a b:ai) (ha:iM maxLen a):fA a b=some (decide (a=b),())∧eF a b=some (decide (a=b),()):=by
 unfold fA jY eF ka
 simp only [(pI a.replicas b.replicas ha.1).1,(pI a.replicas b.replicas ha.1).2,(pI a.witnesses b.witnesses ha.2).1,(pI a.witnesses b.witnesses ha.2).2,Option.bind_some,xi,aE]
 obtain⟨a1,a2,a3,a4⟩:=a
 obtain⟨b1,b2,b3,b4⟩:=b
 simp only [ai.mk.injEq]
 by_cases h1:a1=b1 <;> by_cases h2:a2=b2 <;> by_cases h3:a3=b3 <;> by_cases h4:a4=b4 <;> simp [h1,h2,h3,h4]
theorem AD (l:List aA) (hl:l.length≤maxLen): ∃ n,ni l=some (n,())∧jK l=some (n,()):=by
 unfold ni p8 jK nX
 rcases Nat.eq_zero_or_pos l.length with h | h
 ·have : ((l.length:Int)==0)=true:=by simp [h]
  rw [this]
  exact⟨_,rfl,rfl⟩
 ·have : ((l.length:Int)==0)=false:=by
   simp only [beq_eq_false_iff_ne,ne_eq]
   omega
  rw [this,dh,rL h hl,eh (by omega),Int.toNat_natCast,List.getElem?_eq_getElem (show l.length - 1 < l.length by omega)]
  exact⟨_,rfl,rfl⟩
theorem Sv (c:ai) (x:Int) (h:iM maxLen c): ∃ n,p9 c x=some (n,())∧qg c x=some (n,())∧(n=0∨n=1∨n=2∨n=3):=by
 unfold p9 rR qg sd
 obtain⟨b,v1,v2⟩:=uV c h
 simp only [v1,v2,Option.bind_some,(lM c.replicas x h.1).1,(lM c.replicas x h.1).2,(lM c.witnesses x h.2).1,(lM c.witnesses x h.2).2]
 cases b <;> cases (x==c.primary) <;> cases decide (x∈c.replicas) <;> cases decide (x∈c.witnesses) <;> exact⟨_,rfl,rfl,by decide⟩
end Go.Proofs.YtkcgfceffffmoaaGreat.En
