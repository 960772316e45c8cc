/- Valid clusters: spec and impl tell the same. -/
import Derived.Test.YtkcgfceffffmoaaGreatZPV3
namespace Go.Proofs.YtkcgfceffffmoaaGreat.En
open Go
theorem Kt (l:List Int) (hl:l.length≤maxLen):Ds (kY l) (mM l):=by
 have ca:=oF (B1:=fx) (B2:=aU) l.length (fun k=>((l,(k:Int),()),(),())) (fun k=>((l,(),(l.length:Int),(k:Int),()),(),())) (.inr ((l,(),()),(),())) (.inr (((),()),(),())) (fun _=> .inl ((l,false,()),(),())) (fun k=> .inl (((k:Int),()),(),()))
  (fun _=>True) (fun _=>True)
  (by simp only [fx,ki]; rw [az,if_neg (by omega)])
  (by simp only [aU,bV]; rw [az,if_neg (by omega)])
  (fun k hk=>by
    have c1: (k:Int) < (l.length:Int):=by omega
    have c2: (0:Int)≤(k:Int):=by omega
    simp only [fx,ki,aU,bV,az,bT,if_pos c1,if_pos c2,Int.toNat_natCast,List.getElem?_eq_getElem hk,Option.bind_some,kk,k9,vw,yS,bU hl hk]
    cases tL l[k] 0 3 with
    | false=>exact .inr ⟨rfl,rfl,trivial⟩
    | true=>exact .inl ⟨rfl,rfl,trivial⟩)
 unfold kY oU mM oX bW ct cm cQ
 rcases ca with ⟨k1,k2,_⟩ | ⟨k,_,k1,k2,_⟩
 ·rw [show nI ((l,0,()),(),())=_ from k1,show cK ((l,(),(l.length:Int),0,()),(),())=_ from k2]
  simp only [Option.bind_some,Sum.elim_inr]
  cases ((l.length:Int)==5) <;> exact⟨_,rfl,rfl⟩
 ·rw [show nI ((l,0,()),(),())=_ from k1,show cK ((l,(),(l.length:Int),0,()),(),())=_ from k2]
  simp only [Option.bind_some,Sum.elim_inl]
  rw [decide_eq_true (by omega)]
  cases ((l.length:Int)==5) <;> exact⟨_,rfl,rfl⟩
theorem masterLog (m:aw) (h:Cj maxLen m): ∃ b,dx m=some (b,())∧gk m=some (b,()):=by
 obtain⟨hl,hc⟩:=h
 have ca:=oF (B1:=bK) (B2:=dy) m.configs.length (fun k=>(((),(k:Int),()),((m.configs,m.activated,()),()),())) (fun k=>(((),m.configs,(m.configs.length:Int),(k:Int),()),((m.configs,m.activated,()),()),())) (.inr (((),(),()),((m.configs,m.activated,()),()),())) (.inr (((),(),()),((m.configs,m.activated,()),()),())) (fun _=> .inl (((),false,()),((m.configs,m.activated,()),()),())) (fun _=> .inl (((),false,()),((m.configs,m.activated,()),()),()))
  (fun _=>True) (fun _=>True)
  (by simp only [bK,dB]; rw [az,if_neg (by omega)])
  (by simp only [dy,gv]; rw [az,if_neg (by omega)])
  (fun k hk=>by
    have c1: (k:Int) < (m.configs.length:Int):=by omega
    have c2: (0:Int)≤(k:Int):=by omega
    obtain⟨b,v1,v2⟩:=uP m.configs[k] (hc _ (List.getElem_mem hk))
    simp only [bK,dB,dy,gv,az,bT,if_pos c1,if_pos c2,Int.toNat_natCast,List.getElem?_eq_getElem hk,Option.bind_some,v1,v2,bU hl hk,oC]
    cases b with
    | false=>exact .inr ⟨rfl,rfl,trivial⟩
    | true=>
      cases (m.configs[k].epoch==((k+1:Nat):Int)) with
      | false=>exact .inr ⟨rfl,rfl,trivial⟩
      | true=>exact .inl ⟨rfl,rfl,trivial⟩)
 unfold dx ji gk li
 rcases ca with ⟨k1,k2,_⟩ | ⟨k,_,k1,k2,_⟩
 ·rw [show fO (((),0,()),((m.configs,m.activated,()),()),())=_ from k1,show j8 (((),m.configs,(m.configs.length:Int),0,()),((m.configs,m.activated,()),()),())=_ from k2]
  simp only [Option.bind_some,Sum.elim_inr,vw,yS]
  exact⟨_,rfl,rfl⟩
 ·rw [show fO (((),0,()),((m.configs,m.activated,()),()),())=_ from k1,show j8 (((),m.configs,(m.configs.length:Int),0,()),((m.configs,m.activated,()),()),())=_ from k2]
  exact⟨_,rfl,rfl⟩
theorem ME (x:jW):Ds (nc x) (oy x):=by
 unfold nc pX oy qc
 simp only [vw,yS,Option.bind_some]
 cases ((x.epoch==0)&&((x.holder==0)&&((x.ends==0)&&true))) <;> cases tL x.epoch 1 20 <;> cases tL x.holder 0 4 <;> exact⟨_,rfl,rfl⟩
theorem Gq (l:List be) (hl:l.length≤maxLen):Ds (jE l) (ll l):=by
 have ca:=oF (B1:=ep) (B2:=aJ) l.length (fun k=>((l,(k:Int),()),(),())) (fun k=>((l,(),(l.length:Int),(k:Int),()),(),())) (.inr ((l,(),()),(),())) (.inr (((),()),(),())) (fun _=> .inl ((l,false,()),(),())) (fun k=> .inl (((k:Int),()),(),()))
  (fun _=>True) (fun _=>True)
  (by simp only [ep,jj]; rw [az,if_neg (by omega)])
  (by simp only [aJ,bF]; rw [az,if_neg (by omega)])
  (fun k hk=>by
    have c1: (k:Int) < (l.length:Int):=by omega
    have c2: (0:Int)≤(k:Int):=by omega
    simp only [ep,jj,aJ,bF,az,bT,if_pos c1,if_pos c2,Int.toNat_natCast,List.getElem?_eq_getElem hk,Option.bind_some,jw,j9,vw,yS,bU hl hk]
    cases tL l[k].rack 0 9 with
    | false=>exact .inr ⟨rfl,rfl,trivial⟩
    | true=>
      cases tL l[k].capacity 0 9 with
      | false=>exact .inr ⟨rfl,rfl,trivial⟩
      | true=>
        cases tL l[k].load 0 99 with
        | false=>exact .inr ⟨rfl,rfl,trivial⟩
        | true=>exact .inl ⟨rfl,rfl,trivial⟩)
 unfold jE nJ ll nU bG b9 b6 cv
 rcases ca with ⟨k1,k2,_⟩ | ⟨k,_,k1,k2,_⟩
 ·rw [show l9 ((l,0,()),(),())=_ from k1,show ch ((l,(),(l.length:Int),0,()),(),())=_ from k2]
  simp only [Option.bind_some,Sum.elim_inr]
  cases ((l.length:Int)==5) <;> exact⟨_,rfl,rfl⟩
 ·rw [show l9 ((l,0,()),(),())=_ from k1,show ch ((l,(),(l.length:Int),0,()),(),())=_ from k2]
  simp only [Option.bind_some,Sum.elim_inl]
  rw [decide_eq_true (by omega)]
  cases ((l.length:Int)==5) <;> exact⟨_,rfl,rfl⟩
theorem QZ (x:Op):Ds (kZ x) (jH x):=by
 unfold kZ nK jH nV
 simp only [vw,yS,Option.bind_some]
 cases tL x.client 0 2 <;> cases tL x.seq 1 99 <;> cases tL x.object 0 2 <;> cases tL x.value 0 9 <;> cases (x.kind==1) <;> cases (x.kind==2) <;> cases (x.old==0) <;> exact⟨_,rfl,rfl⟩
theorem Rm (l:List aB) (hl:l.length≤maxLen): (pA l=some (true,())∧oI l=some (true,())∧l.length≤16)∨(pA l=some (false,())∧oI l=some (false,())):=by
 have ca:=oF (B1:=kj) (B2:=km) l.length (fun k=>((l,(k:Int),()),(),())) (fun k=>((l,l,(l.length:Int),(k:Int),()),(),())) (.inr ((l,(),()),(),())) (.inr ((l,(),()),(),())) (fun _=> .inl ((l,false,()),(),())) (fun _=> .inl ((l,false,()),(),()))
  (fun _=>True) (fun _=>True)
  (by simp only [kj,ow]; rw [az,if_neg (by omega)])
  (by simp only [km,oA]; rw [az,if_neg (by omega)])
  (fun k hk=>by
    have c1: (k:Int) < (l.length:Int):=by omega
    have c2: (0:Int)≤(k:Int):=by omega
    obtain⟨b,v1,v2⟩:=QZ l[k].op
    simp only [kj,ow,km,oA,az,bT,if_pos c1,if_pos c2,Int.toNat_natCast,List.getElem?_eq_getElem hk,Option.bind_some,v1,v2,vw,yS,bU hl hk,oC]
    cases tL l[k].epoch 1 20 with
    | false=>exact .inr ⟨rfl,rfl,trivial⟩
    | true=>
      simp only [cY]
      by_cases h0:0 < k
      ·have c3: (k:Int) > 0:=by omega
       have c4: (0:Int)≤((k - 1:Nat):Int):=by omega
       have e2:l[k - 1]? =some l[k - 1] :=List.getElem?_eq_getElem (by omega)
       simp only [if_pos c3,rG h0 (by omega),if_pos c4,Int.toNat_natCast,e2,Option.bind_some]
       by_cases hlt:l[k].epoch < l[k - 1].epoch
       ·rw [if_pos hlt,if_pos (show l[k - 1].epoch > l[k].epoch from hlt)]
        cases b <;> exact .inr ⟨rfl,rfl,trivial⟩
       ·rw [if_neg hlt,if_neg (show ¬ l[k - 1].epoch > l[k].epoch from hlt)]
        cases b with
        | false=>exact .inr ⟨rfl,rfl,trivial⟩
        | true=>exact .inl ⟨rfl,rfl,trivial⟩
      ·have c3: ¬ (k:Int) > 0:=by omega
       simp only [if_neg c3]
       cases b with
       | false=>exact .inr ⟨rfl,rfl,trivial⟩
       | true=>exact .inl ⟨rfl,rfl,trivial⟩)
 unfold pA uj oI uw
 rcases ca with ⟨k1,k2,_⟩ | ⟨k,_,k1,k2,_⟩
 ·rw [show rK ((l,0,()),(),())=_ from k1,show rV ((l,l,(l.length:Int),0,()),(),())=_ from k2]
  simp only [Option.bind_some,Sum.elim_inr]
  by_cases h: (l.length:Int)≤16
  ·rw [decide_eq_true h]
   exact .inl ⟨rfl,rfl,by omega⟩
  ·rw [decide_eq_false h]
   exact .inr ⟨rfl,rfl⟩
 ·rw [show rK ((l,0,()),(),())=_ from k1,show rV ((l,l,(l.length:Int),0,()),(),())=_ from k2]
  exact .inr ⟨rfl,rfl⟩
theorem pG (a b:List Int) (ha:a.length≤maxLen):fA a b=some (decide (a=b),())∧fE a b=some (decide (a=b),()):=by
 unfold fA jY fE ka lJ mq
 by_cases hlen:a.length=b.length
 ·have hbe: (!((a.length:Int)==(b.length:Int)))=false:=by simp [hlen]
  have ca:=oF (B1:=da) (B2:=dR) a.length (fun k=>((a,b,(k:Int),()),(),())) (fun k=>((a,b,(a.length:Int),(k:Int),()),(),())) (.inr (((),()),(),())) (.inr (((),()),(),())) (fun _=> .inl ((false,()),(),())) (fun _=> .inl ((false,()),(),()))
   (fun k=>a[k]? =b[k]?) (fun k=>a[k]? ≠b[k]?)
   (by simp only [da,fG]; rw [az,if_neg (by omega)])
   (by simp only [dR,ij]; rw [az,if_neg (by omega)])
   (fun k hk=>by
     have c1: (k:Int) < (a.length:Int):=by omega
     have c2: (0:Int)≤(k:Int):=by omega
     simp only [da,fG,dR,ij,az,bT,if_pos c1,if_pos c2,Int.toNat_natCast,List.getElem?_eq_getElem hk,List.getElem?_eq_getElem (show k < b.length by omega),Option.bind_some,bU ha hk,oC,xe]
     by_cases he:a[k] =b[k]'(by omega)
     ·simp only [if_pos he]
      exact .inl ⟨trivial,trivial,by rw [he]⟩
     ·simp only [if_neg he]
      exact .inr ⟨trivial,trivial,fun h=>he (Option.some.inj h)⟩)
  rw [hbe,cI,cI]
  rcases ca with ⟨k1,k2,k3⟩ | ⟨k,hk,k1,k2,k3⟩
  ·rw [show jm ((a,b,0,()),(),())=_ from k1,show ln ((a,b,(a.length:Int),0,()),(),())=_ from k2]
   have :a=b:=List.ext_getElem? fun k=>by
    rcases Nat.lt_or_ge k a.length with h | h
    ·exact k3 k h
    ·rw [List.getElem?_eq_none h,List.getElem?_eq_none (by omega)]
   rw [decide_eq_true this]
   exact⟨rfl,rfl⟩
  ·rw [show jm ((a,b,0,()),(),())=_ from k1,show ln ((a,b,(a.length:Int),0,()),(),())=_ from k2]
   have :a≠b:=fun h=>k3 (by rw [h])
   rw [decide_eq_false this]
   exact⟨rfl,rfl⟩
 ·have hbe: (!((a.length:Int)==(b.length:Int)))=true:=by
   simp only [Bool.not_eq_true',beq_eq_false_iff_ne,ne_eq]
   omega
  rw [hbe,cY,cY,decide_eq_false (fun h=>hlen (by rw [h]))]
  exact⟨rfl,rfl⟩
theorem lO (a b:ai) (ha:hM maxLen a):fB a b=some (decide (a=b),())∧eF a b=some (decide (a=b),()):=by
 unfold fB jZ eF kb
 simp only [(pG a.replicas b.replicas ha.1).1,(pG a.replicas b.replicas ha.1).2,(pG a.witnesses b.witnesses ha.2).1,(pG a.witnesses b.witnesses ha.2).2,Option.bind_some,xe,az]
 obtain⟨a1,a2,a3,a4⟩:=a
 obtain⟨b1,b2,b3,b4⟩:=b
 simp only [ai.mk.injEq]
 by_cases h1:a1=b1 <;> by_cases h2:a2=b2 <;> by_cases h3:a3=b3 <;> by_cases h4:a4=b4 <;> simp [h1,h2,h3,h4]
theorem Ar (l:List aB) (hl:l.length≤maxLen): ∃ n,nf l=some (n,())∧jI l=some (n,()):=by
 unfold nf p6 jI nW
 rcases Nat.eq_zero_or_pos l.length with h | h
 ·have : ((l.length:Int)==0)=true:=by simp [h]
  rw [this]
  exact⟨_,rfl,rfl⟩
 ·have : ((l.length:Int)==0)=false:=by
   simp only [beq_eq_false_iff_ne,ne_eq]
   omega
  rw [this,cI,rG h hl,eh (by omega),Int.toNat_natCast,List.getElem?_eq_getElem (show l.length - 1 < l.length by omega)]
  exact⟨_,rfl,rfl⟩
theorem Sf (c:ai) (x:Int) (h:hM maxLen c): ∃ n,p7 c x=some (n,())∧qe c x=some (n,())∧(n=0∨n=1∨n=2∨n=3):=by
 unfold p7 rM qe rX
 obtain⟨b,v1,v2⟩:=uP c h
 simp only [v1,v2,Option.bind_some,(lN c.replicas x h.1).1,(lN c.replicas x h.1).2,(lN c.witnesses x h.2).1,(lN c.witnesses x h.2).2]
 cases b <;> cases (x==c.primary) <;> cases decide (x∈c.replicas) <;> cases decide (x∈c.witnesses) <;> exact⟨_,rfl,rfl,by decide⟩
end Go.Proofs.YtkcgfceffffmoaaGreat.En
