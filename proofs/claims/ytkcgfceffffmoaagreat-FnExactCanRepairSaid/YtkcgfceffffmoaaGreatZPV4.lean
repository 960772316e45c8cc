/- Valid clusters: spec and impl tell the same. -/
import Derived.Test.YtkcgfceffffmoaaGreatZPV3
namespace Go.Proofs.YtkcgfceffffmoaaGreat.En
open Go
theorem DJ (l:List Int) (hl:l.length≤maxLen):wK (gb l) (kI l):=by
 have cd:=oA (B1:=eY) (B2:=aU) l.length (fun k=>((l,(k:Int),()),(),())) (fun k=>((l,(),(l.length:Int),(k:Int),()),(),())) (.inr ((l,(),()),(),())) (.inr (((),()),(),())) (fun _=> .inl ((l,false,()),(),())) (fun k=> .inl (((k:Int),()),(),()))
  (fun _=>True) (fun _=>True)
  (by simp only [eY,jT]; rw [aR,if_neg (by omega)])
  (by simp only [aU,bX]; rw [aR,if_neg (by omega)])
  (fun k hk=>by
    have c1: (k:Int) < (l.length:Int):=by omega
    have c2: (0:Int)≤(k:Int):=by omega
    simp only [eY,jT,aU,bX,aR,cU,if_pos c1,if_pos c2,Int.toNat_natCast,List.getElem?_eq_getElem hk,Option.bind_some,jW,kH,uP,wn,cc hl hk]
    cases rK l[k] 0 3 with
    | false=>exact .inr ⟨rfl,rfl,trivial⟩
    | true=>exact .inl ⟨rfl,rfl,trivial⟩)
 unfold gb oS kI mT bZ cv ct cQ
 rcases cd with ⟨k1,k2,_⟩ | ⟨k,_,k1,k2,_⟩
 ·rw [show nw ((l,0,()),(),())=_ from k1,show cL ((l,(),(l.length:Int),0,()),(),())=_ from k2]
  simp only [Option.bind_some,Sum.elim_inr]
  cases ((l.length:Int)==5) <;> exact⟨_,rfl,rfl⟩
 ·rw [show nw ((l,0,()),(),())=_ from k1,show cL ((l,(),(l.length:Int),0,()),(),())=_ from k2]
  simp only [Option.bind_some,Sum.elim_inl]
  rw [decide_eq_true (by omega)]
  cases ((l.length:Int)==5) <;> exact⟨_,rfl,rfl⟩
theorem masterLog (m:aD) (h:DF maxLen m): ∃ b,dw m=some (b,())∧fQ m=some (b,()):=by
 obtain⟨hl,hc⟩:=h
 have cd:=oA (B1:=bN) (B2:=dx) m.configs.length (fun k=>(((),(k:Int),()),((m.configs,m.activated,()),()),())) (fun k=>(((),m.configs,(m.configs.length:Int),(k:Int),()),((m.configs,m.activated,()),()),())) (.inr (((),(),()),((m.configs,m.activated,()),()),())) (.inr (((),(),()),((m.configs,m.activated,()),()),())) (fun _=> .inl (((),false,()),((m.configs,m.activated,()),()),())) (fun _=> .inl (((),false,()),((m.configs,m.activated,()),()),()))
  (fun _=>True) (fun _=>True)
  (by simp only [bN,dz]; rw [aR,if_neg (by omega)])
  (by simp only [dx,fX]; rw [aR,if_neg (by omega)])
  (fun k hk=>by
    have c1: (k:Int) < (m.configs.length:Int):=by omega
    have c2: (0:Int)≤(k:Int):=by omega
    obtain⟨b,v1,v2⟩:=ue m.configs[k] (hc _ (List.getElem_mem hk))
    simp only [bN,dz,dx,fX,aR,cU,if_pos c1,if_pos c2,Int.toNat_natCast,List.getElem?_eq_getElem hk,Option.bind_some,v1,v2,cc hl hk,nW]
    cases b with
    | false=>exact .inr ⟨rfl,rfl,trivial⟩
    | true=>
      cases (m.configs[k].epoch==((k+1:Nat):Int)) with
      | false=>exact .inr ⟨rfl,rfl,trivial⟩
      | true=>exact .inl ⟨rfl,rfl,trivial⟩)
 unfold dw iU fQ kQ
 rcases cd with ⟨k1,k2,_⟩ | ⟨k,_,k1,k2,_⟩
 ·rw [show fv (((),0,()),((m.configs,m.activated,()),()),())=_ from k1,show jL (((),m.configs,(m.configs.length:Int),0,()),((m.configs,m.activated,()),()),())=_ from k2]
  simp only [Option.bind_some,Sum.elim_inr,uP,wn]
  exact⟨_,rfl,rfl⟩
 ·rw [show fv (((),0,()),((m.configs,m.activated,()),()),())=_ from k1,show jL (((),m.configs,(m.configs.length:Int),0,()),((m.configs,m.activated,()),()),())=_ from k2]
  exact⟨_,rfl,rfl⟩
theorem Hu (x:fC):wK (lf x) (lj x):=by
 unfold lf pU lj oo
 simp only [uP,wn,Option.bind_some]
 cases ((x.epoch==0)&&((x.holder==0)&&((x.ends==0)&&true))) <;> cases rK x.epoch 1 20 <;> cases rK x.holder 0 4 <;> exact⟨_,rfl,rfl⟩
theorem uH (l:List bk) (hl:l.length≤maxLen):wK (fb l) (ib l):=by
 have cd:=oA (B1:=eh) (B2:=aJ) l.length (fun k=>((l,(k:Int),()),(),())) (fun k=>((l,(),(l.length:Int),(k:Int),()),(),())) (.inr ((l,(),()),(),())) (.inr (((),()),(),())) (fun _=> .inl ((l,false,()),(),())) (fun k=> .inl (((k:Int),()),(),()))
  (fun _=>True) (fun _=>True)
  (by simp only [eh,iV]; rw [aR,if_neg (by omega)])
  (by simp only [aJ,bI]; rw [aR,if_neg (by omega)])
  (fun k hk=>by
    have c1: (k:Int) < (l.length:Int):=by omega
    have c2: (0:Int)≤(k:Int):=by omega
    simp only [eh,iV,aJ,bI,aR,cU,if_pos c1,if_pos c2,Int.toNat_natCast,List.getElem?_eq_getElem hk,Option.bind_some,je,jM,uP,wn,cc hl hk]
    cases rK l[k].rack 0 9 with
    | false=>exact .inr ⟨rfl,rfl,trivial⟩
    | true=>
      cases rK l[k].capacity 0 9 with
      | false=>exact .inr ⟨rfl,rfl,trivial⟩
      | true=>
        cases rK l[k].load 0 99 with
        | false=>exact .inr ⟨rfl,rfl,trivial⟩
        | true=>exact .inl ⟨rfl,rfl,trivial⟩)
 unfold fb ny ib lp bJ cb b8 cx
 rcases cd with ⟨k1,k2,_⟩ | ⟨k,_,k1,k2,_⟩
 ·rw [show lM ((l,0,()),(),())=_ from k1,show co ((l,(),(l.length:Int),0,()),(),())=_ from k2]
  simp only [Option.bind_some,Sum.elim_inr]
  cases ((l.length:Int)==5) <;> exact⟨_,rfl,rfl⟩
 ·rw [show lM ((l,0,()),(),())=_ from k1,show co ((l,(),(l.length:Int),0,()),(),())=_ from k2]
  simp only [Option.bind_some,Sum.elim_inl]
  rw [decide_eq_true (by omega)]
  cases ((l.length:Int)==5) <;> exact⟨_,rfl,rfl⟩
theorem Qi (x:Op):wK (kC x) (jq x):=by
 unfold kC nz jq nK
 simp only [uP,wn,Option.bind_some]
 cases rK x.client 0 2 <;> cases rK x.seq 1 99 <;> cases rK x.object 0 2 <;> cases rK x.value 0 9 <;> cases (x.kind==1) <;> cases (x.kind==2) <;> cases (x.old==0) <;> exact⟨_,rfl,rfl⟩
theorem QD (l:List bK) (hl:l.length≤maxLen): (pz l=some (true,())∧oE l=some (true,())∧l.length≤16)∨(pz l=some (false,())∧oE l=some (false,())):=by
 have cd:=oA (B1:=jV) (B2:=jX) l.length (fun k=>((l,(k:Int),()),(),())) (fun k=>((l,l,(l.length:Int),(k:Int),()),(),())) (.inr ((l,(),()),(),())) (.inr ((l,(),()),(),())) (fun _=> .inl ((l,false,()),(),())) (fun _=> .inl ((l,false,()),(),()))
  (fun _=>True) (fun _=>True)
  (by simp only [jV,of]; rw [aR,if_neg (by omega)])
  (by simp only [jX,ot]; rw [aR,if_neg (by omega)])
  (fun k hk=>by
    have c1: (k:Int) < (l.length:Int):=by omega
    have c2: (0:Int)≤(k:Int):=by omega
    obtain⟨b,v1,v2⟩:=Qi l[k].op
    simp only [jV,of,jX,ot,aR,cU,if_pos c1,if_pos c2,Int.toNat_natCast,List.getElem?_eq_getElem hk,Option.bind_some,v1,v2,uP,wn,cc hl hk,nW]
    cases rK l[k].epoch 1 20 with
    | false=>exact .inr ⟨rfl,rfl,trivial⟩
    | true=>
      simp only [cA]
      by_cases h0:0 < k
      ·have c3: (k:Int) > 0:=by omega
       have c4: (0:Int)≤((k - 1:Nat):Int):=by omega
       have e2:l[k - 1]? =some l[k - 1] :=List.getElem?_eq_getElem (by omega)
       simp only [if_pos c3,rp h0 (by omega),if_pos c4,Int.toNat_natCast,e2,Option.bind_some]
       by_cases hlt:l[k].epoch < l[k - 1].epoch
       ·rw [if_pos hlt,if_pos (show l[k - 1].epoch > l[k].epoch from hlt)]
        cases b <;> exact .inr ⟨rfl,rfl,trivial⟩
       ·rw [if_neg hlt,if_neg (show ¬ l[k - 1].epoch > l[k].epoch from hlt)]
        cases b with
        | false=>exact .inr ⟨rfl,rfl,trivial⟩
        | true=>exact .inl ⟨rfl,rfl,trivial⟩
      ·have c3: ¬ (k:Int) > 0:=by omega
       simp only [if_neg c3]
       cases b with
       | false=>exact .inr ⟨rfl,rfl,trivial⟩
       | true=>exact .inl ⟨rfl,rfl,trivial⟩)
 unfold pz tK oE tX
 rcases cd with ⟨k1,k2,_⟩ | ⟨k,_,k1,k2,_⟩
 ·rw [show ru ((l,0,()),(),())=_ from k1,show rF ((l,l,(l.length:Int),0,()),(),())=_ from k2]
  simp only [Option.bind_some,Sum.elim_inr]
  by_cases h: (l.length:Int)≤16
  ·rw [decide_eq_true h]
   exact .inl ⟨rfl,rfl,by omega⟩
  ·rw [decide_eq_false h]
   exact .inr ⟨rfl,rfl⟩
 ·rw [show ru ((l,0,()),(),())=_ from k1,show rF ((l,l,(l.length:Int),0,()),(),())=_ from k2]
  exact .inr ⟨rfl,rfl⟩
theorem pF (a b:List Int) (ha:a.length≤maxLen):ff a b=some (decide (a=b),())∧fm a b=some (decide (a=b),()):=by
 unfold ff jG fm jN lq l8
 by_cases hlen:a.length=b.length
 ·have hbe: (!((a.length:Int)==(b.length:Int)))=false:=by simp [hlen]
  have cd:=oA (B1:=c9) (B2:=dS) a.length (fun k=>((a,b,(k:Int),()),(),())) (fun k=>((a,b,(a.length:Int),(k:Int),()),(),())) (.inr (((),()),(),())) (.inr (((),()),(),())) (fun _=> .inl ((false,()),(),())) (fun _=> .inl ((false,()),(),()))
   (fun k=>a[k]? =b[k]?) (fun k=>a[k]? ≠b[k]?)
   (by simp only [c9,fq]; rw [aR,if_neg (by omega)])
   (by simp only [dS,gP]; rw [aR,if_neg (by omega)])
   (fun k hk=>by
     have c1: (k:Int) < (a.length:Int):=by omega
     have c2: (0:Int)≤(k:Int):=by omega
     simp only [c9,fq,dS,gP,aR,cU,if_pos c1,if_pos c2,Int.toNat_natCast,List.getElem?_eq_getElem hk,List.getElem?_eq_getElem (show k < b.length by omega),Option.bind_some,cc ha hk,nW,zp]
     by_cases he:a[k] =b[k]'(by omega)
     ·simp only [if_pos he]
      exact .inl ⟨trivial,trivial,by rw [he]⟩
     ·simp only [if_neg he]
      exact .inr ⟨trivial,trivial,fun h=>he (Option.some.inj h)⟩)
  rw [hbe,cT,cT]
  rcases cd with ⟨k1,k2,k3⟩ | ⟨k,hk,k1,k2,k3⟩
  ·rw [show iY ((a,b,0,()),(),())=_ from k1,show kT ((a,b,(a.length:Int),0,()),(),())=_ from k2]
   have :a=b:=List.ext_getElem? fun k=>by
    rcases Nat.lt_or_ge k a.length with h | h
    ·exact k3 k h
    ·rw [List.getElem?_eq_none h,List.getElem?_eq_none (by omega)]
   rw [decide_eq_true this]
   exact⟨rfl,rfl⟩
  ·rw [show iY ((a,b,0,()),(),())=_ from k1,show kT ((a,b,(a.length:Int),0,()),(),())=_ from k2]
   have :a≠b:=fun h=>k3 (by rw [h])
   rw [decide_eq_false this]
   exact⟨rfl,rfl⟩
 ·have hbe: (!((a.length:Int)==(b.length:Int)))=true:=by
   simp only [Bool.not_eq_true',beq_eq_false_iff_ne,ne_eq]
   omega
  rw [hbe,cA,cA,decide_eq_false (fun h=>hlen (by rw [h]))]
  exact⟨rfl,rfl⟩
theorem lr (a b:ai) (ha:jQ maxLen a):fg a b=some (decide (a=b),())∧eA a b=some (decide (a=b),()):=by
 unfold fg jH eA jO
 simp only [(pF a.replicas b.replicas ha.1).1,(pF a.replicas b.replicas ha.1).2,(pF a.witnesses b.witnesses ha.2).1,(pF a.witnesses b.witnesses ha.2).2,Option.bind_some,zp,aR]
 obtain⟨a1,a2,a3,a4⟩:=a
 obtain⟨b1,b2,b3,b4⟩:=b
 simp only [ai.mk.injEq]
 by_cases h1:a1=b1 <;> by_cases h2:a2=b2 <;> by_cases h3:a3=b3 <;> by_cases h4:a4=b4 <;> simp [h1,h2,h3,h4]
theorem zq (l:List bK) (hl:l.length≤maxLen): ∃ n,mR l=some (n,())∧jr l=some (n,()):=by
 unfold mR pX jr nL
 rcases Nat.eq_zero_or_pos l.length with h | h
 ·have : ((l.length:Int)==0)=true:=by simp [h]
  rw [this]
  exact⟨_,rfl,rfl⟩
 ·have : ((l.length:Int)==0)=false:=by
   simp only [beq_eq_false_iff_ne,ne_eq]
   omega
  rw [this,cT,rp h hl,en (by omega),Int.toNat_natCast,List.getElem?_eq_getElem (show l.length - 1 < l.length by omega)]
  exact⟨_,rfl,rfl⟩
theorem Ru (c:ai) (x:Int) (h:jQ maxLen c): ∃ n,pY c x=some (n,())∧qb c x=some (n,())∧(n=0∨n=1∨n=2∨n=3):=by
 unfold pY rx qb rG
 obtain⟨b,v1,v2⟩:=ue c h
 simp only [v1,v2,Option.bind_some,(jk c.replicas x h.1).1,(jk c.replicas x h.1).2,(jk c.witnesses x h.2).1,(jk c.witnesses x h.2).2]
 cases b <;> cases (x==c.primary) <;> cases decide (x∈c.replicas) <;> cases decide (x∈c.witnesses) <;> exact⟨_,rfl,rfl,by decide⟩
end Go.Proofs.YtkcgfceffffmoaaGreat.En
