/- Valid clusters: spec and impl tell the same. -/
import Derived.Test.YtkcgfceffffmoaaGreatZPV3
namespace Go.Proofs.YtkcgfceffffmoaaGreat.En
open Go
theorem M1 (l:List Int) (hl:l.length≤maxLen):Fr (lG l) (nF l):=by
 have ca:=qu (B1:=fH) (B2:=aX) l.length (fun k=>((l,(k:Int),()),(),())) (fun k=>((l,(),(l.length:Int),(k:Int),()),(),())) (.inr ((l,(),()),(),())) (.inr (((),()),(),())) (fun _=> .inl ((l,false,()),(),())) (fun k=> .inl (((k:Int),()),(),()))
  (fun _=>True) (fun _=>True)
  (by simp only [fH,kN]; rw [aB,if_neg (by omega)])
  (by simp only [aX,bX]; rw [aB,if_neg (by omega)])
  (fun k hk=>by
    have c1: (k:Int) < (l.length:Int):=by omega
    have c2: (0:Int)≤(k:Int):=by omega
    simp only [fH,kN,aX,bX,aB,bB,if_pos c1,if_pos c2,Int.toNat_natCast,List.getElem?_eq_getElem hk,Option.bind_some,kR,lO,AU,Ch,bM hl hk]
    cases wQ l[k] 0 3 with
    | false=>exact .inr ⟨rfl,rfl,trivial⟩
    | true=>exact .inl ⟨rfl,rfl,trivial⟩)
 unfold lG pO nF pR bZ ct cq cN
 rcases ca with ⟨k1,k2,_⟩ | ⟨k,_,k1,k2,_⟩
 ·rw [show ow ((l,0,()),(),())=_ from k1,show cH ((l,(),(l.length:Int),0,()),(),())=_ from k2]
  simp only [Option.bind_some,Sum.elim_inr]
  cases ((l.length:Int)==5) <;> exact⟨_,rfl,rfl⟩
 ·rw [show ow ((l,0,()),(),())=_ from k1,show cH ((l,(),(l.length:Int),0,()),(),())=_ from k2]
  simp only [Option.bind_some,Sum.elim_inl]
  rw [decide_eq_true (by omega)]
  cases ((l.length:Int)==5) <;> exact⟨_,rfl,rfl⟩
theorem masterLog (m:an) (h:GI maxLen m): ∃ b,fI m=some (b,())∧gE m=some (b,()):=by
 obtain⟨hl,hc⟩:=h
 have ca:=qu (B1:=dB) (B2:=dD) m.configs.length (fun k=>(((),(k:Int),()),((m.configs,m.activated,()),()),())) (fun k=>(((),m.configs,(m.configs.length:Int),(k:Int),()),((m.configs,m.activated,()),()),())) (.inr (((),(),()),((m.configs,m.activated,()),()),())) (.inr (((),(),()),((m.configs,m.activated,()),()),())) (fun _=> .inl (((),false,()),((m.configs,m.activated,()),()),())) (fun _=> .inl (((),false,()),((m.configs,m.activated,()),()),()))
  (fun _=>True) (fun _=>True)
  (by simp only [dB,gM]; rw [aB,if_neg (by omega)])
  (by simp only [dD,gQ]; rw [aB,if_neg (by omega)])
  (fun k hk=>by
    have c1: (k:Int) < (m.configs.length:Int):=by omega
    have c2: (0:Int)≤(k:Int):=by omega
    obtain⟨b,v1,v2⟩:=C9 m.configs[k] (hc _ (List.getElem_mem hk))
    simp only [dB,gM,dD,gQ,aB,bB,if_pos c1,if_pos c2,Int.toNat_natCast,List.getElem?_eq_getElem hk,Option.bind_some,v1,v2,bM hl hk,qd]
    cases b with
    | false=>exact .inr ⟨rfl,rfl,trivial⟩
    | true=>
      cases (m.configs[k].epoch==((k+1:Nat):Int)) with
      | false=>exact .inr ⟨rfl,rfl,trivial⟩
      | true=>exact .inl ⟨rfl,rfl,trivial⟩)
 unfold fI lJ gE lW
 rcases ca with ⟨k1,k2,_⟩ | ⟨k,_,k1,k2,_⟩
 ·rw [show kx (((),0,()),((m.configs,m.activated,()),()),())=_ from k1,show kE (((),m.configs,(m.configs.length:Int),0,()),((m.configs,m.activated,()),()),())=_ from k2]
  simp only [Option.bind_some,Sum.elim_inr,AU,Ch]
  exact⟨_,rfl,rfl⟩
 ·rw [show kx (((),0,()),((m.configs,m.activated,()),()),())=_ from k1,show kE (((),m.configs,(m.configs.length:Int),0,()),((m.configs,m.activated,()),()),())=_ from k2]
  exact⟨_,rfl,rfl⟩
theorem Pn (x:jC):Fr (nV x) (po x):=by
 unfold nV qY po rh
 simp only [AU,Ch,Option.bind_some]
 cases ((x.epoch==0)&&((x.holder==0)&&((x.ends==0)&&true))) <;> cases wQ x.epoch 1 20 <;> cases wQ x.holder 0 4 <;> exact⟨_,rfl,rfl⟩
theorem IU (l:List aU) (hl:l.length≤maxLen):Fr (j8 l) (lY l):=by
 have ca:=qu (B1:=eB) (B2:=aR) l.length (fun k=>((l,(k:Int),()),(),())) (fun k=>((l,(),(l.length:Int),(k:Int),()),(),())) (.inr ((l,(),()),(),())) (.inr (((),()),(),())) (fun _=> .inl ((l,false,()),(),())) (fun k=> .inl (((k:Int),()),(),()))
  (fun _=>True) (fun _=>True)
  (by simp only [eB,jJ]; rw [aB,if_neg (by omega)])
  (by simp only [aR,bH]; rw [aB,if_neg (by omega)])
  (fun k hk=>by
    have c1: (k:Int) < (l.length:Int):=by omega
    have c2: (0:Int)≤(k:Int):=by omega
    simp only [eB,jJ,aR,bH,aB,bB,if_pos c1,if_pos c2,Int.toNat_natCast,List.getElem?_eq_getElem hk,Option.bind_some,jW,kF,AU,Ch,bM hl hk]
    cases wQ l[k].rack 0 9 with
    | false=>exact .inr ⟨rfl,rfl,trivial⟩
    | true=>
      cases wQ l[k].capacity 0 9 with
      | false=>exact .inr ⟨rfl,rfl,trivial⟩
      | true=>
        cases wQ l[k].load 0 99 with
        | false=>exact .inr ⟨rfl,rfl,trivial⟩
        | true=>exact .inl ⟨rfl,rfl,trivial⟩)
 unfold j8 oz lY oK bI cd b8 cv
 rcases ca with ⟨k1,k2,_⟩ | ⟨k,_,k1,k2,_⟩
 ·rw [show mX ((l,0,()),(),())=_ from k1,show ck ((l,(),(l.length:Int),0,()),(),())=_ from k2]
  simp only [Option.bind_some,Sum.elim_inr]
  cases ((l.length:Int)==5) <;> exact⟨_,rfl,rfl⟩
 ·rw [show mX ((l,0,()),(),())=_ from k1,show ck ((l,(),(l.length:Int),0,()),(),())=_ from k2]
  simp only [Option.bind_some,Sum.elim_inl]
  rw [decide_eq_true (by omega)]
  cases ((l.length:Int)==5) <;> exact⟨_,rfl,rfl⟩
theorem TR (x:Op):Fr (lK x) (kb x):=by
 unfold lK oA kb oL
 simp only [AU,Ch,Option.bind_some]
 cases wQ x.client 0 2 <;> cases wQ x.seq 1 99 <;> cases wQ x.object 0 2 <;> cases wQ x.value 0 9 <;> cases (x.kind==1) <;> cases (x.kind==2) <;> cases (x.old==0) <;> exact⟨_,rfl,rfl⟩
theorem Ue (l:List aK) (hl:l.length≤maxLen): (qz l=some (true,())∧pz l=some (true,())∧l.length≤16)∨(qz l=some (false,())∧pz l=some (false,())):=by
 have ca:=qu (B1:=kP) (B2:=kS) l.length (fun k=>((l,(k:Int),()),(),())) (fun k=>((l,l,(l.length:Int),(k:Int),()),(),())) (.inr ((l,(),()),(),())) (.inr ((l,(),()),(),())) (fun _=> .inl ((l,false,()),(),())) (fun _=> .inl ((l,false,()),(),()))
  (fun _=>True) (fun _=>True)
  (by simp only [kP,pk]; rw [aB,if_neg (by omega)])
  (by simp only [kS,pq]; rw [aB,if_neg (by omega)])
  (fun k hk=>by
    have c1: (k:Int) < (l.length:Int):=by omega
    have c2: (0:Int)≤(k:Int):=by omega
    obtain⟨b,v1,v2⟩:=TR l[k].op
    simp only [kP,pk,kS,pq,aB,bB,if_pos c1,if_pos c2,Int.toNat_natCast,List.getElem?_eq_getElem hk,Option.bind_some,v1,v2,AU,Ch,bM hl hk,qd]
    cases wQ l[k].epoch 1 20 with
    | false=>exact .inr ⟨rfl,rfl,trivial⟩
    | true=>
      simp only [eD]
      by_cases h0:0 < k
      ·have c3: (k:Int) > 0:=by omega
       have c4: (0:Int)≤((k - 1:Nat):Int):=by omega
       have e2:l[k - 1]? =some l[k - 1] :=List.getElem?_eq_getElem (by omega)
       simp only [if_pos c3,s3 h0 (by omega),if_pos c4,Int.toNat_natCast,e2,Option.bind_some]
       by_cases hlt:l[k].epoch < l[k - 1].epoch
       ·rw [if_pos hlt,if_pos (show l[k - 1].epoch > l[k].epoch from hlt)]
        cases b <;> exact .inr ⟨rfl,rfl,trivial⟩
       ·rw [if_neg hlt,if_neg (show ¬ l[k - 1].epoch > l[k].epoch from hlt)]
        cases b with
        | false=>exact .inr ⟨rfl,rfl,trivial⟩
        | true=>exact .inl ⟨rfl,rfl,trivial⟩
      ·have c3: ¬ (k:Int) > 0:=by omega
       simp only [if_neg c3]
       cases b with
       | false=>exact .inr ⟨rfl,rfl,trivial⟩
       | true=>exact .inl ⟨rfl,rfl,trivial⟩)
 unfold qz vD pz vQ
 rcases ca with ⟨k1,k2,_⟩ | ⟨k,_,k1,k2,_⟩
 ·rw [show s8 ((l,0,()),(),())=_ from k1,show tm ((l,l,(l.length:Int),0,()),(),())=_ from k2]
  simp only [Option.bind_some,Sum.elim_inr]
  by_cases h: (l.length:Int)≤16
  ·rw [decide_eq_true h]
   exact .inl ⟨rfl,rfl,by omega⟩
  ·rw [decide_eq_false h]
   exact .inr ⟨rfl,rfl⟩
 ·rw [show s8 ((l,0,()),(),())=_ from k1,show tm ((l,l,(l.length:Int),0,()),(),())=_ from k2]
  exact .inr ⟨rfl,rfl⟩
theorem qF (a b:List Int) (ha:a.length≤maxLen):fO a b=some (decide (a=b),())∧fS a b=some (decide (a=b),()):=by
 unfold fO ky fS kG mr nn
 by_cases hlen:a.length=b.length
 ·have hbe: (!((a.length:Int)==(b.length:Int)))=false:=by simp [hlen]
  have ca:=qu (B1:=db) (B2:=ea) a.length (fun k=>((a,b,(k:Int),()),(),())) (fun k=>((a,b,(a.length:Int),(k:Int),()),(),())) (.inr (((),()),(),())) (.inr (((),()),(),())) (fun _=> .inl ((false,()),(),())) (fun _=> .inl ((false,()),(),()))
   (fun k=>a[k]? =b[k]?) (fun k=>a[k]? ≠b[k]?)
   (by simp only [db,fV]; rw [aB,if_neg (by omega)])
   (by simp only [ea,iH]; rw [aB,if_neg (by omega)])
   (fun k hk=>by
     have c1: (k:Int) < (a.length:Int):=by omega
     have c2: (0:Int)≤(k:Int):=by omega
     simp only [db,fV,ea,iH,aB,bB,if_pos c1,if_pos c2,Int.toNat_natCast,List.getElem?_eq_getElem hk,List.getElem?_eq_getElem (show k < b.length by omega),Option.bind_some,bM ha hk,qd,GL]
     by_cases he:a[k] =b[k]'(by omega)
     ·simp only [if_pos he]
      exact .inl ⟨trivial,trivial,by rw [he]⟩
     ·simp only [if_neg he]
      exact .inr ⟨trivial,trivial,fun h=>he (Option.some.inj h)⟩)
  rw [hbe,cT,cT]
  rcases ca with ⟨k1,k2,k3⟩ | ⟨k,hk,k1,k2,k3⟩
  ·rw [show jM ((a,b,0,()),(),())=_ from k1,show l4 ((a,b,(a.length:Int),0,()),(),())=_ from k2]
   have :a=b:=List.ext_getElem? fun k=>by
    rcases Nat.lt_or_ge k a.length with h | h
    ·exact k3 k h
    ·rw [List.getElem?_eq_none h,List.getElem?_eq_none (by omega)]
   rw [decide_eq_true this]
   exact⟨rfl,rfl⟩
  ·rw [show jM ((a,b,0,()),(),())=_ from k1,show l4 ((a,b,(a.length:Int),0,()),(),())=_ from k2]
   have :a≠b:=fun h=>k3 (by rw [h])
   rw [decide_eq_false this]
   exact⟨rfl,rfl⟩
 ·have hbe: (!((a.length:Int)==(b.length:Int)))=true:=by
   simp only [Bool.not_eq_true',beq_eq_false_iff_ne,ne_eq]
   omega
  rw [hbe,eD,eD,decide_eq_false (fun h=>hlen (by rw [h]))]
  exact⟨rfl,rfl⟩
theorem mw (a b:ai) (ha:j5 maxLen a):fP a b=some (decide (a=b),())∧eM a b=some (decide (a=b),()):=by
 unfold fP kz eM kH
 simp only [(qF a.replicas b.replicas ha.1).1,(qF a.replicas b.replicas ha.1).2,(qF a.witnesses b.witnesses ha.2).1,(qF a.witnesses b.witnesses ha.2).2,Option.bind_some,GL,aB]
 obtain⟨a1,a2,a3,a4⟩:=a
 obtain⟨b1,b2,b3,b4⟩:=b
 simp only [ai.mk.injEq]
 by_cases h1:a1=b1 <;> by_cases h2:a2=b2 <;> by_cases h3:a3=b3 <;> by_cases h4:a4=b4 <;> simp [h1,h2,h3,h4]
theorem Ci (l:List aK) (hl:l.length≤maxLen): ∃ n,nX l=some (n,())∧ke l=some (n,()):=by
 unfold nX q8 ke oM
 rcases Nat.eq_zero_or_pos l.length with h | h
 ·have : ((l.length:Int)==0)=true:=by simp [h]
  rw [this]
  exact⟨_,rfl,rfl⟩
 ·have : ((l.length:Int)==0)=false:=by
   simp only [beq_eq_false_iff_ne,ne_eq]
   omega
  rw [this,cT,s3 h hl,gm (by omega),Int.toNat_natCast,List.getElem?_eq_getElem (show l.length - 1 < l.length by omega)]
  exact⟨_,rfl,rfl⟩
theorem U3 (c:ai) (x:Int) (h:j5 maxLen c): ∃ n,q9 c x=some (n,())∧rj c x=some (n,())∧(n=0∨n=1∨n=2∨n=3):=by
 unfold q9 ta rj tn
 obtain⟨b,v1,v2⟩:=C9 c h
 simp only [v1,v2,Option.bind_some,(n5 c.replicas x h.1).1,(n5 c.replicas x h.1).2,(n5 c.witnesses x h.2).1,(n5 c.witnesses x h.2).2]
 cases b <;> cases (x==c.primary) <;> cases decide (x∈c.replicas) <;> cases decide (x∈c.witnesses) <;> exact⟨_,rfl,rfl,by decide⟩
end Go.Proofs.YtkcgfceffffmoaaGreat.En
