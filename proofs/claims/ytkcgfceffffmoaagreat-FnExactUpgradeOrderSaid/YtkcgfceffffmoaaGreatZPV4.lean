/- Valid clusters: spec and impl tell the same. -/
import Derived.Test.YtkcgfceffffmoaaGreatZPV3
namespace Go.Proofs.YtkcgfceffffmoaaGreat.En
open Go
theorem Mv (l:List Int) (hl:l.length≤maxLen):Fq (mh l) (ow l):=by
 have b7:=p6 (B1:=gk) (B2:=aY) l.length (fun k=>((l,(k:Int),()),(),())) (fun k=>((l,(),(l.length:Int),(k:Int),()),(),())) (.inr ((l,(),()),(),())) (.inr (((),()),(),())) (fun _=> .inl ((l,false,()),(),())) (fun k=> .inl (((k:Int),()),(),()))
  (fun _=>True) (fun _=>True)
  (by simp only [gk,lu]; rw [aA,if_neg (by omega)])
  (by simp only [aY,cc]; rw [aA,if_neg (by omega)])
  (fun k hk=>by
    have c1: (k:Int) < (l.length:Int):=by omega
    have c2: (0:Int)≤(k:Int):=by omega
    simp only [gk,lu,aY,cc,aA,bR,if_pos c1,if_pos c2,Int.toNat_natCast,List.getElem?_eq_getElem hk,Option.bind_some,ly,my,zw,Cq,bD hl hk]
    cases vu l[k] 0 3 with
    | false=>exact .inr ⟨rfl,rfl,trivial⟩
    | true=>exact .inl ⟨rfl,rfl,trivial⟩)
 unfold mh qk ow qp cd cI cF df
 rcases b7 with ⟨k1,k2,_⟩ | ⟨k,_,k1,k2,_⟩
 ·rw [show pc ((l,0,()),(),())=_ from k1,show c7 ((l,(),(l.length:Int),0,()),(),())=_ from k2]
  simp only [Option.bind_some,Sum.elim_inr]
  cases ((l.length:Int)==5) <;> exact⟨_,rfl,rfl⟩
 ·rw [show pc ((l,0,()),(),())=_ from k1,show c7 ((l,(),(l.length:Int),0,()),(),())=_ from k2]
  simp only [Option.bind_some,Sum.elim_inl]
  rw [decide_eq_true (by omega)]
  cases ((l.length:Int)==5) <;> exact⟨_,rfl,rfl⟩
theorem masterLog (m:ay) (h:Ee maxLen m): ∃ b,dY m=some (b,())∧ip m=some (b,()):=by
 obtain⟨hl,hc⟩:=h
 have b7:=p6 (B1:=bU) (B2:=dZ) m.configs.length (fun k=>(((),(k:Int),()),((m.configs,m.activated,()),()),())) (fun k=>(((),m.configs,(m.configs.length:Int),(k:Int),()),((m.configs,m.activated,()),()),())) (.inr (((),(),()),((m.configs,m.activated,()),()),())) (.inr (((),(),()),((m.configs,m.activated,()),()),())) (fun _=> .inl (((),false,()),((m.configs,m.activated,()),()),())) (fun _=> .inl (((),false,()),((m.configs,m.activated,()),()),()))
  (fun _=>True) (fun _=>True)
  (by simp only [bU,ed]; rw [aA,if_neg (by omega)])
  (by simp only [dZ,iA]; rw [aA,if_neg (by omega)])
  (fun k hk=>by
    have c1: (k:Int) < (m.configs.length:Int):=by omega
    have c2: (0:Int)≤(k:Int):=by omega
    obtain⟨b,v1,v2⟩:=wI m.configs[k] (hc _ (List.getElem_mem hk))
    simp only [bU,ed,dZ,iA,aA,bR,if_pos c1,if_pos c2,Int.toNat_natCast,List.getElem?_eq_getElem hk,Option.bind_some,v1,v2,bD hl hk,oC]
    cases b with
    | false=>exact .inr ⟨rfl,rfl,trivial⟩
    | true=>
      cases (m.configs[k].epoch==((k+1:Nat):Int)) with
      | false=>exact .inr ⟨rfl,rfl,trivial⟩
      | true=>exact .inl ⟨rfl,rfl,trivial⟩)
 unfold dY ke ip mw
 rcases b7 with ⟨k1,k2,_⟩ | ⟨k,_,k1,k2,_⟩
 ·rw [show gO (((),0,()),((m.configs,m.activated,()),()),())=_ from k1,show ld (((),m.configs,(m.configs.length:Int),0,()),((m.configs,m.activated,()),()),())=_ from k2]
  simp only [Option.bind_some,Sum.elim_inr,zw,Cq]
  exact⟨_,rfl,rfl⟩
 ·rw [show gO (((),0,()),((m.configs,m.activated,()),()),())=_ from k1,show ld (((),m.configs,(m.configs.length:Int),0,()),((m.configs,m.activated,()),()),())=_ from k2]
  exact⟨_,rfl,rfl⟩
theorem OF (x:kV):Fq (oK x) (pT x):=by
 unfold oK rx pT rG
 simp only [zw,Cq,Option.bind_some]
 cases ((x.epoch==0)&&((x.holder==0)&&((x.ends==0)&&true))) <;> cases vu x.epoch 1 20 <;> cases vu x.holder 0 4 <;> exact⟨_,rfl,rfl⟩
theorem It (l:List bz) (hl:l.length≤maxLen):Fq (kD l) (mA l):=by
 have b7:=p6 (B1:=eZ) (B2:=aN) l.length (fun k=>((l,(k:Int),()),(),())) (fun k=>((l,(),(l.length:Int),(k:Int),()),(),())) (.inr ((l,(),()),(),())) (.inr (((),()),(),())) (fun _=> .inl ((l,false,()),(),())) (fun k=> .inl (((k:Int),()),(),()))
  (fun _=>True) (fun _=>True)
  (by simp only [eZ,kf]; rw [aA,if_neg (by omega)])
  (by simp only [aN,bM]; rw [aA,if_neg (by omega)])
  (fun k hk=>by
    have c1: (k:Int) < (l.length:Int):=by omega
    have c2: (0:Int)≤(k:Int):=by omega
    simp only [eZ,kf,aN,bM,aA,bR,if_pos c1,if_pos c2,Int.toNat_natCast,List.getElem?_eq_getElem hk,Option.bind_some,kx,lf,zw,Cq,bD hl hk]
    cases vu l[k].rack 0 9 with
    | false=>exact .inr ⟨rfl,rfl,trivial⟩
    | true=>
      cases vu l[k].capacity 0 9 with
      | false=>exact .inr ⟨rfl,rfl,trivial⟩
      | true=>
        cases vu l[k].load 0 99 with
        | false=>exact .inr ⟨rfl,rfl,trivial⟩
        | true=>exact .inl ⟨rfl,rfl,trivial⟩)
 unfold kD pd mA pn bN ck ce cJ
 rcases b7 with ⟨k1,k2,_⟩ | ⟨k,_,k1,k2,_⟩
 ·rw [show nL ((l,0,()),(),())=_ from k1,show cz ((l,(),(l.length:Int),0,()),(),())=_ from k2]
  simp only [Option.bind_some,Sum.elim_inr]
  cases ((l.length:Int)==5) <;> exact⟨_,rfl,rfl⟩
 ·rw [show nL ((l,0,()),(),())=_ from k1,show cz ((l,(),(l.length:Int),0,()),(),())=_ from k2]
  simp only [Option.bind_some,Sum.elim_inl]
  rw [decide_eq_true (by omega)]
  cases ((l.length:Int)==5) <;> exact⟨_,rfl,rfl⟩
theorem S7 (x:Op):Fq (mi x) (kG x):=by
 unfold mi pe kG po
 simp only [zw,Cq,Option.bind_some]
 cases vu x.client 0 2 <;> cases vu x.seq 1 99 <;> cases vu x.object 0 2 <;> cases vu x.value 0 9 <;> cases (x.kind==1) <;> cases (x.kind==2) <;> cases (x.old==0) <;> exact⟨_,rfl,rfl⟩
theorem Tw (l:List bh) (hl:l.length≤maxLen): (qU l=some (true,())∧p9 l=some (true,())∧l.length≤16)∨(qU l=some (false,())∧p9 l=some (false,())):=by
 have b7:=p6 (B1:=lw) (B2:=lz) l.length (fun k=>((l,(k:Int),()),(),())) (fun k=>((l,l,(l.length:Int),(k:Int),()),(),())) (.inr ((l,(),()),(),())) (.inr ((l,(),()),(),())) (fun _=> .inl ((l,false,()),(),())) (fun _=> .inl ((l,false,()),(),()))
  (fun _=>True) (fun _=>True)
  (by simp only [lw,pQ]; rw [aA,if_neg (by omega)])
  (by simp only [lz,pV]; rw [aA,if_neg (by omega)])
  (fun k hk=>by
    have c1: (k:Int) < (l.length:Int):=by omega
    have c2: (0:Int)≤(k:Int):=by omega
    obtain⟨b,v1,v2⟩:=S7 l[k].op
    simp only [lw,pQ,lz,pV,aA,bR,if_pos c1,if_pos c2,Int.toNat_natCast,List.getElem?_eq_getElem hk,Option.bind_some,v1,v2,zw,Cq,bD hl hk,oC]
    cases vu l[k].epoch 1 20 with
    | false=>exact .inr ⟨rfl,rfl,trivial⟩
    | true=>
      simp only [dv]
      by_cases h0:0 < k
      ·have c3: (k:Int) > 0:=by omega
       have c4: (0:Int)≤((k - 1:Nat):Int):=by omega
       have e2:l[k - 1]? =some l[k - 1] :=List.getElem?_eq_getElem (by omega)
       simp only [if_pos c3,tB h0 (by omega),if_pos c4,Int.toNat_natCast,e2,Option.bind_some]
       by_cases hlt:l[k].epoch < l[k - 1].epoch
       ·rw [if_pos hlt,if_pos (show l[k - 1].epoch > l[k].epoch from hlt)]
        cases b <;> exact .inr ⟨rfl,rfl,trivial⟩
       ·rw [if_neg hlt,if_neg (show ¬ l[k - 1].epoch > l[k].epoch from hlt)]
        cases b with
        | false=>exact .inr ⟨rfl,rfl,trivial⟩
        | true=>exact .inl ⟨rfl,rfl,trivial⟩
      ·have c3: ¬ (k:Int) > 0:=by omega
       simp only [if_neg c3]
       cases b with
       | false=>exact .inr ⟨rfl,rfl,trivial⟩
       | true=>exact .inl ⟨rfl,rfl,trivial⟩)
 unfold qU vX p9 wn
 rcases b7 with ⟨k1,k2,_⟩ | ⟨k,_,k1,k2,_⟩
 ·rw [show tF ((l,0,()),(),())=_ from k1,show tS ((l,l,(l.length:Int),0,()),(),())=_ from k2]
  simp only [Option.bind_some,Sum.elim_inr]
  by_cases h: (l.length:Int)≤16
  ·rw [decide_eq_true h]
   exact .inl ⟨rfl,rfl,by omega⟩
  ·rw [decide_eq_false h]
   exact .inr ⟨rfl,rfl⟩
 ·rw [show tF ((l,0,()),(),())=_ from k1,show tS ((l,l,(l.length:Int),0,()),(),())=_ from k2]
  exact .inr ⟨rfl,rfl⟩
theorem qZ (a b:List Int) (ha:a.length≤maxLen):gn a b=some (decide (a=b),())∧gt a b=some (decide (a=b),()):=by
 unfold gn kX gt lg ne n0
 by_cases hlen:a.length=b.length
 ·have hbe: (!((a.length:Int)==(b.length:Int)))=false:=by simp [hlen]
  have b7:=p6 (B1:=dF) (B2:=eC) a.length (fun k=>((a,b,(k:Int),()),(),())) (fun k=>((a,b,(a.length:Int),(k:Int),()),(),())) (.inr (((),()),(),())) (.inr (((),()),(),())) (fun _=> .inl ((false,()),(),())) (fun _=> .inl ((false,()),(),()))
   (fun k=>a[k]? =b[k]?) (fun k=>a[k]? ≠b[k]?)
   (by simp only [dF,gy]; rw [aA,if_neg (by omega)])
   (by simp only [eC,jk]; rw [aA,if_neg (by omega)])
   (fun k hk=>by
     have c1: (k:Int) < (a.length:Int):=by omega
     have c2: (0:Int)≤(k:Int):=by omega
     simp only [dF,gy,eC,jk,aA,bR,if_pos c1,if_pos c2,Int.toNat_natCast,List.getElem?_eq_getElem hk,List.getElem?_eq_getElem (show k < b.length by omega),Option.bind_some,bD ha hk,oC,Cp]
     by_cases he:a[k] =b[k]'(by omega)
     ·simp only [if_pos he]
      exact .inl ⟨trivial,trivial,by rw [he]⟩
     ·simp only [if_neg he]
      exact .inr ⟨trivial,trivial,fun h=>he (Option.some.inj h)⟩)
  rw [hbe,dz,dz]
  rcases b7 with ⟨k1,k2,k3⟩ | ⟨k,hk,k1,k2,k3⟩
  ·rw [show ki ((a,b,0,()),(),())=_ from k1,show mD ((a,b,(a.length:Int),0,()),(),())=_ from k2]
   have :a=b:=List.ext_getElem? fun k=>by
    rcases Nat.lt_or_ge k a.length with h | h
    ·exact k3 k h
    ·rw [List.getElem?_eq_none h,List.getElem?_eq_none (by omega)]
   rw [decide_eq_true this]
   exact⟨rfl,rfl⟩
  ·rw [show ki ((a,b,0,()),(),())=_ from k1,show mD ((a,b,(a.length:Int),0,()),(),())=_ from k2]
   have :a≠b:=fun h=>k3 (by rw [h])
   rw [decide_eq_false this]
   exact⟨rfl,rfl⟩
 ·have hbe: (!((a.length:Int)==(b.length:Int)))=true:=by
   simp only [Bool.not_eq_true',beq_eq_false_iff_ne,ne_eq]
   omega
  rw [hbe,dv,dv,decide_eq_false (fun h=>hlen (by rw [h]))]
  exact⟨rfl,rfl⟩
theorem nm (a b:ai) (ha:jG maxLen a):gp a b=some (decide (a=b),())∧fo a b=some (decide (a=b),()):=by
 unfold gp kY fo lh
 simp only [(qZ a.replicas b.replicas ha.1).1,(qZ a.replicas b.replicas ha.1).2,(qZ a.witnesses b.witnesses ha.2).1,(qZ a.witnesses b.witnesses ha.2).2,Option.bind_some,Cp,aA]
 obtain⟨a1,a2,a3,a4⟩:=a
 obtain⟨b1,b2,b3,b4⟩:=b
 simp only [ai.mk.injEq]
 by_cases h1:a1=b1 <;> by_cases h2:a2=b2 <;> by_cases h3:a3=b3 <;> by_cases h4:a4=b4 <;> simp [h1,h2,h3,h4]
theorem Cr (l:List bh) (hl:l.length≤maxLen): ∃ n,oM l=some (n,())∧kH l=some (n,()):=by
 unfold oM rA kH pp
 rcases Nat.eq_zero_or_pos l.length with h | h
 ·have : ((l.length:Int)==0)=true:=by simp [h]
  rw [this]
  exact⟨_,rfl,rfl⟩
 ·have : ((l.length:Int)==0)=false:=by
   simp only [beq_eq_false_iff_ne,ne_eq]
   omega
  rw [this,dz,tB h hl,eU (by omega),Int.toNat_natCast,List.getElem?_eq_getElem (show l.length - 1 < l.length by omega)]
  exact⟨_,rfl,rfl⟩
theorem Uq (c:ai) (x:Int) (h:jG maxLen c): ∃ n,rB c x=some (n,())∧rI c x=some (n,())∧(n=0∨n=1∨n=2∨n=3):=by
 unfold rB tH rI tT
 obtain⟨b,v1,v2⟩:=wI c h
 simp only [v1,v2,Option.bind_some,(lD c.replicas x h.1).1,(lD c.replicas x h.1).2,(lD c.witnesses x h.2).1,(lD c.witnesses x h.2).2]
 cases b <;> cases (x==c.primary) <;> cases decide (x∈c.replicas) <;> cases decide (x∈c.witnesses) <;> exact⟨_,rfl,rfl,by decide⟩
end Go.Proofs.YtkcgfceffffmoaaGreat.En
