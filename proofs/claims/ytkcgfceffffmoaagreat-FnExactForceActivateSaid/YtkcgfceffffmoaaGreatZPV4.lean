/- Valid clusters: spec and impl tell the same. -/
import Derived.Test.YtkcgfceffffmoaaGreatZPV3
namespace Go.Proofs.YtkcgfceffffmoaaGreat.En
open Go
theorem GV (l:List Int) (hl:l.length≤maxLen):xM (ku l) (po l):=by
 have bU:=rp (B1:=iH) (B2:=bi) l.length (fun k=>((l,(k:Int),()),(),())) (fun k=>((l,(),(l.length:Int),(k:Int),()),(),())) (.inr ((l,(),()),(),())) (.inr (((),()),(),())) (fun _=> .inl ((l,false,()),(),())) (fun k=> .inl (((k:Int),()),(),()))
  (fun _=>True) (fun _=>True)
  (by simp only [iH,n9]; rw [aw,if_neg (by omega)])
  (by simp only [bi,cz]; rw [aw,if_neg (by omega)])
  (fun k hk=>by
    have c1: (k:Int) < (l.length:Int):=by omega
    have c2: (0:Int)≤(k:Int):=by omega
    simp only [iH,n9,bi,cz,aw,be,if_pos c1,if_pos c2,Int.toNat_natCast,List.getElem?_eq_getElem hk,Option.bind_some,od,pn,yu,BU,bF hl hk]
    cases t5 l[k] 0 3 with
    | false=>exact .inr ⟨rfl,rfl,trivial⟩
    | true=>exact .inl ⟨rfl,rfl,trivial⟩)
 unfold ku ud po sa cA dg db dM
 rcases bU with ⟨k1,k2,_⟩ | ⟨k,_,k1,k2,_⟩
 ·rw [show sJ ((l,0,()),(),())=_ from k1,show dE ((l,(),(l.length:Int),0,()),(),())=_ from k2]
  simp only [Option.bind_some,Sum.elim_inr]
  cases ((l.length:Int)==5) <;> exact⟨_,rfl,rfl⟩
 ·rw [show sJ ((l,0,()),(),())=_ from k1,show dE ((l,(),(l.length:Int),0,()),(),())=_ from k2]
  simp only [Option.bind_some,Sum.elim_inl]
  rw [decide_eq_true (by omega)]
  cases ((l.length:Int)==5) <;> exact⟨_,rfl,rfl⟩
theorem masterLog (m:ak) (h:AE maxLen m): ∃ b,cR m=some (b,())∧gl m=some (b,()):=by
 obtain⟨hl,hc⟩:=h
 have bU:=rp (B1:=cj) (B2:=eP) m.configs.length (fun k=>(((),(k:Int),()),((m.configs,m.activated,()),()),())) (fun k=>(((),m.configs,(m.configs.length:Int),(k:Int),()),((m.configs,m.activated,()),()),())) (.inr (((),(),()),((m.configs,m.activated,()),()),())) (.inr (((),(),()),((m.configs,m.activated,()),()),())) (fun _=> .inl (((),false,()),((m.configs,m.activated,()),()),())) (fun _=> .inl (((),false,()),((m.configs,m.activated,()),()),()))
  (fun _=>True) (fun _=>True)
  (by simp only [cj,eV]; rw [aw,if_neg (by omega)])
  (by simp only [eP,ka]; rw [aw,if_neg (by omega)])
  (fun k hk=>by
    have c1: (k:Int) < (m.configs.length:Int):=by omega
    have c2: (0:Int)≤(k:Int):=by omega
    obtain⟨b,v1,v2⟩:=uv m.configs[k] (hc _ (List.getElem_mem hk))
    simp only [cj,eV,eP,ka,aw,be,if_pos c1,if_pos c2,Int.toNat_natCast,List.getElem?_eq_getElem hk,Option.bind_some,v1,v2,bF hl hk,ma]
    cases b with
    | false=>exact .inr ⟨rfl,rfl,trivial⟩
    | true=>
      cases (m.configs[k].epoch==((k+1:Nat):Int)) with
      | false=>exact .inr ⟨rfl,rfl,trivial⟩
      | true=>exact .inl ⟨rfl,rfl,trivial⟩)
 unfold cR mw gl pB
 rcases bU with ⟨k1,k2,_⟩ | ⟨k,_,k1,k2,_⟩
 ·rw [show je (((),0,()),((m.configs,m.activated,()),()),())=_ from k1,show nT (((),m.configs,(m.configs.length:Int),0,()),((m.configs,m.activated,()),()),())=_ from k2]
  simp only [Option.bind_some,Sum.elim_inr,yu,BU]
  exact⟨_,rfl,rfl⟩
 ·rw [show je (((),0,()),((m.configs,m.activated,()),()),())=_ from k1,show nT (((),m.configs,(m.configs.length:Int),0,()),((m.configs,m.activated,()),()),())=_ from k2]
  exact⟨_,rfl,rfl⟩
theorem Lf (x:eg):xM (oa x) (oe x):=by
 unfold oa vA oe tM
 simp only [yu,BU,Option.bind_some]
 cases ((x.epoch==0)&&((x.holder==0)&&((x.ends==0)&&true))) <;> cases t5 x.epoch 1 20 <;> cases t5 x.holder 0 4 <;> exact⟨_,rfl,rfl⟩
theorem Qj (l:List aU) (hl:l.length≤maxLen):xM (nq l) (pD l):=by
 have bU:=rp (B1:=gk) (B2:=aZ) l.length (fun k=>((l,(k:Int),()),(),())) (fun k=>((l,(),(l.length:Int),(k:Int),()),(),())) (.inr ((l,(),()),(),())) (.inr (((),()),(),())) (fun _=> .inl ((l,false,()),(),())) (fun k=> .inl (((k:Int),()),(),()))
  (fun _=>True) (fun _=>True)
  (by simp only [gk,my]; rw [aw,if_neg (by omega)])
  (by simp only [aZ,b9]; rw [aw,if_neg (by omega)])
  (fun k hk=>by
    have c1: (k:Int) < (l.length:Int):=by omega
    have c2: (0:Int)≤(k:Int):=by omega
    simp only [gk,my,aZ,b9,aw,be,if_pos c1,if_pos c2,Int.toNat_natCast,List.getElem?_eq_getElem hk,Option.bind_some,mZ,nU,yu,BU,bF hl hk]
    cases t5 l[k].rack 0 9 with
    | false=>exact .inr ⟨rfl,rfl,trivial⟩
    | true=>
      cases t5 l[k].capacity 0 9 with
      | false=>exact .inr ⟨rfl,rfl,trivial⟩
      | true=>
        cases t5 l[k].load 0 99 with
        | false=>exact .inr ⟨rfl,rfl,trivial⟩
        | true=>exact .inl ⟨rfl,rfl,trivial⟩)
 unfold nq sK pD sX ca cO cF dj
 rcases bU with ⟨k1,k2,_⟩ | ⟨k,_,k1,k2,_⟩
 ·rw [show qO ((l,0,()),(),())=_ from k1,show c7 ((l,(),(l.length:Int),0,()),(),())=_ from k2]
  simp only [Option.bind_some,Sum.elim_inr]
  cases ((l.length:Int)==5) <;> exact⟨_,rfl,rfl⟩
 ·rw [show qO ((l,0,()),(),())=_ from k1,show c7 ((l,(),(l.length:Int),0,()),(),())=_ from k2]
  simp only [Option.bind_some,Sum.elim_inl]
  rw [decide_eq_true (by omega)]
  cases ((l.length:Int)==5) <;> exact⟨_,rfl,rfl⟩
theorem aby (x:Op):xM (pc x) (nu x):=by
 unfold pc sL nu sY
 simp only [yu,BU,Option.bind_some]
 cases t5 x.client 0 2 <;> cases t5 x.seq 1 99 <;> cases t5 x.object 0 2 <;> cases t5 x.value 0 9 <;> cases (x.kind==1) <;> cases (x.kind==2) <;> cases (x.old==0) <;> exact⟨_,rfl,rfl⟩
theorem NM (l:List ar) (hl:l.length≤maxLen): (rr l=some (true,())∧qg l=some (true,())∧l.length≤16)∨(rr l=some (false,())∧qg l=some (false,())):=by
 have bU:=rp (B1:=ob) (B2:=of) l.length (fun k=>((l,(k:Int),()),(),())) (fun k=>((l,l,(l.length:Int),(k:Int),()),(),())) (.inr ((l,(),()),(),())) (.inr ((l,(),()),(),())) (fun _=> .inl ((l,false,()),(),())) (fun _=> .inl ((l,false,()),(),()))
  (fun _=>True) (fun _=>True)
  (by simp only [ob,tI]; rw [aw,if_neg (by omega)])
  (by simp only [of,tO]; rw [aw,if_neg (by omega)])
  (fun k hk=>by
    have c1: (k:Int) < (l.length:Int):=by omega
    have c2: (0:Int)≤(k:Int):=by omega
    obtain⟨b,v1,v2⟩:=aby l[k].op
    simp only [ob,tI,of,tO,aw,be,if_pos c1,if_pos c2,Int.toNat_natCast,List.getElem?_eq_getElem hk,Option.bind_some,v1,v2,yu,BU,bF hl hk,ma]
    cases t5 l[k].epoch 1 20 with
    | false=>exact .inr ⟨rfl,rfl,trivial⟩
    | true=>
      simp only [bA]
      by_cases h0:0 < k
      ·have c3: (k:Int) > 0:=by omega
       have c4: (0:Int)≤((k - 1:Nat):Int):=by omega
       have e2:l[k - 1]? =some l[k - 1] :=List.getElem?_eq_getElem (by omega)
       simp only [if_pos c3,xN h0 (by omega),if_pos c4,Int.toNat_natCast,e2,Option.bind_some]
       by_cases hlt:l[k].epoch < l[k - 1].epoch
       ·rw [if_pos hlt,if_pos (show l[k - 1].epoch > l[k].epoch from hlt)]
        cases b <;> exact .inr ⟨rfl,rfl,trivial⟩
       ·rw [if_neg hlt,if_neg (show ¬ l[k - 1].epoch > l[k].epoch from hlt)]
        cases b with
        | false=>exact .inr ⟨rfl,rfl,trivial⟩
        | true=>exact .inl ⟨rfl,rfl,trivial⟩
      ·have c3: ¬ (k:Int) > 0:=by omega
       simp only [if_neg c3]
       cases b with
       | false=>exact .inr ⟨rfl,rfl,trivial⟩
       | true=>exact .inl ⟨rfl,rfl,trivial⟩)
 unfold rr Bd qg Bw
 rcases bU with ⟨k1,k2,_⟩ | ⟨k,_,k1,k2,_⟩
 ·rw [show xS ((l,0,()),(),())=_ from k1,show ye ((l,l,(l.length:Int),0,()),(),())=_ from k2]
  simp only [Option.bind_some,Sum.elim_inr]
  by_cases h: (l.length:Int)≤16
  ·rw [decide_eq_true h]
   exact .inl ⟨rfl,rfl,by omega⟩
  ·rw [decide_eq_false h]
   exact .inr ⟨rfl,rfl⟩
 ·rw [show xS ((l,0,()),(),())=_ from k1,show ye ((l,l,(l.length:Int),0,()),(),())=_ from k2]
  exact .inr ⟨rfl,rfl⟩
theorem vb (a b:List Int) (ha:a.length≤maxLen):iM a b=some (decide (a=b),())∧iU a b=some (decide (a=b),()):=by
 unfold iM nM iU nV qh rh
 by_cases hlen:a.length=b.length
 ·have hbe: (!((a.length:Int)==(b.length:Int)))=false:=by simp [hlen]
  have bU:=rp (B1:=ef) (B2:=fD) a.length (fun k=>((a,b,(k:Int),()),(),())) (fun k=>((a,b,(a.length:Int),(k:Int),()),(),())) (.inr (((),()),(),())) (.inr (((),()),(),())) (fun _=> .inl ((false,()),(),())) (fun _=> .inl ((false,()),(),()))
   (fun k=>a[k]? =b[k]?) (fun k=>a[k]? ≠b[k]?)
   (by simp only [ef,iZ]; rw [aw,if_neg (by omega)])
   (by simp only [fD,la]; rw [aw,if_neg (by omega)])
   (fun k hk=>by
     have c1: (k:Int) < (a.length:Int):=by omega
     have c2: (0:Int)≤(k:Int):=by omega
     simp only [ef,iZ,fD,la,aw,be,if_pos c1,if_pos c2,Int.toNat_natCast,List.getElem?_eq_getElem hk,List.getElem?_eq_getElem (show k < b.length by omega),Option.bind_some,bF ha hk,ma,we]
     by_cases he:a[k] =b[k]'(by omega)
     ·simp only [if_pos he]
      exact .inl ⟨trivial,trivial,by rw [he]⟩
     ·simp only [if_neg he]
      exact .inr ⟨trivial,trivial,fun h=>he (Option.some.inj h)⟩)
  rw [hbe,bJ,bJ]
  rcases bU with ⟨k1,k2,k3⟩ | ⟨k,hk,k1,k2,k3⟩
  ·rw [show mB ((a,b,0,()),(),())=_ from k1,show pF ((a,b,(a.length:Int),0,()),(),())=_ from k2]
   have :a=b:=List.ext_getElem? fun k=>by
    rcases Nat.lt_or_ge k a.length with h | h
    ·exact k3 k h
    ·rw [List.getElem?_eq_none h,List.getElem?_eq_none (by omega)]
   rw [decide_eq_true this]
   exact⟨rfl,rfl⟩
  ·rw [show mB ((a,b,0,()),(),())=_ from k1,show pF ((a,b,(a.length:Int),0,()),(),())=_ from k2]
   have :a≠b:=fun h=>k3 (by rw [h])
   rw [decide_eq_false this]
   exact⟨rfl,rfl⟩
 ·have hbe: (!((a.length:Int)==(b.length:Int)))=true:=by
   simp only [Bool.not_eq_true',beq_eq_false_iff_ne,ne_eq]
   omega
  rw [hbe,bA,bA,decide_eq_false (fun h=>hlen (by rw [h]))]
  exact⟨rfl,rfl⟩
theorem qo (a b:ai) (ha:iA maxLen a):iO a b=some (decide (a=b),())∧gy a b=some (decide (a=b),()):=by
 unfold iO nN gy nW
 simp only [(vb a.replicas b.replicas ha.1).1,(vb a.replicas b.replicas ha.1).2,(vb a.witnesses b.witnesses ha.2).1,(vb a.witnesses b.witnesses ha.2).2,Option.bind_some,we,aw]
 obtain⟨a1,a2,a3,a4⟩:=a
 obtain⟨b1,b2,b3,b4⟩:=b
 simp only [ai.mk.injEq]
 by_cases h1:a1=b1 <;> by_cases h2:a2=b2 <;> by_cases h3:a3=b3 <;> by_cases h4:a4=b4 <;> simp [h1,h2,h3,h4]
theorem yw (l:List ar) (hl:l.length≤maxLen): ∃ n,p7 l=some (n,())∧lB l=some (n,()):=by
 unfold p7 vD lB sZ
 rcases Nat.eq_zero_or_pos l.length with h | h
 ·have : ((l.length:Int)==0)=true:=by simp [h]
  rw [this]
  exact⟨_,rfl,rfl⟩
 ·have : ((l.length:Int)==0)=false:=by
   simp only [beq_eq_false_iff_ne,ne_eq]
   omega
  rw [this,bJ,xN h hl,fm (by omega),Int.toNat_natCast,List.getElem?_eq_getElem (show l.length - 1 < l.length by omega)]
  exact⟨_,rfl,rfl⟩
theorem aac (c:ai) (x:Int) (h:iA maxLen c): ∃ n,mD c x=some (n,())∧um c x=some (n,())∧(n=0∨n=1∨n=2∨n=3):=by
 unfold mD tJ um yf
 obtain⟨b,v1,v2⟩:=uv c h
 simp only [v1,v2,Option.bind_some,(lg c.replicas x h.1).1,(lg c.replicas x h.1).2,(lg c.witnesses x h.2).1,(lg c.witnesses x h.2).2]
 cases b <;> cases (x==c.primary) <;> cases decide (x∈c.replicas) <;> cases decide (x∈c.witnesses) <;> exact⟨_,rfl,rfl,by decide⟩
end Go.Proofs.YtkcgfceffffmoaaGreat.En
