/- Valid clusters: spec and impl tell the same. -/
import Derived.Test.YtkcgfceffffmoaaGreatZPV3
namespace Go.Proofs.YtkcgfceffffmoaaGreat.En
open Go
theorem Pk (l:List Int) (hl:l.length≤maxLen):ET (nl l) (pg l):=by
 have ce:=rd (B1:=gJ) (B2:=be) l.length (fun k=>((l,(k:Int),()),(),())) (fun k=>((l,(),(l.length:Int),(k:Int),()),(),())) (.inr ((l,(),()),(),())) (.inr (((),()),(),())) (fun _=> .inl ((l,false,()),(),())) (fun k=> .inl (((k:Int),()),(),()))
  (fun _=>True) (fun _=>True)
  (by simp only [gJ,me]; rw [ay,if_neg (by omega)])
  (by simp only [be,cq]; rw [ay,if_neg (by omega)])
  (fun k hk=>by
    have c1: (k:Int) < (l.length:Int):=by omega
    have c2: (0:Int)≤(k:Int):=by omega
    simp only [gJ,me,be,cq,ay,bE,if_pos c1,if_pos c2,Int.toNat_natCast,List.getElem?_eq_getElem hk,Option.bind_some,mi,nv,CZ,Et,bO hl hk]
    cases yW l[k] 0 3 with
    | false=>exact .inr ⟨rfl,rfl,trivial⟩
    | true=>exact .inl ⟨rfl,rfl,trivial⟩)
 unfold nl ry pg rD cr cR cP dn
 rcases ce with ⟨k1,k2,_⟩ | ⟨k,_,k1,k2,_⟩
 ·rw [show p6 ((l,0,()),(),())=_ from k1,show de ((l,(),(l.length:Int),0,()),(),())=_ from k2]
  simp only [Option.bind_some,Sum.elim_inr]
  cases ((l.length:Int)==5) <;> exact⟨_,rfl,rfl⟩
 ·rw [show p6 ((l,0,()),(),())=_ from k1,show de ((l,(),(l.length:Int),0,()),(),())=_ from k2]
  simp only [Option.bind_some,Sum.elim_inl]
  rw [decide_eq_true (by omega)]
  cases ((l.length:Int)==5) <;> exact⟨_,rfl,rfl⟩
theorem masterLog (m:an) (h:I2 maxLen m): ∃ b,gK m=some (b,())∧iJ m=some (b,()):=by
 obtain⟨hl,hc⟩:=h
 have ce:=rd (B1:=eh) (B2:=ej) m.configs.length (fun k=>(((),(k:Int),()),((m.configs,m.activated,()),()),())) (fun k=>(((),m.configs,(m.configs.length:Int),(k:Int),()),((m.configs,m.activated,()),()),())) (.inr (((),(),()),((m.configs,m.activated,()),()),())) (.inr (((),(),()),((m.configs,m.activated,()),()),())) (fun _=> .inl (((),false,()),((m.configs,m.activated,()),()),())) (fun _=> .inl (((),false,()),((m.configs,m.activated,()),()),()))
  (fun _=>True) (fun _=>True)
  (by simp only [eh,iT]; rw [ay,if_neg (by omega)])
  (by simp only [ej,iW]; rw [ay,if_neg (by omega)])
  (fun k hk=>by
    have c1: (k:Int) < (m.configs.length:Int):=by omega
    have c2: (0:Int)≤(k:Int):=by omega
    obtain⟨b,v1,v2⟩:=Fn m.configs[k] (hc _ (List.getElem_mem hk))
    simp only [eh,iT,ej,iW,ay,bE,if_pos c1,if_pos c2,Int.toNat_natCast,List.getElem?_eq_getElem hk,Option.bind_some,v1,v2,bO hl hk,qE]
    cases b with
    | false=>exact .inr ⟨rfl,rfl,trivial⟩
    | true=>
      cases (m.configs[k].epoch==((k+1:Nat):Int)) with
      | false=>exact .inr ⟨rfl,rfl,trivial⟩
      | true=>exact .inl ⟨rfl,rfl,trivial⟩)
 unfold gK np iJ nD
 rcases ce with ⟨k1,k2,_⟩ | ⟨k,_,k1,k2,_⟩
 ·rw [show lQ (((),0,()),((m.configs,m.activated,()),()),())=_ from k1,show lX (((),m.configs,(m.configs.length:Int),0,()),((m.configs,m.activated,()),()),())=_ from k2]
  simp only [Option.bind_some,Sum.elim_inr,CZ,Et]
  exact⟨_,rfl,rfl⟩
 ·rw [show lQ (((),0,()),((m.configs,m.activated,()),()),())=_ from k1,show lX (((),m.configs,(m.configs.length:Int),0,()),((m.configs,m.activated,()),()),())=_ from k2]
  exact⟨_,rfl,rfl⟩
theorem Ry (x:jO):ET (pA x) (qZ x):=by
 unfold pA sX qZ s9
 simp only [CZ,Et,Option.bind_some]
 cases ((x.epoch==0)&&((x.holder==0)&&((x.ends==0)&&true))) <;> cases yW x.epoch 1 20 <;> cases yW x.holder 0 4 <;> exact⟨_,rfl,rfl⟩
theorem K6 (l:List aU) (hl:l.length≤maxLen):ET (lq l) (nF l):=by
 have ce:=rd (B1:=fr) (B2:=aY) l.length (fun k=>((l,(k:Int),()),(),())) (fun k=>((l,(),(l.length:Int),(k:Int),()),(),())) (.inr ((l,(),()),(),())) (.inr (((),()),(),())) (fun _=> .inl ((l,false,()),(),())) (fun k=> .inl (((k:Int),()),(),()))
  (fun _=>True) (fun _=>True)
  (by simp only [fr,kN]; rw [ay,if_neg (by omega)])
  (by simp only [aY,bX]; rw [ay,if_neg (by omega)])
  (fun k hk=>by
    have c1: (k:Int) < (l.length:Int):=by omega
    have c2: (0:Int)≤(k:Int):=by omega
    simp only [fr,kN,aY,bX,ay,bE,if_pos c1,if_pos c2,Int.toNat_natCast,List.getElem?_eq_getElem hk,Option.bind_some,lb,lY,CZ,Et,bO hl hk]
    cases yW l[k].rack 0 9 with
    | false=>exact .inr ⟨rfl,rfl,trivial⟩
    | true=>
      cases yW l[k].capacity 0 9 with
      | false=>exact .inr ⟨rfl,rfl,trivial⟩
      | true=>
        cases yW l[k].load 0 99 with
        | false=>exact .inr ⟨rfl,rfl,trivial⟩
        | true=>exact .inl ⟨rfl,rfl,trivial⟩)
 unfold lq p8 nF qk bZ cB cw cT
 rcases ce with ⟨k1,k2,_⟩ | ⟨k,_,k1,k2,_⟩
 ·rw [show oH ((l,0,()),(),())=_ from k1,show cL ((l,(),(l.length:Int),0,()),(),())=_ from k2]
  simp only [Option.bind_some,Sum.elim_inr]
  cases ((l.length:Int)==5) <;> exact⟨_,rfl,rfl⟩
 ·rw [show oH ((l,0,()),(),())=_ from k1,show cL ((l,(),(l.length:Int),0,()),(),())=_ from k2]
  simp only [Option.bind_some,Sum.elim_inl]
  rw [decide_eq_true (by omega)]
  cases ((l.length:Int)==5) <;> exact⟨_,rfl,rfl⟩
theorem V4 (x:Op):ET (nq x) (lw x):=by
 unfold nq p9 lw qm
 simp only [CZ,Et,Option.bind_some]
 cases yW x.client 0 2 <;> cases yW x.seq 1 99 <;> cases yW x.object 0 2 <;> cases yW x.value 0 9 <;> cases (x.kind==1) <;> cases (x.kind==2) <;> cases (x.old==0) <;> exact⟨_,rfl,rfl⟩
theorem Wq (l:List az) (hl:l.length≤maxLen): (sw l=some (true,())∧rh l=some (true,())∧l.length≤16)∨(sw l=some (false,())∧rh l=some (false,())):=by
 have ce:=rd (B1:=mg) (B2:=mm) l.length (fun k=>((l,(k:Int),()),(),())) (fun k=>((l,l,(l.length:Int),(k:Int),()),(),())) (.inr ((l,(),()),(),())) (.inr ((l,(),()),(),())) (fun _=> .inl ((l,false,()),(),())) (fun _=> .inl ((l,false,()),(),()))
  (fun _=>True) (fun _=>True)
  (by simp only [mg,qW]; rw [ay,if_neg (by omega)])
  (by simp only [mm,q8]; rw [ay,if_neg (by omega)])
  (fun k hk=>by
    have c1: (k:Int) < (l.length:Int):=by omega
    have c2: (0:Int)≤(k:Int):=by omega
    obtain⟨b,v1,v2⟩:=V4 l[k].op
    simp only [mg,qW,mm,q8,ay,bE,if_pos c1,if_pos c2,Int.toNat_natCast,List.getElem?_eq_getElem hk,Option.bind_some,v1,v2,CZ,Et,bO hl hk,qE]
    cases yW l[k].epoch 1 20 with
    | false=>exact .inr ⟨rfl,rfl,trivial⟩
    | true=>
      simp only [eY]
      by_cases h0:0 < k
      ·have c3: (k:Int) > 0:=by omega
       have c4: (0:Int)≤((k - 1:Nat):Int):=by omega
       have e2:l[k - 1]? =some l[k - 1] :=List.getElem?_eq_getElem (by omega)
       simp only [if_pos c3,uU h0 (by omega),if_pos c4,Int.toNat_natCast,e2,Option.bind_some]
       by_cases hlt:l[k].epoch < l[k - 1].epoch
       ·rw [if_pos hlt,if_pos (show l[k - 1].epoch > l[k].epoch from hlt)]
        cases b <;> exact .inr ⟨rfl,rfl,trivial⟩
       ·rw [if_neg hlt,if_neg (show ¬ l[k - 1].epoch > l[k].epoch from hlt)]
        cases b with
        | false=>exact .inr ⟨rfl,rfl,trivial⟩
        | true=>exact .inl ⟨rfl,rfl,trivial⟩
      ·have c3: ¬ (k:Int) > 0:=by omega
       simp only [if_neg c3]
       cases b with
       | false=>exact .inr ⟨rfl,rfl,trivial⟩
       | true=>exact .inl ⟨rfl,rfl,trivial⟩)
 unfold sw xF rh xU
 rcases ce with ⟨k1,k2,_⟩ | ⟨k,_,k1,k2,_⟩
 ·rw [show uZ ((l,0,()),(),())=_ from k1,show vg ((l,l,(l.length:Int),0,()),(),())=_ from k2]
  simp only [Option.bind_some,Sum.elim_inr]
  by_cases h: (l.length:Int)≤16
  ·rw [decide_eq_true h]
   exact .inl ⟨rfl,rfl,by omega⟩
  ·rw [decide_eq_false h]
   exact .inr ⟨rfl,rfl⟩
 ·rw [show uZ ((l,0,()),(),())=_ from k1,show vg ((l,l,(l.length:Int),0,()),(),())=_ from k2]
  exact .inr ⟨rfl,rfl⟩
theorem sE (a b:List Int) (ha:a.length≤maxLen):gR a b=some (decide (a=b),())∧gW a b=some (decide (a=b),()):=by
 unfold gR lR gW lZ od oZ
 by_cases hlen:a.length=b.length
 ·have hbe: (!((a.length:Int)==(b.length:Int)))=false:=by simp [hlen]
  have ce:=rd (B1:=dG) (B2:=eO) a.length (fun k=>((a,b,(k:Int),()),(),())) (fun k=>((a,b,(a.length:Int),(k:Int),()),(),())) (.inr (((),()),(),())) (.inr (((),()),(),())) (fun _=> .inl ((false,()),(),())) (fun _=> .inl ((false,()),(),()))
   (fun k=>a[k]? =b[k]?) (fun k=>a[k]? ≠b[k]?)
   (by simp only [dG,hM]; rw [ay,if_neg (by omega)])
   (by simp only [eO,jJ]; rw [ay,if_neg (by omega)])
   (fun k hk=>by
     have c1: (k:Int) < (a.length:Int):=by omega
     have c2: (0:Int)≤(k:Int):=by omega
     simp only [dG,hM,eO,jJ,ay,bE,if_pos c1,if_pos c2,Int.toNat_natCast,List.getElem?_eq_getElem hk,List.getElem?_eq_getElem (show k < b.length by omega),Option.bind_some,bO ha hk,qE,I5]
     by_cases he:a[k] =b[k]'(by omega)
     ·simp only [if_pos he]
      exact .inl ⟨trivial,trivial,by rw [he]⟩
     ·simp only [if_neg he]
      exact .inr ⟨trivial,trivial,fun h=>he (Option.some.inj h)⟩)
  rw [hbe,cW,cW]
  rcases ce with ⟨k1,k2,k3⟩ | ⟨k,hk,k1,k2,k3⟩
  ·rw [show kQ ((a,b,0,()),(),())=_ from k1,show nH ((a,b,(a.length:Int),0,()),(),())=_ from k2]
   have :a=b:=List.ext_getElem? fun k=>by
    rcases Nat.lt_or_ge k a.length with h | h
    ·exact k3 k h
    ·rw [List.getElem?_eq_none h,List.getElem?_eq_none (by omega)]
   rw [decide_eq_true this]
   exact⟨rfl,rfl⟩
  ·rw [show kQ ((a,b,0,()),(),())=_ from k1,show nH ((a,b,(a.length:Int),0,()),(),())=_ from k2]
   have :a≠b:=fun h=>k3 (by rw [h])
   rw [decide_eq_false this]
   exact⟨rfl,rfl⟩
 ·have hbe: (!((a.length:Int)==(b.length:Int)))=true:=by
   simp only [Bool.not_eq_true',beq_eq_false_iff_ne,ne_eq]
   omega
  rw [hbe,eY,eY,decide_eq_false (fun h=>hlen (by rw [h]))]
  exact⟨rfl,rfl⟩
theorem iw (a b:ai) (ha:ll maxLen a):fA a b=some (decide (a=b),())∧ed a b=some (decide (a=b),()):=by
 unfold fA lS ed l4
 simp only [(sE a.replicas b.replicas ha.1).1,(sE a.replicas b.replicas ha.1).2,(sE a.witnesses b.witnesses ha.2).1,(sE a.witnesses b.witnesses ha.2).2,Option.bind_some,I5,ay]
 obtain⟨a1,a2,a3,a4⟩:=a
 obtain⟨b1,b2,b3,b4⟩:=b
 simp only [ai.mk.injEq]
 by_cases h1:a1=b1 <;> by_cases h2:a2=b2 <;> by_cases h3:a3=b3 <;> by_cases h4:a4=b4 <;> simp [h1,h2,h3,h4]
theorem Eu (l:List az) (hl:l.length≤maxLen): ∃ n,pB l=some (n,())∧lx l=some (n,()):=by
 unfold pB s3 lx qo
 rcases Nat.eq_zero_or_pos l.length with h | h
 ·have : ((l.length:Int)==0)=true:=by simp [h]
  rw [this]
  exact⟨_,rfl,rfl⟩
 ·have : ((l.length:Int)==0)=false:=by
   simp only [beq_eq_false_iff_ne,ne_eq]
   omega
  rw [this,cW,uU h hl,ir (by omega),Int.toNat_natCast,List.getElem?_eq_getElem (show l.length - 1 < l.length by omega)]
  exact⟨_,rfl,rfl⟩
theorem Xf (c:ai) (x:Int) (h:ll maxLen c): ∃ n,s4 c x=some (n,())∧ta c x=some (n,())∧(n=0∨n=1∨n=2∨n=3):=by
 unfold s4 u2 ta vh
 obtain⟨b,v1,v2⟩:=Fn c h
 simp only [v1,v2,Option.bind_some,(pF c.replicas x h.1).1,(pF c.replicas x h.1).2,(pF c.witnesses x h.2).1,(pF c.witnesses x h.2).2]
 cases b <;> cases (x==c.primary) <;> cases decide (x∈c.replicas) <;> cases decide (x∈c.witnesses) <;> exact⟨_,rfl,rfl,by decide⟩
end Go.Proofs.YtkcgfceffffmoaaGreat.En
