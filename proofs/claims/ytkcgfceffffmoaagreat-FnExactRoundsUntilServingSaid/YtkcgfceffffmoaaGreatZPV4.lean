/- Valid clusters: spec and impl tell the same. -/
import Derived.Test.YtkcgfceffffmoaaGreatZPV3
namespace Go.Proofs.YtkcgfceffffmoaaGreat.En
open Go
theorem MJ (l:List Int) (hl:l.length<=maxLen):NT (oW l) (uy l):=by
 have fC:=ug (B1:=n8) (B2:=fq) l.length (fun k=>((l,(k:Int),()),(),())) (fun k=>((l,(),(l.length:Int),(k:Int),()),(),())) (.inr ((l,(),()),(),())) (.inr (((),()),(),())) (fun _=> .inl ((l,false,()),(),())) (fun k=> .inl (((k:Int),()),(),()))
  (fun _=>True) (fun _=>True)
  (by simp only [n8,zl,Dw]; rw [ec,if_neg (by omega)])
  (by simp only [fq,i6,kJ]; rw [ec,if_neg (by omega)])
  (fun k hk=>by
    have c1: (k:Int) < (l.length:Int):=by omega
    have c2: (0:Int)<=(k:Int):=by omega
    simp only [n8,zl,Dw,fq,i6,kJ,ec,ez,if_pos c1,if_pos c2,aw,ai hk,ae,vD,Ck,vk,z6,eB hl hk];cases sP l[k] 0 3 with
    | false=>exact .inr ⟨rfl,rfl,trivial⟩
    | true=>exact .inl ⟨rfl,rfl,trivial⟩)
 unfold oW GN uy Ei gX kj iL lH;rcases fC with ⟨k1,k2,_⟩ | ⟨k,_,k1,k2,_⟩
 ·rw [show BQ ((l,0,()),(),())=_ from k1,show jm ((l,(),(l.length:Int),0,()),(),())=_ from k2];simp only [ae,aB];cases ((l.length:Int)==5) <;> exact⟨_,rfl,rfl⟩
 ·rw [show BQ ((l,0,()),(),())=_ from k1,show jm ((l,(),(l.length:Int),0,()),(),())=_ from k2];simp only [ae,aA];rw [decide_eq_true (by omega)];cases ((l.length:Int)==5) <;> exact⟨_,rfl,rfl⟩
theorem masterLog (m:ei) (h:JQ maxLen m): ∃ b,ib m=some (b,())/\mP m=some (b,()):=by
 obtain⟨hl,hc⟩:=h
 have fC:=ug (B1:=gv) (B2:=lB) m.configs.length (fun k=>(((),(k:Int),()),((m.configs,m.activated,()),()),())) (fun k=>(((),m.configs,(m.configs.length:Int),(k:Int),()),((m.configs,m.activated,()),()),())) (.inr (((),(),()),((m.configs,m.activated,()),()),())) (.inr (((),(),()),((m.configs,m.activated,()),()),())) (fun _=> .inl (((),false,()),((m.configs,m.activated,()),()),())) (fun _=> .inl (((),false,()),((m.configs,m.activated,()),()),()))
  (fun _=>True) (fun _=>True)
  (by simp only [gv,my,nH]; rw [ec,if_neg (by omega)])
  (by simp only [lB,tD,yt]; rw [ec,if_neg (by omega)])
  (fun k hk=>by
    have c1: (k:Int) < (m.configs.length:Int):=by omega
    have c2: (0:Int)<=(k:Int):=by omega
    obtain⟨b,v1,v2⟩:=Bs m.configs[k] (hc _ (bc hk));simp only [gv,my,nH,lB,tD,yt,ec,ez,if_pos c1,if_pos c2,aw,ai hk,ae,v1,v2,eB hl hk,iq];cases b with
    | false=>exact .inr ⟨rfl,rfl,trivial⟩
    | true=>
      cases (m.configs[k].epoch==((k+1:Nat):Int)) with
      | false=>exact .inr ⟨rfl,rfl,trivial⟩
      | true=>exact .inl ⟨rfl,rfl,trivial⟩)
 unfold ib wY mP Ci;rcases fC with ⟨k1,k2,_⟩ | ⟨k,_,k1,k2,_⟩
 ·rw [show oY (((),0,()),((m.configs,m.activated,()),()),())=_ from k1,show u4 (((),m.configs,(m.configs.length:Int),0,()),((m.configs,m.activated,()),()),())=_ from k2];simp only [ae,aB,vk,z6];exact⟨_,rfl,rfl⟩
 ·rw [show oY (((),0,()),((m.configs,m.activated,()),()),())=_ from k1,show u4 (((),m.configs,(m.configs.length:Int),0,()),((m.configs,m.activated,()),()),())=_ from k2];exact⟨_,rfl,rfl⟩
theorem Ni (x:ir):NT (qJ x) (qU x):=by
 unfold qJ Jc qU Gk;simp only [vk,z6,ae];cases ((x.epoch==0)&&((x.holder==0)&&((x.ends==0)&&true))) <;> cases sP x.epoch 1 20 <;> cases sP x.holder 0 4 <;> exact⟨_,rfl,rfl⟩
theorem Ds (l:List ey) (hl:l.length<=maxLen):NT (kB l) (mA l):=by
 have fC:=ug (B1:=mJ) (B2:=fb) l.length (fun k=>((l,(k:Int),()),(),())) (fun k=>((l,(),(l.length:Int),(k:Int),()),(),())) (.inr ((l,(),()),(),())) (.inr (((),()),(),())) (fun _=> .inl ((l,false,()),(),())) (fun k=> .inl (((k:Int),()),(),()))
  (fun _=>True) (fun _=>True)
  (by simp only [mJ,wZ,BT]; rw [ec,if_neg (by omega)])
  (by simp only [fb,iu,jQ]; rw [ec,if_neg (by omega)])
  (fun k hk=>by
    have c1: (k:Int) < (l.length:Int):=by omega
    have c2: (0:Int)<=(k:Int):=by omega
    simp only [mJ,wZ,BT,fb,iu,jQ,ec,ez,if_pos c1,if_pos c2,aw,ai hk,ae,tF,Ao,vk,z6,eB hl hk];cases sP l[k].rack 0 9 with
    | false=>exact .inr ⟨rfl,rfl,trivial⟩
    | true=>
      cases sP l[k].capacity 0 9 with
      | false=>exact .inr ⟨rfl,rfl,trivial⟩
      | true=>
        cases sP l[k].load 0 99 with
        | false=>exact .inr ⟨rfl,rfl,trivial⟩
        | true=>exact .inl ⟨rfl,rfl,trivial⟩)
 unfold kB Fa mA Cp gn jA gY km;rcases fC with ⟨k1,k2,_⟩ | ⟨k,_,k1,k2,_⟩
 ·rw [show zt ((l,0,()),(),())=_ from k1,show iG ((l,(),(l.length:Int),0,()),(),())=_ from k2];simp only [ae,aB];cases ((l.length:Int)==5) <;> exact⟨_,rfl,rfl⟩
 ·rw [show zt ((l,0,()),(),())=_ from k1,show iG ((l,(),(l.length:Int),0,()),(),())=_ from k2];simp only [ae,aA];rw [decide_eq_true (by omega)];cases ((l.length:Int)==5) <;> exact⟨_,rfl,rfl⟩
theorem aql (x:Op):NT (w4 x) (t8 x):=by
 unfold w4 Fb t8 Fn;simp only [vk,z6,ae];cases sP x.client 0 2 <;> cases sP x.seq 1 99 <;> cases sP x.object 0 2 <;> cases sP x.value 0 9 <;> cases (x.kind==1) <;> cases (x.kind==2) <;> cases (x.old==0) <;> exact⟨_,rfl,rfl⟩
theorem KG (l:List ed) (hl:l.length<=maxLen): (sI l=some (true,())/\sM l=some (true,())/\l.length<=16)\/(sI l=some (false,())/\sM l=some (false,())):=by
 have fC:=ug (B1:=vu) (B2:=vE) l.length (fun k=>((l,(k:Int),()),(),())) (fun k=>((l,l,(l.length:Int),(k:Int),()),(),())) (.inr ((l,(),()),(),())) (.inr ((l,(),()),(),())) (fun _=> .inl ((l,false,()),(),())) (fun _=> .inl ((l,false,()),(),()))
  (fun _=>True) (fun _=>True)
  (by simp only [vu,F8,Jd]; rw [ec,if_neg (by omega)])
  (by simp only [vE,Gl,Jw]; rw [ec,if_neg (by omega)])
  (fun k hk=>by
    have c1: (k:Int) < (l.length:Int):=by omega
    have c2: (0:Int)<=(k:Int):=by omega
    obtain⟨b,v1,v2⟩:=aql l[k].op;simp only [vu,F8,Jd,vE,Gl,Jw,ec,ez,if_pos c1,if_pos c2,aw,ai hk,ae,v1,v2,vk,z6,eB hl hk,iq];cases sP l[k].epoch 1 20 with
    | false=>exact .inr ⟨rfl,rfl,trivial⟩
    | true=>
      simp only [ew];by_cases h0:0 < k
      ·have c3: (k:Int) > 0:=by omega
       have c4: (0:Int)<=((k - 1:Nat):Int):=by omega
       have e2:l[k - 1]? =some l[k - 1] :=ai (by omega);simp only [if_pos c3,vm h0 (by omega),if_pos c4,aw,e2,ae];by_cases hlt:l[k].epoch < l[k - 1].epoch
       ·rw [if_pos hlt,if_pos (show l[k - 1].epoch > l[k].epoch from hlt)];cases b <;> exact .inr ⟨rfl,rfl,trivial⟩
       ·rw [if_neg hlt,if_neg (show ¬ l[k - 1].epoch > l[k].epoch from hlt)];cases b with
        | false=>exact .inr ⟨rfl,rfl,trivial⟩
        | true=>exact .inl ⟨rfl,rfl,trivial⟩
      ·have c3: ¬ (k:Int) > 0:=by omega
       simp only [if_neg c3];cases b with
       | false=>exact .inr ⟨rfl,rfl,trivial⟩
       | true=>exact .inl ⟨rfl,rfl,trivial⟩)
 unfold sI QX sM RR;rcases fC with ⟨k1,k2,_⟩ | ⟨k,_,k1,k2,_⟩
 ·rw [show Ic ((l,0,()),(),())=_ from k1,show Iy ((l,l,(l.length:Int),0,()),(),())=_ from k2];simp only [ae,aB];by_cases h: (l.length:Int)<=16
  ·rw [decide_eq_true h];exact .inl ⟨rfl,rfl,by omega⟩
  ·rw [decide_eq_false h];exact .inr ⟨rfl,rfl⟩
 ·rw [show Ic ((l,0,()),(),())=_ from k1,show Iy ((l,l,(l.length:Int),0,()),(),())=_ from k2];exact .inr ⟨rfl,rfl⟩
theorem FB (a b:List Int) (ha:a.length<=maxLen):og a b=some (decide (a=b),())/\ow a b=some (decide (a=b),()):=by
 unfold og Ab ow Aq yz DN;by_cases hlen:a.length=b.length
 ·have hbe: (!((a.length:Int)==(b.length:Int)))=false:=by simp [hlen]
  have fC:=ug (B1:=kt) (B2:=l8) a.length (fun k=>((a,b,(k:Int),()),(),())) (fun k=>((a,b,(a.length:Int),(k:Int),()),(),())) (.inr (((),()),(),())) (.inr (((),()),(),())) (fun _=> .inl ((false,()),(),())) (fun _=> .inl ((false,()),(),()))
   (fun k=>a[k]? =b[k]?) (fun k=>a[k]? ≠b[k]?)
   (by simp only [kt,rj,wd]; rw [ec,if_neg (by omega)])
   (by simp only [l8,u6,Ap]; rw [ec,if_neg (by omega)])
   (fun k hk=>by
     have c1: (k:Int) < (a.length:Int):=by omega
     have c2: (0:Int)<=(k:Int):=by omega
     simp only [kt,rj,wd,l8,u6,Ap,ec,ez,if_pos c1,if_pos c2,aw,ai hk,ai (show k < b.length by omega),ae,eB ha hk,iq,sx];by_cases he:a[k] =b[k]'(by omega)
     ·simp only [if_pos he];exact .inl ⟨trivial,trivial,by rw [he]⟩
     ·simp only [if_neg he];exact .inr ⟨trivial,trivial,fun h=>he (Option.some.inj h)⟩)
  rw [hbe,fA,fA];rcases fC with ⟨k1,k2,k3⟩ | ⟨k,hk,k1,k2,k3⟩
  ·rw [show s5 ((a,b,0,()),(),())=_ from k1,show xA ((a,b,(a.length:Int),0,()),(),())=_ from k2]
   have :a=b:=bS fun k=>by
    rcases cg k a.length with h | h
    ·exact k3 k h
    ·rw [bQ h,bQ (by omega)]
   rw [decide_eq_true this];exact⟨rfl,rfl⟩
  ·rw [show s5 ((a,b,0,()),(),())=_ from k1,show xA ((a,b,(a.length:Int),0,()),(),())=_ from k2];have :a≠b:=fun h=>k3 (by rw [h]);rw [decide_eq_false this];exact⟨rfl,rfl⟩
 ·have hbe: (!((a.length:Int)==(b.length:Int)))=true:=by
   simp only [ca,beq_eq_false_iff_ne,ne_eq];omega
  rw [hbe,ew,ew,decide_eq_false (fun h=>hlen (by rw [h]))];exact⟨rfl,rfl⟩
theorem rT (a b:dW) (ha:nm maxLen a):m8 a b=some (decide (a=b),())/\l9 a b=some (decide (a=b),()):=by
 unfold m8 Ad l9 Ar;simp only [(FB a.replicas b.replicas ha.1).1,(FB a.replicas b.replicas ha.1).2,(FB a.witnesses b.witnesses ha.2).1,(FB a.witnesses b.witnesses ha.2).2,ae,sx,ec];obtain⟨a1,a2,a3,a4⟩:=a;obtain⟨b1,b2,b3,b4⟩:=b;simp only [dW.mk.injEq];by_cases h1:a1=b1 <;> by_cases h2:a2=b2 <;> by_cases h3:a3=b3 <;> by_cases h4:a4=b4 <;> simp [h1,h2,h3,h4]
theorem FQ (l:List ed) (hl:l.length<=maxLen): ∃ n,vv l=some (n,())/\rE l=some (n,()):=by
 unfold vv Jf rE Fo;rcases bn l.length with h | h
 ·have : ((l.length:Int)==0)=true:=by simp [h]
  rw [this];exact⟨_,rfl,rfl⟩
 ·have : ((l.length:Int)==0)=false:=by
   simp only [beq_eq_false_iff_ne,ne_eq];omega
  rw [this,fA,vm h hl,jT (by omega),aw,ai (show l.length - 1 < l.length by omega)];exact⟨_,rfl,rfl⟩
theorem akF (c:dW) (x:Int) (h:nm maxLen c): ∃ n,rk c x=some (n,())/\Cr c x=some (n,())/\(n=0\/n=1\/n=2\/n=3):=by
 unfold rk FN Cr Ng;obtain⟨b,v1,v2⟩:=Bs c h;simp only [v1,v2,ae,(kP c.replicas x h.1).1,(kP c.replicas x h.1).2,(kP c.witnesses x h.2).1,(kP c.witnesses x h.2).2];cases b <;> cases (x==c.primary) <;> cases decide (x∈c.replicas) <;> cases decide (x∈c.witnesses) <;> exact⟨_,rfl,rfl,by decide⟩
end Go.Proofs.YtkcgfceffffmoaaGreat.En
