/- Lists of servers: common ones, and those without others. -/
import Derived.Test.YtadpelkpdaohnaaGreatDoorZPV1
namespace Go.Proofs.YtadpelkpdaohnaaGreatDoor.En
open Go
theorem jG {n:Nat} (h:n<=1048576):n*8<=2 ^ 40:=by
 have : (2:Nat) ^ 40=1099511627776:=by decide
 omega
theorem Dw (l:List Int) (x:Int) (hl:l.length<=1000) (h: ∀y∈l,y<x):lg l x=some (l++ [x],()):=by
 have hm:l.length<=maxLen:=by unfold maxLen; omega
 have fG:=oc (B:=jC) l (fun k (_:Unit)=>((l,x,(k:Int),()),(),())) (fun _ _=>True) (fun k r _=>((l,x,((k+r.length:Nat):Int),()),(),()))
  (fun b hb=>by simp only[jC];rw[dI,if_neg (by omega)];rfl)
  (fun k b y hy hb=>by
    have hk:=pt hy;have c1: (k:Int)< (l.length:Int):=by omega
    have c2: (0:Int)<=(k:Int):=by omega
    refine .inl ⟨(),?_,trivial,?_⟩
    ·simp only[jC,dI,ea,if_pos c1,if_pos c2,aA,hy,af,if_pos (h y (aq hy)),dT hm hk]
    ·rw[aY,show k+((l.drop (k+1)).length+1)=k+1+(l.drop (k+1)).length by omega])
  0 () (ba _) trivial
 unfold lg;rw[show sR ((l,x,0,()),(),())=_ from fG];simp only[af,bT,aV];have c0: ¬ ((l.length:Int)< (l.length:Int)):=by omega
 have d1: (0:Int)<=0/\(0:Int)<=(l.length:Int)/\(l.length:Int)<=(l.length:Int):=by omega
 have d2: (0:Int)<=(l.length:Int)/\(l.length:Int)<=(l.length:Int)/\(l.length:Int)<=(l.length:Int):=by omega
 simp only[dI,if_neg c0,ea,if_pos d1,if_pos d2,aA,dz,bT,df,db,dg,bw,bH,bB];rw[if_pos (jG (by omega)),if_pos (jG (by simp; omega))];exact if_pos (jG (by simp; omega))
theorem Dx (a b:List Int) (ha:Br a) (hb:b.length<=maxLen):iR a b=some (a.filter fun x=>decide (x∈b),()):=by
 have hl:=ha.len;have hm:a.length<=maxLen:=by unfold maxLen; omega
 have hp:=ha.pair
 have fG:=oc (B:=fR) a (fun k (out:List Int)=>((a,b,(),(k:Int),()),(),(out,()))) (fun k out=>out=(a.take k).filter fun x=>decide (x∈b)) (fun k r out=>(((),()),(),(out++r.filter fun x=>decide (x∈b),())))
  (fun out hb=>by simp only[fR];rw[dI,if_neg (by omega)];simp)
  (fun k out x hx hout=>by
    have hk:=pt hx;have c1: (k:Int)< (a.length:Int):=by omega
    have c2: (0:Int)<=(k:Int):=by omega
    have hxe:a[k] =x:=by rw[ah hk] at hx; exact Option.some.inj hx
    simp only[fR,dI,ea,if_pos c1,if_pos c2,aA,hx,af,(jF b x hb).1,dT hm hk];by_cases hin:x∈b
    ·have hlt: ∀y∈out,y<x:=by
      intro y hy;rw[hout,cM] at hy;obtain⟨i,hi,he⟩:=aM hy.1;have hi':i<k:=by simp at hi; omega
      rw[cQ] at he;rw[<-he,<-hxe];exact bR.1 hp i k (by omega) hk hi'
     have hol:out.length<=1000:=by rw[hout];have:=List.length_filter_le (fun x=>decide (x∈b)) (a.take k);simp at this;omega
     simp only[if_pos hin,Dw out x hol hlt,af];refine .inl ⟨out++ [x],rfl,?_,?_⟩
     ·rw[hout,bM,hx,cx];simp[hin]
     ·simp[hin]
    ·simp only[if_neg hin];refine .inl ⟨out,rfl,?_,?_⟩
     ·rw[hout,bM,hx,cx];simp[hin]
     ·simp[hin])
  0 [] (ba _) rfl
 unfold iR;rw[show nx ((a,b,(),0,()),(),([],()))=_ from fG];rfl
theorem vT {n:Nat} (hn:n<=5): ∃m,pF (IntKind.wrap .u64 (n:Int))=some (m,()):=by
 have :n=0\/n=1\/n=2\/n=3\/n=4\/n=5:=by omega
 rcases this with rfl|rfl|rfl|rfl|rfl|rfl
 ·exact⟨0,by kernel_rfl⟩
 ·exact⟨1,by kernel_rfl⟩
 ·exact⟨2,by kernel_rfl⟩
 ·exact⟨2,by kernel_rfl⟩
 ·exact⟨3,by kernel_rfl⟩
 ·exact⟨3,by kernel_rfl⟩
theorem EJ (l:List Int) (ha:Br l):ef l 0 (l.length:Int)=some (l,()):=by
 have hl:=ha.len;have hm:l.length<=maxLen:=by unfold maxLen; omega
 have inner: ∀k (hk:k<l.length),0<k->eS (((),0,(l.length:Int),(k:Int),(k:Int),()),(),(l,()))=some (((),0,(l.length:Int),(k:Int),()),(),(l,())):=by
  intro k hk h0;refine fP ?_;have c1: (k:Int)>0:=by omega
  have c2: (0:Int)<=(k:Int)/\(k:Int)< (l.length:Int):=by omega
  have c3: (0:Int)<=((k-1:Nat):Int)/\((k-1:Nat):Int)< (l.length:Int):=by omega
  have e1:l[k]? =some l[k] :=ah hk;have e2:l[k-1]? =some l[k-1] :=ah (by omega);have hlt:=(ha k hk).2 h0
  have less:iL l[k] l[k-1] =some (false,()):=by unfold iL iZ;simp only[beq_self_eq_true,bq,af,eu];rw[decide_eq_false (by omega)]
  simp only[dY,dI,ea,if_pos c1,if_pos c2,jA h0 (by omega),if_pos c3,aA,e1,e2,af,less,eu]
 have outer:=nv (B:=dN) (fun s=> ∃k:Nat,0<k/\s=(((),0,(l.length:Int),(k:Int),()),(),(l,()))) (fun s=>l.length-s.1.2.2.2.1.toNat) (fun e=>e=((()),(),(l,())))
  (fun s hs=>by
    obtain⟨k,h0,rfl⟩:=hs;by_cases hk:k<l.length
    ·have c1: (k:Int)< (l.length:Int):=by omega
     refine .inl ⟨(((),0,(l.length:Int),((k+1:Nat):Int),()),(),(l,())),?_,⟨k+1,by omega,rfl⟩,?_⟩
     ·simp only[dN,dI,if_pos c1,inner k hk h0,af,dT hm hk]
     ·simp only[aA];omega
    ·have c1: ¬ (k:Int)< (l.length:Int):=by omega
     exact .inr ⟨_,by simp only[dN,dI,if_neg c1],rfl⟩)
  (s:=(((),0,(l.length:Int),((1:Nat):Int),()),(),(l,()))) ⟨1,by omega,rfl⟩
 obtain⟨e,h1,rfl⟩:=outer;unfold ef;rw[show IntKind.wrap .i64 ((0:Int)+1)=((1:Nat):Int) from by rw[fY (by omega) (by omega)]; rfl,show eT (((),0,(l.length:Int),((1:Nat):Int),()),(),(l,()))=_ from h1];rfl
theorem GF (l:List Int) (ha:Br l):gt l=some (l,()):=by
 have hl:=ha.len;obtain⟨m,hm⟩:=vT hl
 have hp:eB l 0 (l.length:Int) m=some (l,()):=by
  unfold eB
  have :gr (((),0,(l.length:Int),m,true,true,()),(),(l,()))=some ((()),(),(l,())):=by refine fP ?_;simp only[eX];rw[fY (by omega) (by omega),dI,if_pos (by omega),EJ l ha,af,eP rfl]
  rw[this];rfl
 unfold gt;simp only[hm,af,hp];exact eP trivial _ _
theorem Bs (l:List Int) (ha:Br l):fv l=some (l,()):=by
 have hl:=ha.len;have hm:l.length<=maxLen:=by unfold maxLen; omega
 unfold fv;rw[dI];split
 ·rfl
 ·have fG:=nv (B:=ev) (fun s=> ∃k:Nat,0<k/\k<=l.length/\s=(((),(k:Int),()),(),(l,()))) (fun s=>l.length-s.1.2.1.toNat) (fun e=>e= .inr (((),(),()),(),(l,())))
   (fun s hs=>by
     obtain⟨k,h0,hkl,rfl⟩:=hs;by_cases hk:k<l.length
     ·have c1: (k:Int)< (l.length:Int):=by omega
      have c2: (0:Int)<=(k:Int)/\(k:Int)< (l.length:Int):=by omega
      have c3: (0:Int)<=((k-1:Nat):Int)/\((k-1:Nat):Int)< (l.length:Int):=by omega
      have e1:l[k]? =some l[k] :=ah hk;have e2:l[k-1]? =some l[k-1] :=ah (by omega);have hlt:=(ha k hk).2 h0;refine .inl ⟨(((),((k+1:Nat):Int),()),(),(l,())),?_,⟨k+1,by omega,by omega,rfl⟩,?_⟩
      ·simp only[ev,dI,ea,if_pos c1,if_pos c2,jA h0 (by omega),if_pos c3,aA,e1,e2,af,kI,dT hm hk];rw[if_neg (by omega)]
      ·simp only[aA];omega
     ·have c1: ¬ (k:Int)< (l.length:Int):=by omega
      exact .inr ⟨_,by simp only[ev,dI,if_neg c1],rfl⟩)
   (s:=(((),((1:Nat):Int),()),(),(l,()))) ⟨1,by omega,by omega,rfl⟩
  obtain⟨e,h1,rfl⟩:=fG;rw[show jK (((),1,()),(),(l,()))=_ from h1];rfl
theorem EK (l:List Int) (ha:Br l):iG l=some (l,()):=by have hl:=ha.len;unfold iG mb;rw[eP (jG (by omega)),af,GF l ha,af,eP rfl,Bs l ha];rfl
end Go.Proofs.YtadpelkpdaohnaaGreatDoor.En
