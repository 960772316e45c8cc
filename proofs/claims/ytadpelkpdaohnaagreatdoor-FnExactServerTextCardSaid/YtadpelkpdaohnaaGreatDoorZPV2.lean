/- Lists of servers: common ones, and those without others. -/
import Derived.Test.YtadpelkpdaohnaaGreatDoorZPV1
namespace Go.Proofs.YtadpelkpdaohnaaGreatDoor.En
open Go
theorem oB {n:Nat} (h:n<=1048576):n*8<=2 ^ 40:=by
 have : (2:Nat) ^ 40=1099511627776:=by decide
 omega
theorem F9 (l:List Int) (x:Int) (hl:l.length<=1000) (h: ∀y∈l,y<x):qd l x=some (l++ [x],()):=by
 have hm:l.length<=maxLen:=by unfold maxLen; omega
 have fb:=p7 (B:=lb) l (fun k (_:Unit)=>((l,x,(k:Int),()),(),())) (fun _ _=>True) (fun k r _=>((l,x,((k+r.length:Nat):Int),()),(),()))
  (fun b hb=>by simp only[lb];rw[dx,if_neg (by omega)];rfl)
  (fun k b y hy hb=>by
    have hk:=wA hy;have c1: (k:Int)< (l.length:Int):=by omega
    have c2: (0:Int)<=(k:Int):=by omega
    refine .inl ⟨(),?_,trivial,?_⟩
    ·simp only[lb,dx,eJ,if_pos c1,if_pos c2,aK,hy,af,if_pos (h y (ap hy)),dU hm hk]
    ·rw[aW,show k+((l.drop (k+1)).length+1)=k+1+(l.drop (k+1)).length by omega])
  0 () (bm _) trivial
 unfold qd;rw[show vr ((l,x,0,()),(),())=_ from fb];simp only[af,bT,aR];have c0: ¬ ((l.length:Int)< (l.length:Int)):=by omega
 have d1: (0:Int)<=0/\(0:Int)<=(l.length:Int)/\(l.length:Int)<=(l.length:Int):=by omega
 have d2: (0:Int)<=(l.length:Int)/\(l.length:Int)<=(l.length:Int)/\(l.length:Int)<=(l.length:Int):=by omega
 simp only[dx,if_neg c0,eJ,if_pos d1,if_pos d2,aK,Int.toNat_zero,bT,Nat.sub_zero,cS,cX,bq,bW,bB];rw[if_pos (oB (by omega)),if_pos (oB (by simp; omega))];exact if_pos (oB (by simp; omega))
theorem Ga (a b:List Int) (ha:BB a) (hb:b.length<=maxLen):gU a b=some (a.filter fun x=>decide (x∈b),()):=by
 have hl:=ha.len;have hm:a.length<=maxLen:=by unfold maxLen; omega
 have hp:=ha.pair
 have fb:=p7 (B:=fj) a (fun k (out:List Int)=>((a,b,(),(k:Int),()),(),(out,()))) (fun k out=>out=(a.take k).filter fun x=>decide (x∈b)) (fun k r out=>(((),()),(),(out++r.filter fun x=>decide (x∈b),())))
  (fun out hb=>by simp only[fj];rw[dx,if_neg (by omega)];simp)
  (fun k out x hx hout=>by
    have hk:=wA hx;have c1: (k:Int)< (a.length:Int):=by omega
    have c2: (0:Int)<=(k:Int):=by omega
    have hxe:a[k] =x:=by rw[ah hk] at hx; exact Option.some.inj hx
    simp only[fj,dx,eJ,if_pos c1,if_pos c2,aK,hx,af,(jk b x hb).1,dU hm hk];by_cases hin:x∈b
    ·have hlt: ∀y∈out,y<x:=by
      intro y hy;rw[hout,cQ] at hy;obtain⟨i,hi,he⟩:=aV hy.1;have hi':i<k:=by simp at hi; omega
      rw[List.getElem_take] at he;rw[<-he,<-hxe];exact cy.1 hp i k (by omega) hk hi'
     have hol:out.length<=1000:=by rw[hout];have:=List.length_filter_le (fun x=>decide (x∈b)) (a.take k);simp at this;omega
     simp only[if_pos hin,F9 out x hol hlt,af];refine .inl ⟨out++ [x],rfl,?_,?_⟩
     ·rw[hout,ca,hx,co];simp[hin]
     ·simp[hin]
    ·simp only[if_neg hin];refine .inl ⟨out,rfl,?_,?_⟩
     ·rw[hout,ca,hx,co];simp[hin]
     ·simp[hin])
  0 [] (bm _) rfl
 unfold gU;rw[show l4 ((a,b,(),0,()),(),([],()))=_ from fb];rfl
theorem AK {n:Nat} (hn:n<=5): ∃m,qf (IntKind.wrap .u64 (n:Int))=some (m,()):=by
 have :n=0\/n=1\/n=2\/n=3\/n=4\/n=5:=by omega
 rcases this with rfl|rfl|rfl|rfl|rfl|rfl
 ·exact⟨0,by kernel_rfl⟩
 ·exact⟨1,by kernel_rfl⟩
 ·exact⟨2,by kernel_rfl⟩
 ·exact⟨2,by kernel_rfl⟩
 ·exact⟨3,by kernel_rfl⟩
 ·exact⟨3,by kernel_rfl⟩
theorem CN (l:List Int) (ha:BB l):dZ l 0 (l.length:Int)=some (l,()):=by
 have hl:=ha.len;have hm:l.length<=maxLen:=by unfold maxLen; omega
 have inner: ∀k (hk:k<l.length),0<k->fU (((),0,(l.length:Int),(k:Int),(k:Int),()),(),(l,()))=some (((),0,(l.length:Int),(k:Int),()),(),(l,())):=by
  intro k hk h0;refine iU ?_;have c1: (k:Int)>0:=by omega
  have c2: (0:Int)<=(k:Int)/\(k:Int)< (l.length:Int):=by omega
  have c3: (0:Int)<=((k-1:Nat):Int)/\((k-1:Nat):Int)< (l.length:Int):=by omega
  have e1:l[k]? =some l[k] :=ah hk;have e2:l[k-1]? =some l[k-1] :=ah (by omega);have hlt:=(ha k hk).2 h0
  have less:jv l[k] l[k-1] =some (false,()):=by unfold jv iY;simp only[beq_self_eq_true,bu,af,dV];rw[decide_eq_false (by omega)]
  simp only[eo,dx,eJ,if_pos c1,if_pos c2,mD h0 (by omega),if_pos c3,aK,e1,e2,af,less,dV]
 have outer:=p8 (B:=dN) (fun s=> ∃k:Nat,0<k/\s=(((),0,(l.length:Int),(k:Int),()),(),(l,()))) (fun s=>l.length-s.1.2.2.2.1.toNat) (fun e=>e=((()),(),(l,())))
  (fun s hs=>by
    obtain⟨k,h0,rfl⟩:=hs;by_cases hk:k<l.length
    ·have c1: (k:Int)< (l.length:Int):=by omega
     refine .inl ⟨(((),0,(l.length:Int),((k+1:Nat):Int),()),(),(l,())),?_,⟨k+1,by omega,rfl⟩,?_⟩
     ·simp only[dN,dx,if_pos c1,inner k hk h0,af,dU hm hk]
     ·simp only[aK];omega
    ·have c1: ¬ (k:Int)< (l.length:Int):=by omega
     exact .inr ⟨_,by simp only[dN,dx,if_neg c1],rfl⟩)
  (s:=(((),0,(l.length:Int),((1:Nat):Int),()),(),(l,()))) ⟨1,by omega,rfl⟩
 obtain⟨e,h1,rfl⟩:=outer;unfold dZ;rw[show IntKind.wrap .i64 ((0:Int)+1)=((1:Nat):Int) from by rw[iG (by omega) (by omega)]; rfl,show fW (((),0,(l.length:Int),((1:Nat):Int),()),(),(l,()))=_ from h1];rfl
theorem EG (l:List Int) (ha:BB l):iA l=some (l,()):=by
 have hl:=ha.len;obtain⟨m,hm⟩:=AK hl
 have hp:eE l 0 (l.length:Int) m=some (l,()):=by
  unfold eE
  have :iz (((),0,(l.length:Int),m,true,true,()),(),(l,()))=some ((()),(),(l,())):=by refine iU ?_;simp only[eN];rw[iG (by omega) (by omega),dx,if_pos (by omega),CN l ha,af,eW rfl]
  rw[this];rfl
 unfold iA;simp only[hm,af,hp];exact eW trivial _ _
theorem zj (l:List Int) (ha:BB l):fX l=some (l,()):=by
 have hl:=ha.len;have hm:l.length<=maxLen:=by unfold maxLen; omega
 unfold fX;rw[dx];split
 ·rfl
 ·have fb:=p8 (B:=eO) (fun s=> ∃k:Nat,0<k/\k<=l.length/\s=(((),(k:Int),()),(),(l,()))) (fun s=>l.length-s.1.2.1.toNat) (fun e=>e= .inr (((),(),()),(),(l,())))
   (fun s hs=>by
     obtain⟨k,h0,hkl,rfl⟩:=hs;by_cases hk:k<l.length
     ·have c1: (k:Int)< (l.length:Int):=by omega
      have c2: (0:Int)<=(k:Int)/\(k:Int)< (l.length:Int):=by omega
      have c3: (0:Int)<=((k-1:Nat):Int)/\((k-1:Nat):Int)< (l.length:Int):=by omega
      have e1:l[k]? =some l[k] :=ah hk;have e2:l[k-1]? =some l[k-1] :=ah (by omega);have hlt:=(ha k hk).2 h0;refine .inl ⟨(((),((k+1:Nat):Int),()),(),(l,())),?_,⟨k+1,by omega,by omega,rfl⟩,?_⟩
      ·simp only[eO,dx,eJ,if_pos c1,if_pos c2,mD h0 (by omega),if_pos c3,aK,e1,e2,af,n8,dU hm hk];rw[if_neg (by omega)]
      ·simp only[aK];omega
     ·have c1: ¬ (k:Int)< (l.length:Int):=by omega
      exact .inr ⟨_,by simp only[eO,dx,if_neg c1],rfl⟩)
   (s:=(((),((1:Nat):Int),()),(),(l,()))) ⟨1,by omega,by omega,rfl⟩
  obtain⟨e,h1,rfl⟩:=fb;rw[show kK (((),1,()),(),(l,()))=_ from h1];rfl
theorem CO (l:List Int) (ha:BB l):km l=some (l,()):=by have hl:=ha.len;unfold km m0;rw[eW (oB (by omega)),af,EG l ha,af,eW rfl,zj l ha];rfl
end Go.Proofs.YtadpelkpdaohnaaGreatDoor.En
