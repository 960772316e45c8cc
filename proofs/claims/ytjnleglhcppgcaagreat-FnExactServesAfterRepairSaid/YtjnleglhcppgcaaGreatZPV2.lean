/- Lists of servers: common ones, and those without others. -/
import Derived.Test.YtjnleglhcppgcaaGreatZPV1
namespace Go.Proofs.YtjnleglhcppgcaaGreat.En
open Go
theorem kA {n:Nat} (h:n<=1048576):n*8<=2 ^ 40:=by
 have : (2:Nat) ^ 40=1099511627776:=by decide
 omega
theorem Ju (l:List Int) (x:Int) (hl:l.length<=1000) (h: ∀y∈l,y<x):n8 l x=some (l++ [x],()):=by
 have hm:l.length<=maxLen:=by unfold maxLen; omega
 have gE:=iB (B:=n7) l (fun k (_:Unit)=>((l,x,(k:Int),()),(),())) (fun _ _=>True) (fun k r _=>((l,x,((k+r.length:Nat):Int),()),(),()))
  (fun b hb=>by simp only[n7];rw[ei,if_neg (by omega)];rfl)
  (fun k b y hy hb=>by
    have hk:=i5 hy;have c1: (k:Int)< (l.length:Int):=by omega
    have c2: (0:Int)<=(k:Int):=by omega
    refine .inl ⟨(),?_,trivial,?_⟩
    ·simp only[n7,ei,ek,if_pos c1,if_pos c2,ap,hy,ae,if_pos (h y (ao hy)),ey hm hk]
    ·rw[bk,show k+((l.drop (k+1)).length+1)=k+1+(l.drop (k+1)).length by omega])
  0 () (aI _) trivial
 unfold n8;rw[show Cu ((l,x,0,()),(),())=_ from gE];simp only[ae,bJ,aU];have c0: ¬ ((l.length:Int)< (l.length:Int)):=by omega
 have d1: (0:Int)<=0/\(0:Int)<=(l.length:Int)/\(l.length:Int)<=(l.length:Int):=by omega
 have d2: (0:Int)<=(l.length:Int)/\(l.length:Int)<=(l.length:Int)/\(l.length:Int)<=(l.length:Int):=by omega
 simp only[ei,if_neg c0,ek,if_pos d1,if_pos d2,ap,cQ,bJ,cK,dE,dG,bH,be,bo];rw[if_pos (kA (by omega)),if_pos (kA (by simp; omega))];exact if_pos (kA (by simp; omega))
theorem D9 (a b:List Int) (ha:yB a) (hb:b.length<=maxLen):jJ a b=some (a.filter fun x=>decide (x∈b),()):=by
 have hl:=ha.len;have hm:a.length<=maxLen:=by unfold maxLen; omega
 have hp:=ha.pair
 have gE:=iB (B:=jz) a (fun k (out:List Int)=>((a,b,(),(k:Int),()),(),(out,()))) (fun k out=>out=(a.take k).filter fun x=>decide (x∈b)) (fun k r out=>(((),()),(),(out++r.filter fun x=>decide (x∈b),())))
  (fun out hb=>by simp only[jz];rw[ei,if_neg (by omega)];simp)
  (fun k out x hx hout=>by
    have hk:=i5 hx;have c1: (k:Int)< (a.length:Int):=by omega
    have c2: (0:Int)<=(k:Int):=by omega
    have hxe:a[k] =x:=by rw[ah hk] at hx; exact Option.some.inj hx
    simp only[jz,ei,ek,if_pos c1,if_pos c2,ap,hx,ae,(fH b x hb).1,ey hm hk];by_cases hin:x∈b
    ·have hlt: ∀y∈out,y<x:=by
      intro y hy;rw[hout,cA] at hy;obtain⟨i,hi,he⟩:=aJ hy.1;have hi':i<k:=by simp at hi; omega
      rw[cM] at he;rw[<-he,<-hxe];exact bN.1 hp i k (by omega) hk hi'
     have hol:out.length<=1000:=by rw[hout];have:=cY (fun x=>decide (x∈b)) (a.take k);simp at this;omega
     simp only[if_pos hin,Ju out x hol hlt,ae];refine .inl ⟨out++ [x],rfl,?_,?_⟩
     ·rw[hout,bK,hx,bQ];simp[hin]
     ·simp[hin]
    ·simp only[if_neg hin];refine .inl ⟨out,rfl,?_,?_⟩
     ·rw[hout,bK,hx,bQ];simp[hin]
     ·simp[hin])
  0 [] (aI _) rfl
 unfold jJ;rw[show uT ((a,b,(),0,()),(),([],()))=_ from gE];rfl
theorem FW {n:Nat} (hn:n<=5): ∃m,yf (IntKind.wrap .u64 (n:Int))=some (m,()):=by
 have :n=0\/n=1\/n=2\/n=3\/n=4\/n=5:=by omega
 rcases this with rfl|rfl|rfl|rfl|rfl|rfl
 ·exact⟨0,by kernel_rfl⟩
 ·exact⟨1,by kernel_rfl⟩
 ·exact⟨2,by kernel_rfl⟩
 ·exact⟨2,by kernel_rfl⟩
 ·exact⟨3,by kernel_rfl⟩
 ·exact⟨3,by kernel_rfl⟩
theorem Po (l:List Int) (ha:yB l):fk l 0 (l.length:Int)=some (l,()):=by
 have hl:=ha.len;have hm:l.length<=maxLen:=by unfold maxLen; omega
 have inner: ∀k (hk:k<l.length),0<k->gJ (((),0,(l.length:Int),(k:Int),(k:Int),()),(),(l,()))=some (((),0,(l.length:Int),(k:Int),()),(),(l,())):=by
  intro k hk h0;refine gC ?_;have c1: (k:Int)>0:=by omega
  have c2: (0:Int)<=(k:Int)/\(k:Int)< (l.length:Int):=by omega
  have c3: (0:Int)<=((k-1:Nat):Int)/\((k-1:Nat):Int)< (l.length:Int):=by omega
  have e1:l[k]? =some l[k] :=ah hk;have e2:l[k-1]? =some l[k-1] :=ah (by omega);have hlt:=(ha k hk).2 h0
  have less:mD l[k] l[k-1] =some (false,()):=by unfold mD nh;simp only[beq_self_eq_true,aY,ae,eB];rw[decide_eq_false (by omega)]
  simp only[fe,ei,ek,if_pos c1,if_pos c2,kH h0 (by omega),if_pos c3,ap,e1,e2,ae,less,eB]
 have outer:=sV (B:=eH) (fun s=> ∃k:Nat,0<k/\s=(((),0,(l.length:Int),(k:Int),()),(),(l,()))) (fun s=>l.length-s.1.2.2.2.1.toNat) (fun e=>e=((()),(),(l,())))
  (fun s hs=>by
    obtain⟨k,h0,rfl⟩:=hs;by_cases hk:k<l.length
    ·have c1: (k:Int)< (l.length:Int):=by omega
     refine .inl ⟨(((),0,(l.length:Int),((k+1:Nat):Int),()),(),(l,())),?_,⟨k+1,by omega,rfl⟩,?_⟩
     ·simp only[eH,ei,if_pos c1,inner k hk h0,ae,ey hm hk]
     ·simp only[ap];omega
    ·have c1: ¬ (k:Int)< (l.length:Int):=by omega
     exact .inr ⟨_,by simp only[eH,ei,if_neg c1],rfl⟩)
  (s:=(((),0,(l.length:Int),((1:Nat):Int),()),(),(l,()))) ⟨1,by omega,rfl⟩
 obtain⟨e,h1,rfl⟩:=outer;unfold fk;rw[show IntKind.wrap .i64 ((0:Int)+1)=((1:Nat):Int) from by rw[fP (by omega) (by omega)]; rfl,show gK (((),0,(l.length:Int),((1:Nat):Int),()),(),(l,()))=_ from h1];rfl
theorem Rk (l:List Int) (ha:yB l):ky l=some (l,()):=by
 have hl:=ha.len;obtain⟨m,hm⟩:=FW hl
 have hp:fX l 0 (l.length:Int) m=some (l,()):=by
  unfold fX
  have :kw (((),0,(l.length:Int),m,true,true,()),(),(l,()))=some ((()),(),(l,())):=by refine gC ?_;simp only[gU];rw[fP (by omega) (by omega),ei,if_pos (by omega),Po l ha,ae,fB rfl]
  rw[this];rfl
 unfold ky;simp only[hm,ae,hp];exact fB trivial _ _
theorem LB (l:List Int) (ha:yB l):iQ l=some (l,()):=by
 have hl:=ha.len;have hm:l.length<=maxLen:=by unfold maxLen; omega
 unfold iQ;rw[ei];split
 ·rfl
 ·have gE:=sV (B:=fM) (fun s=> ∃k:Nat,0<k/\k<=l.length/\s=(((),(k:Int),()),(),(l,()))) (fun s=>l.length-s.1.2.1.toNat) (fun e=>e= .inr (((),(),()),(),(l,())))
   (fun s hs=>by
     obtain⟨k,h0,hkl,rfl⟩:=hs;by_cases hk:k<l.length
     ·have c1: (k:Int)< (l.length:Int):=by omega
      have c2: (0:Int)<=(k:Int)/\(k:Int)< (l.length:Int):=by omega
      have c3: (0:Int)<=((k-1:Nat):Int)/\((k-1:Nat):Int)< (l.length:Int):=by omega
      have e1:l[k]? =some l[k] :=ah hk;have e2:l[k-1]? =some l[k-1] :=ah (by omega);have hlt:=(ha k hk).2 h0;refine .inl ⟨(((),((k+1:Nat):Int),()),(),(l,())),?_,⟨k+1,by omega,by omega,rfl⟩,?_⟩
      ·simp only[fM,ei,ek,if_pos c1,if_pos c2,kH h0 (by omega),if_pos c3,ap,e1,e2,ae,gP,ey hm hk];rw[if_neg (by omega)]
      ·simp only[ap];omega
     ·have c1: ¬ (k:Int)< (l.length:Int):=by omega
      exact .inr ⟨_,by simp only[fM,ei,if_neg c1],rfl⟩)
   (s:=(((),((1:Nat):Int),()),(),(l,()))) ⟨1,by omega,by omega,rfl⟩
  obtain⟨e,h1,rfl⟩:=gE;rw[show oB (((),1,()),(),(l,()))=_ from h1];rfl
theorem Pp (l:List Int) (ha:yB l):ll l=some (l,()):=by have hl:=ha.len;unfold ll iP;rw[fB (kA (by omega)),ae,Rk l ha,ae,fB rfl,LB l ha];rfl
end Go.Proofs.YtjnleglhcppgcaaGreat.En
