/- Lists of servers: common ones, and those without others. -/
import Derived.Test.YtjnleglhcppgcaaGreatZPV1
namespace Go.Proofs.YtjnleglhcppgcaaGreat.En
open Go
theorem jC {n:Nat} (h:n<=1048576):n*8<=2 ^ 40:=by
 have : (2:Nat) ^ 40=1099511627776:=by decide
 omega
theorem Hq (l:List Int) (x:Int) (hl:l.length<=1000) (h: ∀y∈l,y<x):na l x=some (l++ [x],()):=by
 have hm:l.length<=maxLen:=by unfold maxLen; omega
 have gA:=gJ (B:=m9) l (fun k (_:Unit)=>((l,x,(k:Int),()),(),())) (fun _ _=>True) (fun k r _=>((l,x,((k+r.length:Nat):Int),()),(),()))
  (fun b hb=>by simp only[m9];rw[dV,if_neg (by omega)];rfl)
  (fun k b y hy hb=>by
    have hk:=fR hy;have c1: (k:Int)< (l.length:Int):=by omega
    have c2: (0:Int)<=(k:Int):=by omega
    refine .inl ⟨(),?_,trivial,?_⟩
    ·simp only[m9,dV,dZ,if_pos c1,if_pos c2,ao,hy,ae,if_pos (h y (aq hy)),ec hm hk]
    ·rw[ba,show k+((l.drop (k+1)).length+1)=k+1+(l.drop (k+1)).length by omega])
  0 () (aF _) trivial
 unfold na;rw[show Aw ((l,x,0,()),(),())=_ from gA];simp only[ae,bJ,aV];have c0: ¬ ((l.length:Int)< (l.length:Int)):=by omega
 have d1: (0:Int)<=0/\(0:Int)<=(l.length:Int)/\(l.length:Int)<=(l.length:Int):=by omega
 have d2: (0:Int)<=(l.length:Int)/\(l.length:Int)<=(l.length:Int)/\(l.length:Int)<=(l.length:Int):=by omega
 simp only[dV,if_neg c0,dZ,if_pos d1,if_pos d2,ao,cT,bJ,cK,cJ,dv,bw,aX,bi];rw[if_pos (jC (by omega)),if_pos (jC (by simp; omega))];exact if_pos (jC (by simp; omega))
theorem Cr (a b:List Int) (ha:wm a) (hb:b.length<=maxLen):i5 a b=some (a.filter fun x=>decide (x∈b),()):=by
 have hl:=ha.len;have hm:a.length<=maxLen:=by unfold maxLen; omega
 have hp:=ha.pair
 have gA:=gJ (B:=iR) a (fun k (out:List Int)=>((a,b,(),(k:Int),()),(),(out,()))) (fun k out=>out=(a.take k).filter fun x=>decide (x∈b)) (fun k r out=>(((),()),(),(out++r.filter fun x=>decide (x∈b),())))
  (fun out hb=>by simp only[iR];rw[dV,if_neg (by omega)];simp)
  (fun k out x hx hout=>by
    have hk:=fR hx;have c1: (k:Int)< (a.length:Int):=by omega
    have c2: (0:Int)<=(k:Int):=by omega
    have hxe:a[k] =x:=by rw[ah hk] at hx; exact Option.some.inj hx
    simp only[iR,dV,dZ,if_pos c1,if_pos c2,ao,hx,ae,(gp b x hb).1,ec hm hk];by_cases hin:x∈b
    ·have hlt: ∀y∈out,y<x:=by
      intro y hy;rw[hout,cr] at hy;obtain⟨i,hi,he⟩:=aH hy.1;have hi':i<k:=by simp at hi; omega
      rw[cG] at he;rw[<-he,<-hxe];exact bE.1 hp i k (by omega) hk hi'
     have hol:out.length<=1000:=by rw[hout];have:=cN (fun x=>decide (x∈b)) (a.take k);simp at this;omega
     simp only[if_pos hin,Hq out x hol hlt,ae];refine .inl ⟨out++ [x],rfl,?_,?_⟩
     ·rw[hout,bn,hx,bL];simp[hin]
     ·simp[hin]
    ·simp only[if_neg hin];refine .inl ⟨out,rfl,?_,?_⟩
     ·rw[hout,bn,hx,bL];simp[hin]
     ·simp[hin])
  0 [] (aF _) rfl
 unfold i5;rw[show sM ((a,b,(),0,()),(),([],()))=_ from gA];rfl
theorem Ea {n:Nat} (hn:n<=5): ∃m,vU (IntKind.wrap .u64 (n:Int))=some (m,()):=by
 have :n=0\/n=1\/n=2\/n=3\/n=4\/n=5:=by omega
 rcases this with rfl|rfl|rfl|rfl|rfl|rfl
 ·exact⟨0,by kernel_rfl⟩
 ·exact⟨1,by kernel_rfl⟩
 ·exact⟨2,by kernel_rfl⟩
 ·exact⟨2,by kernel_rfl⟩
 ·exact⟨3,by kernel_rfl⟩
 ·exact⟨3,by kernel_rfl⟩
theorem MU (l:List Int) (ha:wm l):eO l 0 (l.length:Int)=some (l,()):=by
 have hl:=ha.len;have hm:l.length<=maxLen:=by unfold maxLen; omega
 have inner: ∀k (hk:k<l.length),0<k->gi (((),0,(l.length:Int),(k:Int),(k:Int),()),(),(l,()))=some (((),0,(l.length:Int),(k:Int),()),(),(l,())):=by
  intro k hk h0;refine ga ?_;have c1: (k:Int)>0:=by omega
  have c2: (0:Int)<=(k:Int)/\(k:Int)< (l.length:Int):=by omega
  have c3: (0:Int)<=((k-1:Nat):Int)/\((k-1:Nat):Int)< (l.length:Int):=by omega
  have e1:l[k]? =some l[k] :=ah hk;have e2:l[k-1]? =some l[k-1] :=ah (by omega);have hlt:=(ha k hk).2 h0
  have less:lD l[k] l[k-1] =some (false,()):=by unfold lD mb;simp only[beq_self_eq_true,bg,ae,ek];rw[decide_eq_false (by omega)]
  simp only[eI,dV,dZ,if_pos c1,if_pos c2,lX h0 (by omega),if_pos c3,ao,e1,e2,ae,less,ek]
 have outer:=qX (B:=en) (fun s=> ∃k:Nat,0<k/\s=(((),0,(l.length:Int),(k:Int),()),(),(l,()))) (fun s=>l.length-s.1.2.2.2.1.toNat) (fun e=>e=((()),(),(l,())))
  (fun s hs=>by
    obtain⟨k,h0,rfl⟩:=hs;by_cases hk:k<l.length
    ·have c1: (k:Int)< (l.length:Int):=by omega
     refine .inl ⟨(((),0,(l.length:Int),((k+1:Nat):Int),()),(),(l,())),?_,⟨k+1,by omega,rfl⟩,?_⟩
     ·simp only[en,dV,if_pos c1,inner k hk h0,ae,ec hm hk]
     ·simp only[ao];omega
    ·have c1: ¬ (k:Int)< (l.length:Int):=by omega
     exact .inr ⟨_,by simp only[en,dV,if_neg c1],rfl⟩)
  (s:=(((),0,(l.length:Int),((1:Nat):Int),()),(),(l,()))) ⟨1,by omega,rfl⟩
 obtain⟨e,h1,rfl⟩:=outer;unfold eO;rw[show IntKind.wrap .i64 ((0:Int)+1)=((1:Nat):Int) from by rw[eK (by omega) (by omega)]; rfl,show gk (((),0,(l.length:Int),((1:Nat):Int),()),(),(l,()))=_ from h1];rfl
theorem OM (l:List Int) (ha:wm l):jA l=some (l,()):=by
 have hl:=ha.len;obtain⟨m,hm⟩:=Ea hl
 have hp:ft l 0 (l.length:Int) m=some (l,()):=by
  unfold ft
  have :jz (((),0,(l.length:Int),m,true,true,()),(),(l,()))=some ((()),(),(l,())):=by refine ga ?_;simp only[gq];rw[eK (by omega) (by omega),dV,if_pos (by omega),MU l ha,ae,fL rfl]
  rw[this];rfl
 unfold jA;simp only[hm,ae,hp];exact fL trivial _ _
theorem Jw (l:List Int) (ha:wm l):hQ l=some (l,()):=by
 have hl:=ha.len;have hm:l.length<=maxLen:=by unfold maxLen; omega
 unfold hQ;rw[dV];split
 ·rfl
 ·have gA:=qX (B:=fk) (fun s=> ∃k:Nat,0<k/\k<=l.length/\s=(((),(k:Int),()),(),(l,()))) (fun s=>l.length-s.1.2.1.toNat) (fun e=>e= .inr (((),(),()),(),(l,())))
   (fun s hs=>by
     obtain⟨k,h0,hkl,rfl⟩:=hs;by_cases hk:k<l.length
     ·have c1: (k:Int)< (l.length:Int):=by omega
      have c2: (0:Int)<=(k:Int)/\(k:Int)< (l.length:Int):=by omega
      have c3: (0:Int)<=((k-1:Nat):Int)/\((k-1:Nat):Int)< (l.length:Int):=by omega
      have e1:l[k]? =some l[k] :=ah hk;have e2:l[k-1]? =some l[k-1] :=ah (by omega);have hlt:=(ha k hk).2 h0;refine .inl ⟨(((),((k+1:Nat):Int),()),(),(l,())),?_,⟨k+1,by omega,by omega,rfl⟩,?_⟩
      ·simp only[fk,dV,dZ,if_pos c1,if_pos c2,lX h0 (by omega),if_pos c3,ao,e1,e2,ae,kt,ec hm hk];rw[if_neg (by omega)]
      ·simp only[ao];omega
     ·have c1: ¬ (k:Int)< (l.length:Int):=by omega
      exact .inr ⟨_,by simp only[fk,dV,if_neg c1],rfl⟩)
   (s:=(((),((1:Nat):Int),()),(),(l,()))) ⟨1,by omega,by omega,rfl⟩
  obtain⟨e,h1,rfl⟩:=gA;rw[show nx (((),1,()),(),(l,()))=_ from h1];rfl
theorem MV (l:List Int) (ha:wm l):ke l=some (l,()):=by have hl:=ha.len;unfold ke ja;rw[fL (jC (by omega)),ae,OM l ha,ae,fL rfl,Jw l ha];rfl
end Go.Proofs.YtjnleglhcppgcaaGreat.En
