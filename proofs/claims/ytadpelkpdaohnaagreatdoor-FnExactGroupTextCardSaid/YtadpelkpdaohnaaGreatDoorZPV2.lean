/- Lists of servers: common ones, and those without others. -/
import Derived.Test.YtadpelkpdaohnaaGreatDoorZPV1
namespace Go.Proofs.YtadpelkpdaohnaaGreatDoor.En
open Go
theorem jl {n:Nat} (h:n<=1048576):n*8<=2 ^ 40:=by
 have : (2:Nat) ^ 40=1099511627776:=by decide
 omega
theorem Ca (l:List Int) (x:Int) (hl:l.length<=1000) (h: ∀y∈l,y<x):kE l x=some (l++ [x],()):=by
 have hm:l.length<=maxLen:=by unfold maxLen; omega
 have fx:=nA (B:=ji) l (fun k (_:Unit)=>((l,x,(k:Int),()),(),())) (fun _ _=>True) (fun k r _=>((l,x,((k+r.length:Nat):Int),()),(),()))
  (fun b hb=>by simp only[ji];rw[dH,if_neg (by omega)];rfl)
  (fun k b y hy hb=>by
    have hk:=oJ hy;have c1: (k:Int)< (l.length:Int):=by omega
    have c2: (0:Int)<=(k:Int):=by omega
    refine .inl ⟨(),?_,trivial,?_⟩
    ·simp only[ji,dH,dX,if_pos c1,if_pos c2,aA,hy,af,if_pos (h y (aq hy)),dS hm hk]
    ·rw[aY,show k+((l.drop (k+1)).length+1)=k+1+(l.drop (k+1)).length by omega])
  0 () (bi _) trivial
 unfold kE;rw[show rN ((l,x,0,()),(),())=_ from fx];simp only[af,bT,aV];have c0: ¬ ((l.length:Int)< (l.length:Int)):=by omega
 have d1: (0:Int)<=0/\(0:Int)<=(l.length:Int)/\(l.length:Int)<=(l.length:Int):=by omega
 have d2: (0:Int)<=(l.length:Int)/\(l.length:Int)<=(l.length:Int)/\(l.length:Int)<=(l.length:Int):=by omega
 simp only[dH,if_neg c0,dX,if_pos d1,if_pos d2,aA,dy,bT,df,db,dg,bw,bH,bA];rw[if_pos (jl (by omega)),if_pos (jl (by simp; omega))];exact if_pos (jl (by simp; omega))
theorem Cb (a b:List Int) (ha:z6 a) (hb:b.length<=maxLen):iv a b=some (a.filter fun x=>decide (x∈b),()):=by
 have hl:=ha.len;have hm:a.length<=maxLen:=by unfold maxLen; omega
 have hp:=ha.pair
 have fx:=nA (B:=fI) a (fun k (out:List Int)=>((a,b,(),(k:Int),()),(),(out,()))) (fun k out=>out=(a.take k).filter fun x=>decide (x∈b)) (fun k r out=>(((),()),(),(out++r.filter fun x=>decide (x∈b),())))
  (fun out hb=>by simp only[fI];rw[dH,if_neg (by omega)];simp)
  (fun k out x hx hout=>by
    have hk:=oJ hx;have c1: (k:Int)< (a.length:Int):=by omega
    have c2: (0:Int)<=(k:Int):=by omega
    have hxe:a[k] =x:=by rw[ah hk] at hx; exact Option.some.inj hx
    simp only[fI,dH,dX,if_pos c1,if_pos c2,aA,hx,af,(jk b x hb).1,dS hm hk];by_cases hin:x∈b
    ·have hlt: ∀y∈out,y<x:=by
      intro y hy;rw[hout,cM] at hy;obtain⟨i,hi,he⟩:=aM hy.1;have hi':i<k:=by simp at hi; omega
      rw[cQ] at he;rw[<-he,<-hxe];exact bR.1 hp i k (by omega) hk hi'
     have hol:out.length<=1000:=by rw[hout];have:=List.length_filter_le (fun x=>decide (x∈b)) (a.take k);simp at this;omega
     simp only[if_pos hin,Ca out x hol hlt,af];refine .inl ⟨out++ [x],rfl,?_,?_⟩
     ·rw[hout,bL,hx,cw];simp[hin]
     ·simp[hin]
    ·simp only[if_neg hin];refine .inl ⟨out,rfl,?_,?_⟩
     ·rw[hout,bL,hx,cw];simp[hin]
     ·simp[hin])
  0 [] (bi _) rfl
 unfold iv;rw[show mJ ((a,b,(),0,()),(),([],()))=_ from fx];rfl
theorem uU {n:Nat} (hn:n<=5): ∃m,oW (IntKind.wrap .u64 (n:Int))=some (m,()):=by
 have :n=0\/n=1\/n=2\/n=3\/n=4\/n=5:=by omega
 rcases this with rfl|rfl|rfl|rfl|rfl|rfl
 ·exact⟨0,by kernel_rfl⟩
 ·exact⟨1,by kernel_rfl⟩
 ·exact⟨2,by kernel_rfl⟩
 ·exact⟨2,by kernel_rfl⟩
 ·exact⟨3,by kernel_rfl⟩
 ·exact⟨3,by kernel_rfl⟩
theorem Di (l:List Int) (ha:z6 l):eb l 0 (l.length:Int)=some (l,()):=by
 have hl:=ha.len;have hm:l.length<=maxLen:=by unfold maxLen; omega
 have inner: ∀k (hk:k<l.length),0<k->eN (((),0,(l.length:Int),(k:Int),(k:Int),()),(),(l,()))=some (((),0,(l.length:Int),(k:Int),()),(),(l,())):=by
  intro k hk h0;refine fH ?_;have c1: (k:Int)>0:=by omega
  have c2: (0:Int)<=(k:Int)/\(k:Int)< (l.length:Int):=by omega
  have c3: (0:Int)<=((k-1:Nat):Int)/\((k-1:Nat):Int)< (l.length:Int):=by omega
  have e1:l[k]? =some l[k] :=ah hk;have e2:l[k-1]? =some l[k-1] :=ah (by omega);have hlt:=(ha k hk).2 h0
  have less:ip l[k] l[k-1] =some (false,()):=by unfold ip iH;simp only[beq_self_eq_true,bq,af,en];rw[decide_eq_false (by omega)]
  simp only[dV,dH,dX,if_pos c1,if_pos c2,jg h0 (by omega),if_pos c3,aA,e1,e2,af,less,en]
 have outer:=mG (B:=dL) (fun s=> ∃k:Nat,0<k/\s=(((),0,(l.length:Int),(k:Int),()),(),(l,()))) (fun s=>l.length-s.1.2.2.2.1.toNat) (fun e=>e=((()),(),(l,())))
  (fun s hs=>by
    obtain⟨k,h0,rfl⟩:=hs;by_cases hk:k<l.length
    ·have c1: (k:Int)< (l.length:Int):=by omega
     refine .inl ⟨(((),0,(l.length:Int),((k+1:Nat):Int),()),(),(l,())),?_,⟨k+1,by omega,rfl⟩,?_⟩
     ·simp only[dL,dH,if_pos c1,inner k hk h0,af,dS hm hk]
     ·simp only[aA];omega
    ·have c1: ¬ (k:Int)< (l.length:Int):=by omega
     exact .inr ⟨_,by simp only[dL,dH,if_neg c1],rfl⟩)
  (s:=(((),0,(l.length:Int),((1:Nat):Int),()),(),(l,()))) ⟨1,by omega,rfl⟩
 obtain⟨e,h1,rfl⟩:=outer;unfold eb;rw[show IntKind.wrap .i64 ((0:Int)+1)=((1:Nat):Int) from by rw[fQ (by omega) (by omega)]; rfl,show eO (((),0,(l.length:Int),((1:Nat):Int),()),(),(l,()))=_ from h1];rfl
theorem Fk (l:List Int) (ha:z6 l):gf l=some (l,()):=by
 have hl:=ha.len;obtain⟨m,hm⟩:=uU hl
 have hp:ey l 0 (l.length:Int) m=some (l,()):=by
  unfold ey
  have :gb (((),0,(l.length:Int),m,true,true,()),(),(l,()))=some ((()),(),(l,())):=by refine fH ?_;simp only[eT];rw[fQ (by omega) (by omega),dH,if_pos (by omega),Di l ha,af,eL rfl]
  rw[this];rfl
 unfold gf;simp only[hm,af,hp];exact eL trivial _ _
theorem z7 (l:List Int) (ha:z6 l):fo l=some (l,()):=by
 have hl:=ha.len;have hm:l.length<=maxLen:=by unfold maxLen; omega
 unfold fo;rw[dH];split
 ·rfl
 ·have fx:=mG (B:=eo) (fun s=> ∃k:Nat,0<k/\k<=l.length/\s=(((),(k:Int),()),(),(l,()))) (fun s=>l.length-s.1.2.1.toNat) (fun e=>e= .inr (((),(),()),(),(l,())))
   (fun s hs=>by
     obtain⟨k,h0,hkl,rfl⟩:=hs;by_cases hk:k<l.length
     ·have c1: (k:Int)< (l.length:Int):=by omega
      have c2: (0:Int)<=(k:Int)/\(k:Int)< (l.length:Int):=by omega
      have c3: (0:Int)<=((k-1:Nat):Int)/\((k-1:Nat):Int)< (l.length:Int):=by omega
      have e1:l[k]? =some l[k] :=ah hk;have e2:l[k-1]? =some l[k-1] :=ah (by omega);have hlt:=(ha k hk).2 h0;refine .inl ⟨(((),((k+1:Nat):Int),()),(),(l,())),?_,⟨k+1,by omega,by omega,rfl⟩,?_⟩
      ·simp only[eo,dH,dX,if_pos c1,if_pos c2,jg h0 (by omega),if_pos c3,aA,e1,e2,af,ka,dS hm hk];rw[if_neg (by omega)]
      ·simp only[aA];omega
     ·have c1: ¬ (k:Int)< (l.length:Int):=by omega
      exact .inr ⟨_,by simp only[eo,dH,if_neg c1],rfl⟩)
   (s:=(((),((1:Nat):Int),()),(),(l,()))) ⟨1,by omega,by omega,rfl⟩
  obtain⟨e,h1,rfl⟩:=fx;rw[show jq (((),1,()),(),(l,()))=_ from h1];rfl
theorem Dj (l:List Int) (ha:z6 l):jb l=some (l,()):=by have hl:=ha.len;unfold jb lE;rw[eL (jl (by omega)),af,Fk l ha,af,eL rfl,z7 l ha];rfl
end Go.Proofs.YtadpelkpdaohnaaGreatDoor.En
