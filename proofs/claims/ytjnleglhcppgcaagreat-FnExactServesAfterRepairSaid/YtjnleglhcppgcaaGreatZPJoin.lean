/- JoinTail: the plain law. -/
import Derived.Test.YtjnleglhcppgcaaGreatZPServe
import Derived.Test.YtjnleglhcppgcaaGreatZPData
namespace Go.Proofs.YtjnleglhcppgcaaGreat.En
open Go
theorem Rr (n:Int) (h0:0<=n) (h1:n<=1000000):mf n=some ([],()):=by
 unfold mf;have e1:IntKind.wrap .i64 ((0:Int)-0)=0:=fP (by decide) (by decide);have e2:IntKind.wrap .i64 (n-0)=n:=by rw[fP (by omega) (by omega)]; omega
 simp only[e1,e2,ei,if_neg (show ¬n<0 by omega)];by_cases h:n>0
 ·have e: (2:Int) ^ 40=1099511627776:=by decide
  have c1:0<n/\n*((56:Nat):Int)<=2 ^ 40:=⟨h,by omega⟩
  have c2: (0:Int)<=0/\(0:Int)<=0/\(0:Int)<=((n.toNat:Nat):Int):=by omega
  simp only[if_pos h,ek,if_pos c1,if_pos c2,and_self,if_true];simp
 ·simp only[if_neg h]
theorem Tp (l:List (List eu)) (hl:l.length<=10) (h: ∀a∈l,a.length<=1000):kX l=some (l.flatten,()):=by
 have hm:l.length<=maxLen:=by unfold maxLen; omega
 have tot: ∀k,(l.take k).flatten.length<=k*1000:=by
  intro k
  induction k with
  |zero=>simp
  |succ k ih=>
   cases hx:l[k]? with
   |none=>
    have hle:l.length<=k:=by simpa using hx
    rw[bh hle] at ih;rw[bh (cw hle)];exact bF ih (bw _ (de k))
   |some a=>rw[gV hx,cP,aQ];have:=h a (ao hx);simp only[List.flatten_cons,List.flatten_nil,bH];rw[Nat.succ_mul];exact Nat.add_le_add ih this
 have k1:=iB (B:=jE) l (fun k (n:Int)=>((l,n,l,(l.length:Int),(k:Int),()),(),())) (fun k n=>n=((l.take k).flatten.length:Int)) (fun _ _ _=>((l,(l.flatten.length:Int),()),(),()))
  (fun n hn=>by simp only[jE];rw[ei,if_neg (by omega),hn,be])
  (fun k n a hx hn=>by
    have hk:=i5 hx;have c1: (k:Int)< (l.length:Int):=by omega
    have c2: (0:Int)<=(k:Int):=by omega
    have t:=tot k;have ha:=h a (ao hx);have hk10:k*1000<=10000:=by omega
    refine .inl ⟨n+(a.length:Int),?_,?_,rfl⟩
    ·simp only[jE,ei,ek,if_pos c1,if_pos c2,ap,hx,ae,ey hm hk,fP (n:=n+(a.length:Int)) (by omega) (by omega),if_neg (show ¬n+(a.length:Int)<0 by omega)]
    ·rw[gV hx,cP,aQ,hn];simp)
  0 0 (aI _) (by simp)
 have t:=tot l.length;rw[be] at t
 have k2:=iB (B:=jm) l (fun k (b:List eu)=>(((),l,(l.length:Int),(k:Int),()),(),(b,()))) (fun k b=>b=(l.take k).flatten) (fun _ _ _=>(((),()),(),(l.flatten,())))
  (fun b hb=>by simp only[jm];rw[ei,if_neg (by omega),hb,be])
  (fun k b a hx hb=>by
    have hk:=i5 hx;have c1: (k:Int)< (l.length:Int):=by omega
    have c2: (0:Int)<=(k:Int):=by omega
    have t:=tot k;have ha:=h a (ao hx);have hs: (b++a).length*56<=2 ^ 40:=A0 (by rw[hb,aQ]; omega) (by decide);refine .inl ⟨b++a,?_,?_,rfl⟩
    ·simp only[jm,ei,ek,if_pos c1,if_pos c2,ap,hx,ae,ey hm hk,if_pos hs]
    ·rw[gV hx,cP,hb];simp)
  0 [] (aI _) (by simp)
 unfold kX;rw[show uZ ((l,0,l,(l.length:Int),0,()),(),())=_ from k1];simp only[ae,Rr _ (show (0:Int)<=(l.flatten.length:Int) by omega) (by omega)];rw[show uv (((),l,(l.length:Int),0,()),(),([],()))=_ from k2];rfl
theorem T1 (x y:eu): ((x.epoch==y.epoch)&&((x.op.client==y.op.client)&&((x.op.seq==y.op.seq)&&((x.op.kind==y.op.kind)&&((x.op.object==y.op.object)&&((x.op.old==y.op.old)&&((x.op.value==y.op.value)&&true)))))))=decide (x=y):=by obtain⟨a,b,c,d,e,f,g⟩:=x;obtain⟨a',b',c',d',e',f',g'⟩:=y;rw[ce];simp[and_assoc]
theorem UW (a b:List eu) (ha:a.length<=maxLen):mg a b=some (decide (a=b),()):=by
 unfold mg;rw[fi,gP];split
 ·rename_i hl;have hl:a.length=b.length:=by omega
  rcases uE (B:=kf) a.length (fun k=>((a,b,(a.length:Int),(k:Int),()),(),())) (.inr (((),()),(),())) (fun _=> .inl ((false,()),(),())) (fun k=>decide (a[k]? ≠b[k]?))
   (by simp only[kf]; rw[ei,if_neg (by omega)])
   (fun k hk=>by
     have c1: (k:Int)< (a.length:Int):=by omega
     have c2: (0:Int)<=(k:Int):=by omega
     have hk':k<b.length:=by omega
     simp only[kf,T1,fi,ei,ek,if_pos c1,if_pos c2,ap,ah hk,ah hk',ae,ey ha hk];by_cases h:a[k] =b[k]<;>simp[h]) with ⟨k1,k2⟩| ⟨i,hi,k1,k2,_⟩
  ·rw[show rg ((a,b,(a.length:Int),0,()),(),())=_ from k1]
   have :a=b:=List.ext_getElem hl fun k h1 h2=>by have:=k2 k h1;rw[ah h1,ah h2] at this;simpa using this
   rw[decide_eq_true this];rfl
  ·rw[show rg ((a,b,(a.length:Int),0,()),(),())=_ from k1]
   have :a≠b:=fun h=>by rw[h] at k2;simp at k2
   rw[decide_eq_false this];rfl
 ·rename_i hl;have :a≠b:=fun h=>hl (by rw[h]);rw[decide_eq_false this]
theorem JA (a b:List eu) (ha:a.length<=maxLen): ∃n:Nat,kt a b=some ((n:Int),())/\n<=a.length/\n<=b.length/\a.take n=b.take n/\(n<a.length->n<b.length->a[n]? ≠b[n]?):=by
 rcases uE (B:=ji) a.length (fun k=>((a,b,(k:Int),()),(),())) ((((a.length:Nat):Int),()),(),()) (fun k=>(((k:Int),()),(),())) (fun k=>decide (a[k]? ≠b[k]?))
  (by simp only[ji]; rw[ei,if_neg (by omega)])
  (fun k hk=>by
    have c1: (k:Int)< (a.length:Int):=by omega
    have c2: (0:Int)<=(k:Int):=by omega
    by_cases hk':k<b.length
    ·have c3: (k:Int)< (b.length:Int):=by omega
     simp only[ji,T1,ei,ek,if_pos c1,if_pos c2,if_pos c3,ap,ah hk,ah hk',ae,ey ha hk];by_cases h:a[k] =b[k]<;>simp[h]
    ·have c3: ¬ (k:Int)< (b.length:Int):=by omega
     simp only[ji,ei,if_pos c1,if_neg c3,ah hk,bR (show b.length<=k by omega)];simp) with ⟨k1,k2⟩| ⟨i,hi,k1,k2,k3⟩
 ·have eq: ∀k,k<a.length->a[k]? =b[k]? :=fun k hk=>by simpa using k2 k hk
  have hl:a.length<=b.length:=by
   rcases bn a.length with h|h
   ·omega
   ·have:=eq (a.length-1) (by omega);rw[ah (by omega)] at this;have:=i5 this.symm;omega
  refine⟨a.length,?_,ay _,hl,?_,fun h=>absurd h (dB _)⟩
  ·unfold kt;rw[show qX ((a,b,0,()),(),())=_ from k1];rfl
  ·refine bU fun k=> ?_;rw[bi,bi];split
   ·exact eq k (by assumption)
   ·rfl
 ·have eq: ∀k,k<i->a[k]? =b[k]? :=fun k hk=>by simpa using k3 k hk
  have hl:i<=b.length:=by
   rcases bn i with h|h
   ·omega
   ·have:=eq (i-1) (by omega);rw[ah (by omega)] at this;have:=i5 this.symm;omega
  refine⟨i,?_,by omega,hl,?_,fun _ _=>by simpa using k2⟩
  ·unfold kt;rw[show qX ((a,b,0,()),(),())=_ from k1];rfl
  ·refine bU fun k=> ?_;rw[bi,bi];split
   ·exact eq k (by assumption)
   ·rfl
theorem Rs (a:List eu) (n:Int) (t:List eu) (ha:a.length<=1048576) (ht:t.length<=1048576): ∃l b,ub a n t=some (l,b,())/\uw a n t=some (l,b,())/\l.length<=19:=by
 unfold ub uw zj uo;rcases uF a (ff ha) with ⟨a1,a2,a3⟩| ⟨a1,a2⟩
 case inr=>simp only[a1,a2,ae]; exact⟨_,_,rfl,rfl,aI _⟩
 rcases uF t (ff ht) with ⟨t1,t2,t3⟩| ⟨t1,t2⟩
 case inr=>simp only[a1,a2,t1,t2,ae]; exact⟨_,_,rfl,rfl,aI _⟩
 simp only[a1,a2,t1,t2,ae,fi,en,kg,mG];by_cases c1: (t.length:Int)<=3
 case neg=>simp only[ei,if_neg c1]; exact⟨_,_,rfl,rfl,aI _⟩
 rw[fP (n:=16-(t.length:Int)) (by omega) (by omega)];cases hw:je n 0 (16-(t.length:Int)) with
 |false=>simp only[ei,if_pos c1]; exact⟨_,_,rfl,rfl,aI _⟩
 |true=>
  have hw:=fK.1 hw;simp only[ei,if_pos c1,en]
  have rest: ∃l b,(if n>(a.length:Int) then some (([]:List eu),false,()) else eh (0<=n/\n<=(a.length:Int)/\(a.length:Int)<=(a.length:Int)) ((kt ((a.drop n.toNat).take ((a.length:Int).toNat-n.toNat)) t).bind fun y3=>if y3.1< (if (t.length:Int)< (IntKind.wrap .i64 ((a.length:Int)-n)) then (t.length:Int) else (IntKind.wrap .i64 ((a.length:Int)-n))) then some (([]:List eu),false,()) else ((ju a).bind fun y4=>eh (0<=y3.1/\y3.1<=(t.length:Int)/\(t.length:Int)<=(t.length:Int)) (eh ((y4.1++((t.drop y3.1.toNat).take ((t.length:Int).toNat-y3.1.toNat))).length*56<=2 ^ 40) ((iM (y4.1++((t.drop y3.1.toNat).take ((t.length:Int).toNat-y3.1.toNat)))).bind fun y5=>br y5.1 (some ((y4.1++((t.drop y3.1.toNat).take ((t.length:Int).toNat-y3.1.toNat))),true,())) (some (([]:List eu),false,()))) none) none)) none)=some (l,b,())/\
    (if n>(a.length:Int) then some (([]:List eu),false,()) else eh (0<=(if (IntKind.wrap .i64 ((a.length:Int)-n))< (t.length:Int) then (IntKind.wrap .i64 ((a.length:Int)-n)) else (t.length:Int))/\(if (IntKind.wrap .i64 ((a.length:Int)-n))< (t.length:Int) then (IntKind.wrap .i64 ((a.length:Int)-n)) else (t.length:Int))<=(t.length:Int)/\(t.length:Int)<=(t.length:Int)) ((kX ([a,((t.drop (if (IntKind.wrap .i64 ((a.length:Int)-n))< (t.length:Int) then (IntKind.wrap .i64 ((a.length:Int)-n)) else (t.length:Int)).toNat).take ((t.length:Int).toNat-(if (IntKind.wrap .i64 ((a.length:Int)-n))< (t.length:Int) then (IntKind.wrap .i64 ((a.length:Int)-n)) else (t.length:Int)).toNat))]:List (List eu))).bind fun y3=>eh (0<=n/\n<=(IntKind.wrap .i64 (n+(if (IntKind.wrap .i64 ((a.length:Int)-n))< (t.length:Int) then (IntKind.wrap .i64 ((a.length:Int)-n)) else (t.length:Int))))/\(IntKind.wrap .i64 (n+(if (IntKind.wrap .i64 ((a.length:Int)-n))< (t.length:Int) then (IntKind.wrap .i64 ((a.length:Int)-n)) else (t.length:Int))))<=(a.length:Int)) (eh (0<=(0:Int)/\(0:Int)<=(if (IntKind.wrap .i64 ((a.length:Int)-n))< (t.length:Int) then (IntKind.wrap .i64 ((a.length:Int)-n)) else (t.length:Int))/\(if (IntKind.wrap .i64 ((a.length:Int)-n))< (t.length:Int) then (IntKind.wrap .i64 ((a.length:Int)-n)) else (t.length:Int))<=(t.length:Int)) ((mg ((a.drop n.toNat).take ((IntKind.wrap .i64 (n+(if (IntKind.wrap .i64 ((a.length:Int)-n))< (t.length:Int) then (IntKind.wrap .i64 ((a.length:Int)-n)) else (t.length:Int)))).toNat-n.toNat)) ((t.drop (0:Int).toNat).take ((if (IntKind.wrap .i64 ((a.length:Int)-n))< (t.length:Int) then (IntKind.wrap .i64 ((a.length:Int)-n)) else (t.length:Int)).toNat-(0:Int).toNat))).bind fun y4=>br y4.1 ((ln y3.1).bind fun y5=>br y5.1 (some (y3.1,true,())) (some (([]:List eu),false,()))) (some (([]:List eu),false,()))) none) none) none)=some (l,b,())/\l.length<=19:=by
   by_cases c2:n>(a.length:Int)
   ·simp only[if_pos c2];exact⟨_,_,rfl,rfl,aI _⟩
   ·rw[fP (n:=(a.length:Int)-n) (by omega) (by omega)];obtain⟨i,rfl⟩: ∃i:Nat,n=(i:Int):=⟨n.toNat,by omega⟩
    have hm: (if (a.length:Int)-(i:Int)< (t.length:Int) then (a.length:Int)-(i:Int) else (t.length:Int))=((min t.length (a.length-i):Nat):Int):=by split<;>omega
    have hm2: (if (t.length:Int)< (a.length:Int)-(i:Int) then (t.length:Int) else (a.length:Int)-(i:Int))=((min t.length (a.length-i):Nat):Int):=by split<;>omega
    rw[hm,hm2];generalize hM:min t.length (a.length-i)=m;have d1: (0:Int)<=(i:Int)/\(i:Int)<=(a.length:Int)/\(a.length:Int)<=(a.length:Int):=by omega
    have d2: (0:Int)<=(m:Int)/\(m:Int)<=(t.length:Int)/\(t.length:Int)<=(t.length:Int):=by omega
    have d3: (0:Int)<=(i:Int)/\(i:Int)<=((i:Int)+(m:Int))/\((i:Int)+(m:Int))<=(a.length:Int):=by omega
    have d4: (0:Int)<=0/\(0:Int)<=(m:Int)/\(m:Int)<=(t.length:Int):=by omega
    have e1: (a.drop i).take (a.length-i)=a.drop i:=bh (by simp);have e2: (t.drop m).take (t.length-m)=t.drop m:=bh (by simp);have e3: ((i:Int)+(m:Int)).toNat-i=m:=by omega
    have hc:=Tp [a,t.drop m] (by simp) (by
     intro z hz;simp only[aW,List.not_mem_nil,or_false] at hz;rcases hz with rfl|rfl
     ·omega
     ·simp; omega)
    rw[show ([a,t.drop m]:List (List eu)).flatten=a++t.drop m by simp] at hc;rw[fP (n:=(i:Int)+(m:Int)) (by omega) (by omega)];have hx: (a++t.drop m).length<=19:=by simp; omega
    have hxm: (a++t.drop m).length<=maxLen:=by unfold maxLen; omega
    have he:=UW ((a.drop i).take m) (t.take m) (by simp[maxLen]; omega);obtain⟨k,k1,k2,k3,k4,k5⟩:=JA (a.drop i) t (by simp[maxLen]; omega);simp only[if_neg c2,ek,if_pos d1,if_pos d2,if_pos d3,if_pos d4,ap,cQ,bJ,cK,e1,e2,e3,hc,he,k1,ae,ei];have hk:k<=m:=by simp at k2; omega
    by_cases hkm:k=m
    ·subst hkm;simp only[if_neg (show ¬ ((k:Int)< (k:Int)) by omega),(ot a ha).1,ae,if_pos d2,e2,if_pos k4];rw[if_pos (A0 (by omega) (by decide))];rcases uF (a++t.drop k) hxm with ⟨z1,z2,_⟩| ⟨z1,z2⟩
     ·simp only[z1,z2,ae];exact⟨_,_,rfl,rfl,hx⟩
     ·simp only[z1,z2,ae];exact⟨_,_,rfl,rfl,aI _⟩
    ·have hlt:k<m:=by omega
     have hne: ¬ (a.drop i).take m=t.take m:=fun h=>by have:=congrArg (fun z:List eu=>z[k]?) h;simp only[bi,if_pos hlt] at this;exact k5 (by simp; omega) (by omega) this
     simp only[if_pos (show ((k:Int)< (m:Int)) by omega),if_neg hne];exact⟨_,_,rfl,rfl,aI _⟩
  by_cases h0:n=0
  ·simp only[gP,if_pos h0,en];exact rest
  ·simp only[gP,if_neg h0];by_cases h3: (t.length:Int)=3
   ·simp only[h3,beq_self_eq_true,en];rw[h3] at rest;exact rest
   ·have : ((t.length:Int)==3)=false:=by simpa using h3
    simp only[this,eB];exact⟨_,_,rfl,rfl,aI _⟩
end Go.Proofs.YtjnleglhcppgcaaGreat.En
