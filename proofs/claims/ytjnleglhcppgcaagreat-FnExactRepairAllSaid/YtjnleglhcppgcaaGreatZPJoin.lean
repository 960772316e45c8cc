/- JoinTail: the plain law. -/
import Derived.Test.YtjnleglhcppgcaaGreatZPServe
import Derived.Test.YtjnleglhcppgcaaGreatZPData
namespace Go.Proofs.YtjnleglhcppgcaaGreat.En
open Go
theorem OV (n:Int) (h0:0<=n) (h1:n<=1000000):ld n=some ([],()):=by
 unfold ld;have e1:IntKind.wrap .i64 ((0:Int)-0)=0:=eK (by decide) (by decide);have e2:IntKind.wrap .i64 (n-0)=n:=by rw[eK (by omega) (by omega)]; omega
 simp only[e1,e2,dV,if_neg (show ¬n<0 by omega)];by_cases h:n>0
 ·have e: (2:Int) ^ 40=1099511627776:=by decide
  have c1:0<n/\n*((56:Nat):Int)<=2 ^ 40:=⟨h,by omega⟩
  have c2: (0:Int)<=0/\(0:Int)<=0/\(0:Int)<=((n.toNat:Nat):Int):=by omega
  simp only[if_pos h,dZ,if_pos c1,if_pos c2,and_self,if_true];simp
 ·simp only[if_neg h]
theorem Qv (l:List (List ea)) (hl:l.length<=10) (h: ∀a∈l,a.length<=1000):jV l=some (l.flatten,()):=by
 have hm:l.length<=maxLen:=by unfold maxLen; omega
 have tot: ∀k,(l.take k).flatten.length<=k*1000:=by
  intro k
  induction k with
  |zero=>simp
  |succ k ih=>
   cases hx:l[k]? with
   |none=>
    have hle:l.length<=k:=by simpa using hx
    rw[bf hle] at ih;rw[bf (cg hle)];exact bI ih (bF _ (dN k))
   |some a=>rw[gr hx,cI,be];have:=h a (aq hx);simp only[List.flatten_cons,List.flatten_nil,bw];rw[Nat.succ_mul];exact Nat.add_le_add ih this
 have k1:=gJ (B:=iW) l (fun k (n:Int)=>((l,n,l,(l.length:Int),(k:Int),()),(),())) (fun k n=>n=((l.take k).flatten.length:Int)) (fun _ _ _=>((l,(l.flatten.length:Int),()),(),()))
  (fun n hn=>by simp only[iW];rw[dV,if_neg (by omega),hn,aX])
  (fun k n a hx hn=>by
    have hk:=fR hx;have c1: (k:Int)< (l.length:Int):=by omega
    have c2: (0:Int)<=(k:Int):=by omega
    have t:=tot k;have ha:=h a (aq hx);have hk10:k*1000<=10000:=by omega
    refine .inl ⟨n+(a.length:Int),?_,?_,rfl⟩
    ·simp only[iW,dV,dZ,if_pos c1,if_pos c2,ao,hx,ae,ec hm hk,eK (n:=n+(a.length:Int)) (by omega) (by omega),if_neg (show ¬n+(a.length:Int)<0 by omega)]
    ·rw[gr hx,cI,be,hn];simp)
  0 0 (aF _) (by simp)
 have t:=tot l.length;rw[aX] at t
 have k2:=gJ (B:=iB) l (fun k (b:List ea)=>(((),l,(l.length:Int),(k:Int),()),(),(b,()))) (fun k b=>b=(l.take k).flatten) (fun _ _ _=>(((),()),(),(l.flatten,())))
  (fun b hb=>by simp only[iB];rw[dV,if_neg (by omega),hb,aX])
  (fun k b a hx hb=>by
    have hk:=fR hx;have c1: (k:Int)< (l.length:Int):=by omega
    have c2: (0:Int)<=(k:Int):=by omega
    have t:=tot k;have ha:=h a (aq hx);have hs: (b++a).length*56<=2 ^ 40:=yG (by rw[hb,be]; omega) (by decide);refine .inl ⟨b++a,?_,?_,rfl⟩
    ·simp only[iB,dV,dZ,if_pos c1,if_pos c2,ao,hx,ae,ec hm hk,if_pos hs]
    ·rw[gr hx,cI,hb];simp)
  0 [] (aF _) (by simp)
 unfold jV;rw[show sR ((l,0,l,(l.length:Int),0,()),(),())=_ from k1];simp only[ae,OV _ (show (0:Int)<=(l.flatten.length:Int) by omega) (by omega)];rw[show sn (((),l,(l.length:Int),0,()),(),([],()))=_ from k2];rfl
theorem QV (x y:ea): ((x.epoch==y.epoch)&&((x.op.client==y.op.client)&&((x.op.seq==y.op.seq)&&((x.op.kind==y.op.kind)&&((x.op.object==y.op.object)&&((x.op.old==y.op.old)&&((x.op.value==y.op.value)&&true)))))))=decide (x=y):=by obtain⟨a,b,c,d,e,f,g⟩:=x;obtain⟨a',b',c',d',e',f',g'⟩:=y;rw[b9];simp[and_assoc]
theorem RZ (a b:List ea) (ha:a.length<=maxLen):lf a b=some (decide (a=b),()):=by
 unfold lf;rw[fg,kt];split
 ·rename_i hl;have hl:a.length=b.length:=by omega
  rcases wn (B:=jm) a.length (fun k=>((a,b,(a.length:Int),(k:Int),()),(),())) (.inr (((),()),(),())) (fun _=> .inl ((false,()),(),())) (fun k=>decide (a[k]? ≠b[k]?))
   (by simp only[jm]; rw[dV,if_neg (by omega)])
   (fun k hk=>by
     have c1: (k:Int)< (a.length:Int):=by omega
     have c2: (0:Int)<=(k:Int):=by omega
     have hk':k<b.length:=by omega
     simp only[jm,QV,fg,dV,dZ,if_pos c1,if_pos c2,ao,ah hk,ah hk',ae,ec ha hk];by_cases h:a[k] =b[k]<;>simp[h]) with ⟨k1,k2⟩| ⟨i,hi,k1,k2,_⟩
  ·rw[show pT ((a,b,(a.length:Int),0,()),(),())=_ from k1]
   have :a=b:=List.ext_getElem hl fun k h1 h2=>by have:=k2 k h1;rw[ah h1,ah h2] at this;simpa using this
   rw[decide_eq_true this];rfl
  ·rw[show pT ((a,b,(a.length:Int),0,()),(),())=_ from k1]
   have :a≠b:=fun h=>by rw[h] at k2;simp at k2
   rw[decide_eq_false this];rfl
 ·rename_i hl;have :a≠b:=fun h=>hl (by rw[h]);rw[decide_eq_false this]
theorem Hx (a b:List ea) (ha:a.length<=maxLen): ∃n:Nat,jw a b=some ((n:Int),())/\n<=a.length/\n<=b.length/\a.take n=b.take n/\(n<a.length->n<b.length->a[n]? ≠b[n]?):=by
 rcases wn (B:=iz) a.length (fun k=>((a,b,(k:Int),()),(),())) ((((a.length:Nat):Int),()),(),()) (fun k=>(((k:Int),()),(),())) (fun k=>decide (a[k]? ≠b[k]?))
  (by simp only[iz]; rw[dV,if_neg (by omega)])
  (fun k hk=>by
    have c1: (k:Int)< (a.length:Int):=by omega
    have c2: (0:Int)<=(k:Int):=by omega
    by_cases hk':k<b.length
    ·have c3: (k:Int)< (b.length:Int):=by omega
     simp only[iz,QV,dV,dZ,if_pos c1,if_pos c2,if_pos c3,ao,ah hk,ah hk',ae,ec ha hk];by_cases h:a[k] =b[k]<;>simp[h]
    ·have c3: ¬ (k:Int)< (b.length:Int):=by omega
     simp only[iz,dV,if_pos c1,if_neg c3,ah hk,bM (show b.length<=k by omega)];simp) with ⟨k1,k2⟩| ⟨i,hi,k1,k2,k3⟩
 ·have eq: ∀k,k<a.length->a[k]? =b[k]? :=fun k hk=>by simpa using k2 k hk
  have hl:a.length<=b.length:=by
   rcases bh a.length with h|h
   ·omega
   ·have:=eq (a.length-1) (by omega);rw[ah (by omega)] at this;have:=fR this.symm;omega
  refine⟨a.length,?_,ay _,hl,?_,fun h=>absurd h (dz _)⟩
  ·unfold jw;rw[show pN ((a,b,0,()),(),())=_ from k1];rfl
  ·refine bN fun k=> ?_;rw[aZ,aZ];split
   ·exact eq k (by assumption)
   ·rfl
 ·have eq: ∀k,k<i->a[k]? =b[k]? :=fun k hk=>by simpa using k3 k hk
  have hl:i<=b.length:=by
   rcases bh i with h|h
   ·omega
   ·have:=eq (i-1) (by omega);rw[ah (by omega)] at this;have:=fR this.symm;omega
  refine⟨i,?_,by omega,hl,?_,fun _ _=>by simpa using k2⟩
  ·unfold jw;rw[show pN ((a,b,0,()),(),())=_ from k1];rfl
  ·refine bN fun k=> ?_;rw[aZ,aZ];split
   ·exact eq k (by assumption)
   ·rfl
theorem OW (a:List ea) (n:Int) (t:List ea) (ha:a.length<=1048576) (ht:t.length<=1048576): ∃l b,rT a n t=some (l,b,())/\so a n t=some (l,b,())/\l.length<=19:=by
 unfold rT so wX sd;rcases vj a (eR ha) with ⟨a1,a2,a3⟩| ⟨a1,a2⟩
 case inr=>simp only[a1,a2,ae]; exact⟨_,_,rfl,rfl,aF _⟩
 rcases vj t (eR ht) with ⟨t1,t2,t3⟩| ⟨t1,t2⟩
 case inr=>simp only[a1,a2,t1,t2,ae]; exact⟨_,_,rfl,rfl,aF _⟩
 simp only[a1,a2,t1,t2,ae,fg,eb,lV,nX];by_cases c1: (t.length:Int)<=3
 case neg=>simp only[dV,if_neg c1]; exact⟨_,_,rfl,rfl,aF _⟩
 rw[eK (n:=16-(t.length:Int)) (by omega) (by omega)];cases hw:kE n 0 (16-(t.length:Int)) with
 |false=>simp only[dV,if_pos c1]; exact⟨_,_,rfl,rfl,aF _⟩
 |true=>
  have hw:=fB.1 hw;simp only[dV,if_pos c1,eb]
  have rest: ∃l b,(if n>(a.length:Int) then some (([]:List ea),false,()) else dU (0<=n/\n<=(a.length:Int)/\(a.length:Int)<=(a.length:Int)) ((jw ((a.drop n.toNat).take ((a.length:Int).toNat-n.toNat)) t).bind fun y3=>if y3.1< (if (t.length:Int)< (IntKind.wrap .i64 ((a.length:Int)-n)) then (t.length:Int) else (IntKind.wrap .i64 ((a.length:Int)-n))) then some (([]:List ea),false,()) else ((iM a).bind fun y4=>dU (0<=y3.1/\y3.1<=(t.length:Int)/\(t.length:Int)<=(t.length:Int)) (dU ((y4.1++((t.drop y3.1.toNat).take ((t.length:Int).toNat-y3.1.toNat))).length*56<=2 ^ 40) ((mp (y4.1++((t.drop y3.1.toNat).take ((t.length:Int).toNat-y3.1.toNat)))).bind fun y5=>br y5.1 (some ((y4.1++((t.drop y3.1.toNat).take ((t.length:Int).toNat-y3.1.toNat))),true,())) (some (([]:List ea),false,()))) none) none)) none)=some (l,b,())/\
    (if n>(a.length:Int) then some (([]:List ea),false,()) else dU (0<=(if (IntKind.wrap .i64 ((a.length:Int)-n))< (t.length:Int) then (IntKind.wrap .i64 ((a.length:Int)-n)) else (t.length:Int))/\(if (IntKind.wrap .i64 ((a.length:Int)-n))< (t.length:Int) then (IntKind.wrap .i64 ((a.length:Int)-n)) else (t.length:Int))<=(t.length:Int)/\(t.length:Int)<=(t.length:Int)) ((jV ([a,((t.drop (if (IntKind.wrap .i64 ((a.length:Int)-n))< (t.length:Int) then (IntKind.wrap .i64 ((a.length:Int)-n)) else (t.length:Int)).toNat).take ((t.length:Int).toNat-(if (IntKind.wrap .i64 ((a.length:Int)-n))< (t.length:Int) then (IntKind.wrap .i64 ((a.length:Int)-n)) else (t.length:Int)).toNat))]:List (List ea))).bind fun y3=>dU (0<=n/\n<=(IntKind.wrap .i64 (n+(if (IntKind.wrap .i64 ((a.length:Int)-n))< (t.length:Int) then (IntKind.wrap .i64 ((a.length:Int)-n)) else (t.length:Int))))/\(IntKind.wrap .i64 (n+(if (IntKind.wrap .i64 ((a.length:Int)-n))< (t.length:Int) then (IntKind.wrap .i64 ((a.length:Int)-n)) else (t.length:Int))))<=(a.length:Int)) (dU (0<=(0:Int)/\(0:Int)<=(if (IntKind.wrap .i64 ((a.length:Int)-n))< (t.length:Int) then (IntKind.wrap .i64 ((a.length:Int)-n)) else (t.length:Int))/\(if (IntKind.wrap .i64 ((a.length:Int)-n))< (t.length:Int) then (IntKind.wrap .i64 ((a.length:Int)-n)) else (t.length:Int))<=(t.length:Int)) ((lf ((a.drop n.toNat).take ((IntKind.wrap .i64 (n+(if (IntKind.wrap .i64 ((a.length:Int)-n))< (t.length:Int) then (IntKind.wrap .i64 ((a.length:Int)-n)) else (t.length:Int)))).toNat-n.toNat)) ((t.drop (0:Int).toNat).take ((if (IntKind.wrap .i64 ((a.length:Int)-n))< (t.length:Int) then (IntKind.wrap .i64 ((a.length:Int)-n)) else (t.length:Int)).toNat-(0:Int).toNat))).bind fun y4=>br y4.1 ((mq y3.1).bind fun y5=>br y5.1 (some (y3.1,true,())) (some (([]:List ea),false,()))) (some (([]:List ea),false,()))) none) none) none)=some (l,b,())/\l.length<=19:=by
   by_cases c2:n>(a.length:Int)
   ·simp only[if_pos c2];exact⟨_,_,rfl,rfl,aF _⟩
   ·rw[eK (n:=(a.length:Int)-n) (by omega) (by omega)];obtain⟨i,rfl⟩: ∃i:Nat,n=(i:Int):=⟨n.toNat,by omega⟩
    have hm: (if (a.length:Int)-(i:Int)< (t.length:Int) then (a.length:Int)-(i:Int) else (t.length:Int))=((min t.length (a.length-i):Nat):Int):=by split<;>omega
    have hm2: (if (t.length:Int)< (a.length:Int)-(i:Int) then (t.length:Int) else (a.length:Int)-(i:Int))=((min t.length (a.length-i):Nat):Int):=by split<;>omega
    rw[hm,hm2];generalize hM:min t.length (a.length-i)=m;have d1: (0:Int)<=(i:Int)/\(i:Int)<=(a.length:Int)/\(a.length:Int)<=(a.length:Int):=by omega
    have d2: (0:Int)<=(m:Int)/\(m:Int)<=(t.length:Int)/\(t.length:Int)<=(t.length:Int):=by omega
    have d3: (0:Int)<=(i:Int)/\(i:Int)<=((i:Int)+(m:Int))/\((i:Int)+(m:Int))<=(a.length:Int):=by omega
    have d4: (0:Int)<=0/\(0:Int)<=(m:Int)/\(m:Int)<=(t.length:Int):=by omega
    have e1: (a.drop i).take (a.length-i)=a.drop i:=bf (by simp);have e2: (t.drop m).take (t.length-m)=t.drop m:=bf (by simp);have e3: ((i:Int)+(m:Int)).toNat-i=m:=by omega
    have hc:=Qv [a,t.drop m] (by simp) (by
     intro z hz;simp only[aR,List.not_mem_nil,or_false] at hz;rcases hz with rfl|rfl
     ·omega
     ·simp; omega)
    rw[show ([a,t.drop m]:List (List ea)).flatten=a++t.drop m by simp] at hc;rw[eK (n:=(i:Int)+(m:Int)) (by omega) (by omega)];have hx: (a++t.drop m).length<=19:=by simp; omega
    have hxm: (a++t.drop m).length<=maxLen:=by unfold maxLen; omega
    have he:=RZ ((a.drop i).take m) (t.take m) (by simp[maxLen]; omega);obtain⟨k,k1,k2,k3,k4,k5⟩:=Hx (a.drop i) t (by simp[maxLen]; omega);simp only[if_neg c2,dZ,if_pos d1,if_pos d2,if_pos d3,if_pos d4,ao,cT,bJ,cK,e1,e2,e3,hc,he,k1,ae,dV];have hk:k<=m:=by simp at k2; omega
    by_cases hkm:k=m
    ·subst hkm;simp only[if_neg (show ¬ ((k:Int)< (k:Int)) by omega),(pk a ha).1,ae,if_pos d2,e2,if_pos k4];rw[if_pos (yG (by omega) (by decide))];rcases vj (a++t.drop k) hxm with ⟨z1,z2,_⟩| ⟨z1,z2⟩
     ·simp only[z1,z2,ae];exact⟨_,_,rfl,rfl,hx⟩
     ·simp only[z1,z2,ae];exact⟨_,_,rfl,rfl,aF _⟩
    ·have hlt:k<m:=by omega
     have hne: ¬ (a.drop i).take m=t.take m:=fun h=>by have:=congrArg (fun z:List ea=>z[k]?) h;simp only[aZ,if_pos hlt] at this;exact k5 (by simp; omega) (by omega) this
     simp only[if_pos (show ((k:Int)< (m:Int)) by omega),if_neg hne];exact⟨_,_,rfl,rfl,aF _⟩
  by_cases h0:n=0
  ·simp only[kt,if_pos h0,eb];exact rest
  ·simp only[kt,if_neg h0];by_cases h3: (t.length:Int)=3
   ·simp only[h3,beq_self_eq_true,eb];rw[h3] at rest;exact rest
   ·have : ((t.length:Int)==3)=false:=by simpa using h3
    simp only[this,ek];exact⟨_,_,rfl,rfl,aF _⟩
end Go.Proofs.YtjnleglhcppgcaaGreat.En
