/- Placement: racks, a spare server, the members planned, the next configuration. -/
import Derived.Test.YtjnleglhcppgcaaGreatZPServe
import Derived.Test.YtjnleglhcppgcaaGreatZPCan
import Derived.Test.YtjnleglhcppgcaaGreatZPUpg
namespace Go.Proofs.YtjnleglhcppgcaaGreat.En
open Go
theorem Ts (l:List eN) (hl:l.length<=maxLen) (hv:ii l=some (true,())) (m:List Int) (hm:yB m) (h1:gF m=some (true,())) (h2:gH m=some (true,())): ∃r,vV l m=some (r,())/\v8 l m=some (r,())/\r.length<=5:=by
 have h5:=CP hl hv
 have hp2:jw l=some (true,()):=by obtain⟨b,a1,a2⟩:=rp l hl;rw[hv] at a1;simp only[af,an,and_true] at a1;subst a1;exact a2
 have ml:=hm.len;have mm:m.length<=maxLen:=by unfold maxLen; omega
 let R:List Int:=m.map fun id=>match l[id.toNat]? with |some p=>p.rack|none=>0
 have hR:R.length=m.length:=by simp[R]
 have at_: ∀k,(hk:k<m.length)-> ∃p,l[m[k].toNat]? =some p/\0<=m[k] /\R[k]? =some p.rack:=by
  intro k hk;have hr:=(hm k hk).1;have hlt:m[k].toNat<l.length:=by omega
  refine⟨_,ah hlt,hr.1,?_⟩;simp only[R,ar,ah hk,aB,ah hlt]
 obtain⟨r,r1,r2,r3,r4⟩:=Ro (B:=pG) (mk:=fun k v=>((l,m,(),(k:Int),()),(),(v,()))) (E:=fun v=>(((),()),(),(v,()))) R (by omega)
  (fun v=>by simp only[pG]; rw[ei,if_neg (by omega)])
  (fun k v x hx=>by
    have hk:k<m.length:=by have:=i5 hx;omega
    have c1: (k:Int)< (m.length:Int):=by omega
    have c2: (0:Int)<=(k:Int):=by omega
    obtain⟨p,p1,p2,p3⟩:=at_ k hk;rw[hx] at p3;have p3:=Option.some.inj p3;simp only[pG,ei,en,ek,if_pos c1,if_pos c2,ap,ah hk,ae,hv,h1,if_pos p2,p1,ey mm hk,p3])
  [] List.Pairwise.nil (aI _)
 have kI:=iB (B:=pK) m (fun k (v:List Int)=>((l,(),m,(m.length:Int),(k:Int),()),(),(v,()))) (fun k v=>v=R.take k) (fun _ _ _=>(((),()),(),(R,())))
  (fun v h=>by simp only[pK];rw[ei,if_neg (by omega),h,bh (by omega)])
  (fun k v x hx h=>by
    have hk:=i5 hx;have c1: (k:Int)< (m.length:Int):=by omega
    have c2: (0:Int)<=(k:Int):=by omega
    obtain⟨p,p1,p2,p3⟩:=at_ k hk;have h40: (v++ [p.rack]).length*8<=2 ^ 40:=kA (by rw[h]; simp; omega);simp only[pK,ei,ek,if_pos c1,if_pos c2,ap,ah hk,ae,if_pos p2,p1,ey mm hk,if_pos h40];refine .inl ⟨v++ [p.rack],rfl,?_,trivial⟩;rw[h,gV p3])
  0 [] (aI _) rfl
 obtain⟨s,s1,s2,s3,s4⟩:=HO R (by omega);have hrs:r=s:=r2.uniq s2 fun y=>by rw[r3,s3]; simp
 subst hrs;unfold vV v8;rw[show Df ((l,m,(),0,()),(),([],()))=_ from r1];simp only[hp2,h2,ae,aY,eB];rw[show Dj ((l,(),m,(m.length:Int),0,()),(),([],()))=_ from kI];simp only[ae,s1];exact⟨r,rfl,rfl,by omega⟩
theorem Nc {l:List Int} (h:SS l) (hr: ∀y∈l,0<=y/\y<5):yB l:=by intro k hk;have:=hr _ (aV hk);exact⟨by omega,fun h0=>bN.1 h _ _ (by omega) hk (by omega)⟩
theorem JC {l:List Int} (h:yB l):gF l=some (true,())/\gH l=some (true,()):=by
 have hl:=h.len;have hm:l.length<=maxLen:=by unfold maxLen; omega
 obtain⟨_,_,h1,h2⟩:=pc (B1:=iL) (B2:=iO) l.length (fun k (_:Unit)=>((l,(k:Int),()),(),())) (fun k _=>((l,l,(l.length:Int),(k:Int),()),(),())) (fun _ _=>True) (fun _=> .inr (((),()),(),())) (fun _=> .inr (((),()),(),()))
  (fun _ _=>by simp only[iL,iO,ei];exact⟨if_neg (by omega),if_neg (by omega)⟩)
  (fun k _ hk _=>by
    have c1: (k:Int)< (l.length:Int):=by omega
    have c2: (0:Int)<=(k:Int):=by omega
    obtain⟨r1,r2⟩:=h k hk;have w:je l[k] 0 4=true:=fK.2 r1;refine⟨(),?_⟩;simp only[iL,iO,ei,ek,if_pos c1,if_pos c2,ap,ah hk,ae,kg,mG,w,aY,eB,ey hm hk];by_cases h0:0<k
    ·have c3: (k:Int)>0:=by omega
     have c4: (0:Int)<=((k-1:Nat):Int):=by omega
     have e2:l[k-1]? =some l[k-1] :=ah (by omega);have:=r2 h0;simp only[if_pos c3,kH h0 (by omega),if_pos c4,ap,e2,ae,if_neg (show ¬l[k-1] ≥l[k] by omega),if_neg (show ¬l[k] <=l[k-1] by omega),and_self]
    ·simp only[if_neg (show ¬ (k:Int)>0 by omega),and_self])
  () trivial
 unfold gF gH;rw[show pU ((l,0,()),(),())=_ from h1,show qe ((l,l,(l.length:Int),0,()),(),())=_ from h2];exact⟨rfl,rfl⟩
theorem HP (l:List eN) (hl:l.length<=maxLen) (hv:ii l=some (true,())) (m a:List Int) (hm:yB m) (ha:a.length<=maxLen): ∃n,pH l m a=some (n,())/\pL l m a=some (n,())/\(n= -1\/(0<=n/\n<5/\n∉m)):=by
 have h5:=CP hl hv;obtain⟨h1,h2⟩:=JC hm;obtain⟨r,r1,r2,r3⟩:=Ts l hl hv m hm h1 h2;have ml:=hm.len;have mm:m.length<=maxLen:=by unfold maxLen; omega
 have rm:r.length<=maxLen:=by unfold maxLen; omega
 obtain⟨n,n1,n2,n3⟩:=pc (B1:=mZ) (B2:=nm) 5 (fun k (b:Int)=>((l,m,a,b,(),(k:Int),()),(),(r,()))) (fun k b=>((l,m,a,b,(),(k:Int),()),(),(r,()))) (fun _ b=>b= -1\/(0<=b/\b<5/\b∉m)) (fun b=>((b,()),(),())) (fun b=>((b,()),(),()))
  (fun b hb=>by simp only[mZ,nm,ei];exact⟨if_neg (by omega),if_neg (by omega)⟩)
  (fun k b hk hb=>by
    have c1: (k:Int)<5:=by omega
    have c2: (0:Int)<=(k:Int):=by omega
    have hlt:k<l.length:=by omega
    obtain⟨q1,q2⟩:=Tq l hl hv k hk;obtain⟨t1,t2⟩:=fH m (k:Int) mm;obtain⟨u1,u2⟩:=fH a (k:Int) ha;obtain⟨w1,w2⟩:=fH r l[k].rack rm;have sw:=ey (n:=5) (by decide) hk;simp only[mZ,nm,ei,fi,if_pos c1,h1,en,ae,q1,q2,t1,t2,u1,u2,sw];cases JB l k with
    |false=>exact⟨b,rfl,rfl,hb⟩
    |true=>
     by_cases hmem: (k:Int)∈m
     ·simp only[en,if_pos hmem];exact⟨b,rfl,rfl,hb⟩
     ·have hk': (k:Int)= -1\/(0<=(k:Int)/\(k:Int)<5/\(k:Int)∉m):= .inr ⟨c2,c1,hmem⟩;by_cases hav: (k:Int)∈a
      ·simp only[en,if_neg hmem,if_pos hav];exact⟨b,rfl,rfl,hb⟩
      ·simp only[en,if_neg hmem,if_neg hav];rcases hb with rfl| ⟨b0,b5,bm⟩
       ·simp only[if_pos (show (-1:Int)<0 by omega)];exact⟨k,rfl,rfl,hk'⟩
       ·have hbl:b.toNat<l.length:=by omega
        obtain⟨z1,z2⟩:=fH r l[b.toNat].rack rm;simp only[if_neg (show ¬b<0 by omega),wB,ek,if_pos c2,if_pos b0,ap,ah hlt,ah hbl,ae,w1,w2,z1,z2,fi];by_cases e1:l[k].rack∈r<;>by_cases e2:l[b.toNat].rack∈r<;>by_cases e3:l[k].load<l[b.toNat].load<;>simp only[e1,e2,e3,decide_true,decide_false,beq_self_eq_true,en,eB,if_true,if_false,aY,bT,beq_iff_eq]
        all_goals first |exact⟨k,rfl,rfl,hk'⟩|exact⟨b,rfl,rfl, .inr ⟨b0,b5,bm⟩⟩)
  (-1) (.inl rfl)
 unfold pH pL;simp only[r1,r2,h2,ae,aY,eB];rw[show zO ((l,m,a,(-1),(),0,()),(),(r,()))=_ from n2,show zZ ((l,m,a,(-1),(),0,()),(),(r,()))=_ from n3];exact⟨n,rfl,rfl,n1⟩
end Go.Proofs.YtjnleglhcppgcaaGreat.En
