/- Placement: racks, a spare server, the members planned, the next configuration. -/
import Derived.Test.YtjnleglhcppgcaaGreatZPServe
import Derived.Test.YtjnleglhcppgcaaGreatZPCan
import Derived.Test.YtjnleglhcppgcaaGreatZPUpg
namespace Go.Proofs.YtjnleglhcppgcaaGreat.En
open Go
theorem s5 {σ1 ε1 σ2 ε2 β:Type} {B1:σ1->Option (σ1⊕ε1)} {B2:σ2->Option (σ2⊕ε2)} (n:Nat) (m1:Nat->β->σ1) (m2:Nat->β->σ2) (J:Nat->β->Prop) (E1:β->ε1) (E2:β->ε2)
  (h0: ∀b,J n b->B1 (m1 n b)=some (.inr (E1 b))/\B2 (m2 n b)=some (.inr (E2 b)))
  (h1: ∀k b,k<n->J k b-> ∃b',B1 (m1 k b)=some (.inl (m1 (k+1) b'))/\B2 (m2 k b)=some (.inl (m2 (k+1) b'))/\J (k+1) b')
  (b:β) (hb:J 0 b): ∃b',J n b'/\gt B1 (m1 0 b)=some (E1 b')/\gt B2 (m2 0 b)=some (E2 b'):=by
 have go: ∀ (d k:Nat) (b:β),k+d=n->J k b-> ∃b',J n b'/\gt B1 (m1 k b)=some (E1 b')/\gt B2 (m2 k b)=some (E2 b'):=by
  intro d
  induction d with
  |zero=>
   intro k b hk hj;have :k=n:=by omega
   subst this;exact⟨b,hj,ga (h0 b hj).1,ga (h0 b hj).2⟩
  |succ d ih=>intro k b hk hj;obtain⟨b',p1,p2,p3⟩:=h1 k b (by omega) hj;obtain⟨c,q1,q2,q3⟩:=ih (k+1) b' (by omega) p3;exact⟨c,q1,by rw[j7 p1]; exact q2,by rw[j7 p2]; exact q3⟩
 exact go n 0 b (by omega) hb
theorem Qx (l:List ew) (hl:l.length<=maxLen) (hv:gD l=some (true,())) (m:List Int) (hm:wm m) (h1:gb m=some (true,())) (h2:gg m=some (true,())): ∃r,tY l m=some (r,())/\ua l m=some (r,())/\r.length<=5:=by
 have h5:=AY hl hv
 have hp2:iO l=some (true,()):=by obtain⟨b,a1,a2⟩:=pX l hl;rw[hv] at a1;simp only[af,an,and_true] at a1;subst a1;exact a2
 have ml:=hm.len;have mm:m.length<=maxLen:=by unfold maxLen; omega
 let R:List Int:=m.map fun id=>match l[id.toNat]? with |some p=>p.rack|none=>0
 have hR:R.length=m.length:=by simp[R]
 have at_: ∀k,(hk:k<m.length)-> ∃p,l[m[k].toNat]? =some p/\0<=m[k] /\R[k]? =some p.rack:=by
  intro k hk;have hr:=(hm k hk).1;have hlt:m[k].toNat<l.length:=by omega
  refine⟨_,ah hlt,hr.1,?_⟩;simp only[R,ap,ah hk,aB,ah hlt]
 obtain⟨r,r1,r2,r3,r4⟩:=OS (B:=oB) (mk:=fun k v=>((l,m,(),(k:Int),()),(),(v,()))) (E:=fun v=>(((),()),(),(v,()))) R (by omega)
  (fun v=>by simp only[oB]; rw[dV,if_neg (by omega)])
  (fun k v x hx=>by
    have hk:k<m.length:=by have:=fR hx;omega
    have c1: (k:Int)< (m.length:Int):=by omega
    have c2: (0:Int)<=(k:Int):=by omega
    obtain⟨p,p1,p2,p3⟩:=at_ k hk;rw[hx] at p3;have p3:=Option.some.inj p3;simp only[oB,dV,eb,dZ,if_pos c1,if_pos c2,ao,ah hk,ae,hv,h1,if_pos p2,p1,ec mm hk,p3])
  [] List.Pairwise.nil (aF _)
 have kI:=gJ (B:=oE) m (fun k (v:List Int)=>((l,(),m,(m.length:Int),(k:Int),()),(),(v,()))) (fun k v=>v=R.take k) (fun _ _ _=>(((),()),(),(R,())))
  (fun v h=>by simp only[oE];rw[dV,if_neg (by omega),h,bf (by omega)])
  (fun k v x hx h=>by
    have hk:=fR hx;have c1: (k:Int)< (m.length:Int):=by omega
    have c2: (0:Int)<=(k:Int):=by omega
    obtain⟨p,p1,p2,p3⟩:=at_ k hk;have h40: (v++ [p.rack]).length*8<=2 ^ 40:=jC (by rw[h]; simp; omega);simp only[oE,dV,dZ,if_pos c1,if_pos c2,ao,ah hk,ae,if_pos p2,p1,ec mm hk,if_pos h40];refine .inl ⟨v++ [p.rack],rfl,?_,trivial⟩;rw[h,gr p3])
  0 [] (aF _) rfl
 obtain⟨s,s1,s2,s3,s4⟩:=F1 R (by omega);have hrs:r=s:=r2.uniq s2 fun y=>by rw[r3,s3]; simp
 subst hrs;unfold tY ua;rw[show Bo ((l,m,(),0,()),(),([],()))=_ from r1];simp only[hp2,h2,ae,bg,ek];rw[show Br ((l,(),m,(m.length:Int),0,()),(),([],()))=_ from kI];simp only[ae,s1];exact⟨r,rfl,rfl,by omega⟩
theorem K4 {l:List Int} (h:SS l) (hr: ∀y∈l,0<=y/\y<5):wm l:=by intro k hk;have:=hr _ (aW hk);exact⟨by omega,fun h0=>bE.1 h _ _ (by omega) hk (by omega)⟩
theorem Hz {l:List Int} (h:wm l):gb l=some (true,())/\gg l=some (true,()):=by
 have hl:=h.len;have hm:l.length<=maxLen:=by unfold maxLen; omega
 obtain⟨_,_,h1,h2⟩:=s5 (B1:=gZ) (B2:=hO) l.length (fun k (_:Unit)=>((l,(k:Int),()),(),())) (fun k _=>((l,l,(l.length:Int),(k:Int),()),(),())) (fun _ _=>True) (fun _=> .inr (((),()),(),())) (fun _=> .inr (((),()),(),()))
  (fun _ _=>by simp only[gZ,hO,dV];exact⟨if_neg (by omega),if_neg (by omega)⟩)
  (fun k _ hk _=>by
    have c1: (k:Int)< (l.length:Int):=by omega
    have c2: (0:Int)<=(k:Int):=by omega
    obtain⟨r1,r2⟩:=h k hk;have w:kE l[k] 0 4=true:=fB.2 r1;refine⟨(),?_⟩;simp only[gZ,hO,dV,dZ,if_pos c1,if_pos c2,ao,ah hk,ae,lV,nX,w,bg,ek,ec hm hk];by_cases h0:0<k
    ·have c3: (k:Int)>0:=by omega
     have c4: (0:Int)<=((k-1:Nat):Int):=by omega
     have e2:l[k-1]? =some l[k-1] :=ah (by omega);have:=r2 h0;simp only[if_pos c3,lX h0 (by omega),if_pos c4,ao,e2,ae,if_neg (show ¬l[k-1] ≥l[k] by omega),if_neg (show ¬l[k] <=l[k-1] by omega),and_self]
    ·simp only[if_neg (show ¬ (k:Int)>0 by omega),and_self])
  () trivial
 unfold gb gg;rw[show oP ((l,0,()),(),())=_ from h1,show o3 ((l,l,(l.length:Int),0,()),(),())=_ from h2];exact⟨rfl,rfl⟩
theorem F2 (l:List ew) (hl:l.length<=maxLen) (hv:gD l=some (true,())) (m a:List Int) (hm:wm m) (ha:a.length<=maxLen): ∃n,lw l m a=some (n,())/\lx l m a=some (n,())/\(n= -1\/(0<=n/\n<5/\n∉m)):=by
 have h5:=AY hl hv;obtain⟨h1,h2⟩:=Hz hm;obtain⟨r,r1,r2,r3⟩:=Qx l hl hv m hm h1 h2;have ml:=hm.len;have mm:m.length<=maxLen:=by unfold maxLen; omega
 have rm:r.length<=maxLen:=by unfold maxLen; omega
 obtain⟨n,n1,n2,n3⟩:=s5 (B1:=l7) (B2:=me) 5 (fun k (b:Int)=>((l,m,a,b,(),(k:Int),()),(),(r,()))) (fun k b=>((l,m,a,b,(),(k:Int),()),(),(r,()))) (fun _ b=>b= -1\/(0<=b/\b<5/\b∉m)) (fun b=>((b,()),(),())) (fun b=>((b,()),(),()))
  (fun b hb=>by simp only[l7,me,dV];exact⟨if_neg (by omega),if_neg (by omega)⟩)
  (fun k b hk hb=>by
    have c1: (k:Int)<5:=by omega
    have c2: (0:Int)<=(k:Int):=by omega
    have hlt:k<l.length:=by omega
    obtain⟨q1,q2⟩:=Qw l hl hv k hk;obtain⟨t1,t2⟩:=gp m (k:Int) mm;obtain⟨u1,u2⟩:=gp a (k:Int) ha;obtain⟨w1,w2⟩:=gp r l[k].rack rm;have sw:=ec (n:=5) (by decide) hk;simp only[l7,me,dV,fg,if_pos c1,h1,eb,ae,q1,q2,t1,t2,u1,u2,sw];cases Hy l k with
    |false=>exact⟨b,rfl,rfl,hb⟩
    |true=>
     by_cases hmem: (k:Int)∈m
     ·simp only[eb,if_pos hmem];exact⟨b,rfl,rfl,hb⟩
     ·have hk': (k:Int)= -1\/(0<=(k:Int)/\(k:Int)<5/\(k:Int)∉m):= .inr ⟨c2,c1,hmem⟩;by_cases hav: (k:Int)∈a
      ·simp only[eb,if_neg hmem,if_pos hav];exact⟨b,rfl,rfl,hb⟩
      ·simp only[eb,if_neg hmem,if_neg hav];rcases hb with rfl| ⟨b0,b5,bm⟩
       ·simp only[if_pos (show (-1:Int)<0 by omega)];exact⟨k,rfl,rfl,hk'⟩
       ·have hbl:b.toNat<l.length:=by omega
        obtain⟨z1,z2⟩:=gp r l[b.toNat].rack rm;simp only[if_neg (show ¬b<0 by omega),uz,dZ,if_pos c2,if_pos b0,ao,ah hlt,ah hbl,ae,w1,w2,z1,z2,fg];by_cases e1:l[k].rack∈r<;>by_cases e2:l[b.toNat].rack∈r<;>by_cases e3:l[k].load<l[b.toNat].load<;>simp only[e1,e2,e3,decide_true,decide_false,beq_self_eq_true,eb,ek,if_true,if_false,bg,dK,beq_iff_eq]
        all_goals first |exact⟨k,rfl,rfl,hk'⟩|exact⟨b,rfl,rfl, .inr ⟨b0,b5,bm⟩⟩)
  (-1) (.inl rfl)
 unfold lw lx;simp only[r1,r2,h2,ae,bg,ek];rw[show xC ((l,m,a,(-1),(),0,()),(),(r,()))=_ from n2,show xK ((l,m,a,(-1),(),0,()),(),(r,()))=_ from n3];exact⟨n,rfl,rfl,n1⟩
end Go.Proofs.YtjnleglhcppgcaaGreat.En
