/- Plain laws. -/
import Derived.Test.YtkghndikalnipabGreatZBX
set_option linter.unusedSimpArgs false
set_option linter.unusedVariables false
namespace Go.Proofs.YtkghndikalnipabGreat.En
open Go
section
def Eg(M:Nat)(c:mt):Prop:=c.replicas.length<=M/\c.witnesses.length<=M
def C9(M:Nat)(s:oU):Prop:=Eg M s.config/\s.log.length<=M/\s.learned.length<=M
def Ju(M:Nat)(m:jr):Prop:=m.configs.length<=M/\ ∀c∈m.configs,Eg M c
def C0(M:Nat)(c:oQ):Prop:=(c.servers.length<=M/\ ∀s∈c.servers,C9 M s)/\c.sides.length<=M/\Ju M c.master/\c.places.length<=M
theorem CI{n:Nat}(h:n<=1048576):n<=maxLen:=by unfold maxLen;omega
end
section
theorem E8{ρ:Type}(a b:Int)(x y:ρ):br (a==b) x y=if a=b then x else y:=by rw[Br];by_cases h:a=b<;>simp[h]
theorem CD{ρ:Type}(b:Bool)(x y:ρ):br (!b) x y=br b y x:=by cases b<;>rfl
def Fr(x a b:Int):Bool:=decide (a<=x)&&decide (x<=b)
theorem Dz(x a b:Int):CM x a b=some (Fr x a b,()):=by unfold CM Fr;rw[Bq];split<;>rename_i h<;>simp[h]
theorem Ja(x a b:Int):CQ x a b=some (Fr x a b,()):=by unfold CQ Fr;rw[Bq];split<;>rename_i h<;>simp[h]
theorem CG{x a b:Int}:Fr x a b=true↔a<=x/\x<=b:=by simp[Fr]
def Le(l:List Int):Prop:=∀k (h:k<l.length),(0<=l[k] /\l[k] <=4)/\ ∀_:0<k,l[k-1]'(by omega)<l[k]
theorem Ml(l:List Int)(hl:l.length<=maxLen): (D6 l=some (true,())/\Fd l=some (true,())/\Le l)\/(D6 l=some (false,())/\Fd l=some (false,())):=by
 have eU:=Be (B1:=Et) (B2:=Es) l.length (λk=>((l,(k:Int),()),(),())) (λk=>((l,l,(l.length:Int),(k:Int),()),(),())) (.inr (((),()),(),())) (.inr (((),()),(),())) (λ_=> .inl ((false,()),(),())) (λ_=> .inl ((false,()),(),()))
  (λk=> ∀h:k<l.length,(0<=l[k] /\l[k] <=4)/\ ∀_:0<k,l[k-1]'(by omega)<l[k]) (λ_=>True)
  (by simp only[Et];rw[Bq,if_neg (by omega)])
  (by simp only[Es];rw[Bq,if_neg (by omega)])
  (λk hk=>by
    have c1: (k:Int)< (l.length:Int):=by omega
    have c2: (0:Int)<=(k:Int):=by omega
    have e1:l[k]? =some l[k] :=an hk;simp only[Et,Es,Bq,Av,if_pos c1,if_pos c2,B8,e1,al,Dz,Ja];cases hw:Fr l[k] 0 4 with
    |false=>exact .inr ⟨rfl,rfl,trivial⟩
    |true=>
     simp only[cS,Af];have hw:=CG.1 hw;by_cases h0:0<k
     ·have c3: (k:Int)>0:=by omega
      have c4: (0:Int)<=((k-1:Nat):Int):=by omega
      have e2:l[k-1]? =some l[k-1] :=an (by omega);simp only[if_pos c3,Aa h0 (by omega),if_pos c4,B8,e2,al];by_cases hlt:l[k-1]<l[k]
      ·rw[if_neg (by omega),if_neg (by omega),Ad hl hk];exact .inl ⟨rfl,rfl,λ_=>⟨hw,λ_=>hlt⟩⟩
      ·rw[if_pos (by omega),if_pos (by omega)];exact .inr ⟨rfl,rfl,trivial⟩
     ·rw[if_neg (by omega),if_neg (by omega),Ad hl hk];exact .inl ⟨rfl,rfl,λ_=>⟨hw,λh=>absurd h h0⟩⟩)
 unfold D6 Fd;rcases eU with ⟨k1,k2,k3⟩| ⟨k,_,k1,k2,_⟩
 ·rw[show I4 ((l,0,()),(),())=_ from k1,show I3 ((l,l,(l.length:Int),0,()),(),())=_ from k2];exact .inl ⟨rfl,rfl,λk hk=>k3 k hk hk⟩
 ·rw[show I4 ((l,0,()),(),())=_ from k1,show I3 ((l,l,(l.length:Int),0,()),(),())=_ from k2];exact .inr ⟨rfl,rfl⟩
theorem Le.lt{l:List Int}(h:Le l): ∀ (d i:Nat) (h2:i+d+1<l.length),l[i]'(by omega)<l[i+d+1] :=by
 intro d
 induction d with
 |zero=>intro i h2;exact (h (i+1) h2).2 (by omega)
 |succ d ih=>intro i h2;have h1:=ih i (by omega);have h3:=(h (i+d+1+1) h2).2 (by omega);exact Int.lt_trans h1 h3
theorem Le.pair{l:List Int}(h:Le l):l.Pairwise (· < ·):=by rw[Cf];intro i j hi hj hij;have:=h.lt (j-i-1) i (by omega);simpa [show i+(j-i-1)+1=j by omega] using this
theorem Le.len{l:List Int}(h:Le l):l.length<=5:=by
 have ge: ∀k (hk:k<l.length),(k:Int)<=l[k] :=by
  intro k
  induction k with
  |zero=>intro hk;exact (h 0 hk).1.1
  |succ k ih=>intro hk;have h1:=ih (by omega);have h2:=(h (k+1) hk).2 (by omega);simp only[bI] at h2;omega
 rcases cM 5 l.length with hlt|hge
 ·have h1:=ge 5 hlt;have h2:=(h 5 hlt).1.2;omega
 ·exact hge
theorem C8(l:List Int)(x:Int)(hl:l.length<=maxLen):Dj l x=some (decide (x∈l),())/\FQ l x=some (decide (x∈l),()):=by
 have eU:=Be (B1:=GI) (B2:=F9) l.length (λk=>((l,x,(k:Int),()),(),())) (λk=>((l,x,(l.length:Int),(k:Int),()),(),())) (.inr (((),()),(),())) (.inr (((),()),(),())) (λ_=> .inl ((true,()),(),())) (λk=> .inl (((k:Int),()),(),()))
  (λk=>l[k]? ≠some x) (λk=>l[k]? =some x)
  (by simp only[GI];rw[Bq,if_neg (by omega)])
  (by simp only[F9];rw[Bq,if_neg (by omega)])
  (λk hk=>by
    have c1: (k:Int)< (l.length:Int):=by omega
    have c2: (0:Int)<=(k:Int):=by omega
    have e1:l[k]? =some l[k] :=an hk;simp only[GI,F9,Bq,Av,if_pos c1,if_pos c2,B8,e1,al,Ad hl hk,E8];by_cases he:l[k] =x
    ·rw[if_pos he,if_pos he.symm,he];exact .inr ⟨rfl,rfl,rfl⟩
    ·rw[if_neg he,if_neg (λh=>he h.symm)];exact .inl ⟨rfl,rfl,λh=>he (Option.some.inj h)⟩)
 unfold Dj FQ H1 Kx;rcases eU with ⟨k1,k2,k3⟩| ⟨k,hk,k1,k2,k3⟩
 ·rw[show Lz ((l,x,0,()),(),())=_ from k1,show K0 ((l,x,(l.length:Int),0,()),(),())=_ from k2]
  have hn:x∉l:=λh=>by obtain⟨k,hk,he⟩:=aO h;exact k3 k hk (by rw[an hk,he])
  rw[decide_eq_false hn];exact⟨rfl,rfl⟩
 ·rw[show Lz ((l,x,0,()),(),())=_ from k1,show K0 ((l,x,(l.length:Int),0,()),(),())=_ from k2];rw[decide_eq_true (aw k3)];refine⟨rfl,?_⟩;simp only[al,Cm];rw[decide_eq_true (by omega)]
end
section
theorem GW{n:Nat}(h:n<=1048576):n*8<=2 ^ 40:=by
 have : (2:Nat) ^ 40=1099511627776:=by decide
 omega
theorem Ts(l:List Int)(x:Int)(hl:l.length<=1000)(h: ∀y∈l,y<x):F7 l x=some (l++ [x],()):=by
 have hm:l.length<=maxLen:=by unfold maxLen;omega
 have eU:=Az (B:=Ho) l (λk (_:Unit)=>((l,x,(k:Int),()),(),())) (λ_ _=>True) (λk r _=>((l,x,((k+r.length:Nat):Int),()),(),()))
  (λb hb=>by simp only[Ho];rw[Bq,if_neg (by omega)];rfl)
  (λk b y hy hb=>by
    have hk:=Bz hy;have c1: (k:Int)< (l.length:Int):=by omega
    have c2: (0:Int)<=(k:Int):=by omega
    refine .inl ⟨(),?_,trivial,?_⟩
    ·simp only[Ho,Bq,Av,if_pos c1,if_pos c2,B8,hy,al,if_pos (h y (aw hy)),Ad hm hk]
    ·rw[bA,show k+((l.drop (k+1)).length+1)=k+1+(l.drop (k+1)).length by omega])
  0 () (bL _) trivial
 unfold F7;rw[show Pq ((l,x,0,()),(),())=_ from eU];simp only[al,ct,aL];have c0: ¬ ((l.length:Int)< (l.length:Int)):=by omega
 have d1: (0:Int)<=0/\(0:Int)<=(l.length:Int)/\(l.length:Int)<=(l.length:Int):=by omega
 have d2: (0:Int)<=(l.length:Int)/\(l.length:Int)<=(l.length:Int)/\(l.length:Int)<=(l.length:Int):=by omega
 simp only[Bq,if_neg c0,Av,if_pos d1,if_pos d2,B8,Cz,ct,Cv,cN,da,bM,Ce,bC];rw[if_pos (GW (by omega)),if_pos (GW (by simp;omega))];exact if_pos (GW (by simp;omega))
theorem NK(a b:List Int)(ha:Le a)(hb:b.length<=maxLen):EF a b=some (a.filter λx=>decide (x∈b),()):=by
 have hl:=ha.len;have hm:a.length<=maxLen:=by unfold maxLen;omega
 have hp:=ha.pair
 have eU:=Az (B:=EZ) a (λk (out:List Int)=>((a,b,(),(k:Int),()),(),(out,()))) (λk out=>out=(a.take k).filter λx=>decide (x∈b)) (λk r out=>(((),()),(),(out++r.filter λx=>decide (x∈b),())))
  (λout hb=>by simp only[EZ];rw[Bq,if_neg (by omega)];simp)
  (λk out x hx hout=>by
    have hk:=Bz hx;have c1: (k:Int)< (a.length:Int):=by omega
    have c2: (0:Int)<=(k:Int):=by omega
    have hxe:a[k] =x:=by rw[an hk] at hx;exact Option.some.inj hx
    simp only[EZ,Bq,Av,if_pos c1,if_pos c2,B8,hx,al,(C8 b x hb).1,Ad hm hk];by_cases hin:x∈b
    ·have hlt: ∀y∈out,y<x:=by
      intro y hy;rw[hout,Cw] at hy;obtain⟨i,hi,he⟩:=aO hy.1;have hi':i<k:=by simp at hi;omega
      rw[Cx] at he;rw[<-he,<-hxe];exact Cf.1 hp i k (by omega) hk hi'
     have hol:out.length<=1000:=by rw[hout];have:=Cn (λx=>decide (x∈b)) (a.take k);simp at this;omega
     simp only[if_pos hin,Ts out x hol hlt,al];refine .inl ⟨out++ [x],rfl,?_,?_⟩
     ·rw[hout,Cg,hx,Ch];simp[hin]
     ·simp[hin]
    ·simp only[if_neg hin];refine .inl ⟨out,rfl,?_,?_⟩
     ·rw[hout,Cg,hx,Ch];simp[hin]
     ·simp[hin])
  0 [] (bL _) rfl
 unfold EF;rw[show Lp ((a,b,(),0,()),(),([],()))=_ from eU];rfl
theorem Qv{n:Nat}(hn:n<=5): ∃m,MX (IntKind.wrap .u64 (n:Int))=some (m,()):=by
 have :n=0\/n=1\/n=2\/n=3\/n=4\/n=5:=by omega
 rcases this with rfl|rfl|rfl|rfl|rfl|rfl
 ·exact⟨0,by kernel_rfl⟩
 ·exact⟨1,by kernel_rfl⟩
 ·exact⟨2,by kernel_rfl⟩
 ·exact⟨2,by kernel_rfl⟩
 ·exact⟨3,by kernel_rfl⟩
 ·exact⟨3,by kernel_rfl⟩
theorem Wm(l:List Int)(ha:Le l):C2 l 0 (l.length:Int)=some (l,()):=by
 have hl:=ha.len;have hm:l.length<=maxLen:=by unfold maxLen;omega
 have inner: ∀k (hk:k<l.length),0<k->DT (((),0,(l.length:Int),(k:Int),(k:Int),()),(),(l,()))=some (((),0,(l.length:Int),(k:Int),()),(),(l,())):=by
  intro k hk h0;refine kM ?_;have c1: (k:Int)>0:=by omega
  have c2: (0:Int)<=(k:Int)/\(k:Int)< (l.length:Int):=by omega
  have c3: (0:Int)<=((k-1:Nat):Int)/\((k-1:Nat):Int)< (l.length:Int):=by omega
  have e1:l[k]? =some l[k] :=an hk;have e2:l[k-1]? =some l[k-1] :=an (by omega);have hlt:=(ha k hk).2 h0
  have less:Gn l[k] l[k-1] =some (false,()):=by unfold Gn GJ;simp only[beq_self_eq_true,cS,al,Af];rw[decide_eq_false (by omega)]
  simp only[CZ,Bq,Av,if_pos c1,if_pos c2,Aa h0 (by omega),if_pos c3,B8,e1,e2,al,less,Af]
 have outer:=Bd (B:=CO) (λs=> ∃k:Nat,0<k/\s=(((),0,(l.length:Int),(k:Int),()),(),(l,()))) (λs=>l.length-s.1.2.2.2.1.toNat) (λe=>e=((()),(),(l,())))
  (λs hs=>by
    obtain⟨k,h0,rfl⟩:=hs;by_cases hk:k<l.length
    ·have c1: (k:Int)< (l.length:Int):=by omega
     refine .inl ⟨(((),0,(l.length:Int),((k+1:Nat):Int),()),(),(l,())),?_,⟨k+1,by omega,rfl⟩,?_⟩
     ·simp only[CO,Bq,if_pos c1,inner k hk h0,al,Ad hm hk]
     ·simp only[B8];omega
    ·have c1: ¬ (k:Int)< (l.length:Int):=by omega
     exact .inr ⟨_,by simp only[CO,Bq,if_neg c1],rfl⟩)
  (s:=(((),0,(l.length:Int),((1:Nat):Int),()),(),(l,()))) ⟨1,by omega,rfl⟩
 obtain⟨e,h1,rfl⟩:=outer;unfold C2;rw[show IntKind.wrap .i64 ((0:Int)+1)=((1:Nat):Int) from by rw[uc (by omega) (by omega)];rfl,show DS (((),0,(l.length:Int),((1:Nat):Int),()),(),(l,()))=_ from h1];rfl
theorem X2(l:List Int)(ha:Le l):Fy l=some (l,()):=by
 have hl:=ha.len;obtain⟨m,hm⟩:=Qv hl
 have hp:Dt l 0 (l.length:Int) m=some (l,()):=by
  unfold Dt
  have :Fz (((),0,(l.length:Int),m,true,true,()),(),(l,()))=some ((()),(),(l,())):=by refine kM ?_;simp only[DZ];rw[uc (by omega) (by omega),Bq,if_pos (by omega),Wm l ha,al,Ax rfl]
  rw[this];rfl
 unfold Fy;simp only[hm,al,hp];exact Ax trivial _ _
theorem TN(l:List Int)(ha:Le l):EA l=some (l,()):=by
 have hl:=ha.len;have hm:l.length<=maxLen:=by unfold maxLen;omega
 unfold EA;rw[Bq];split
 ·rfl
 ·have eU:=Bd (B:=Dc) (λs=> ∃k:Nat,0<k/\k<=l.length/\s=(((),(k:Int),()),(),(l,()))) (λs=>l.length-s.1.2.1.toNat) (λe=>e= .inr (((),(),()),(),(l,())))
   (λs hs=>by
     obtain⟨k,h0,hkl,rfl⟩:=hs;by_cases hk:k<l.length
     ·have c1: (k:Int)< (l.length:Int):=by omega
      have c2: (0:Int)<=(k:Int)/\(k:Int)< (l.length:Int):=by omega
      have c3: (0:Int)<=((k-1:Nat):Int)/\((k-1:Nat):Int)< (l.length:Int):=by omega
      have e1:l[k]? =some l[k] :=an hk;have e2:l[k-1]? =some l[k-1] :=an (by omega);have hlt:=(ha k hk).2 h0;refine .inl ⟨(((),((k+1:Nat):Int),()),(),(l,())),?_,⟨k+1,by omega,by omega,rfl⟩,?_⟩
      ·simp only[Dc,Bq,Av,if_pos c1,if_pos c2,Aa h0 (by omega),if_pos c3,B8,e1,e2,al,E8,Ad hm hk];rw[if_neg (by omega)]
      ·simp only[B8];omega
     ·have c1: ¬ (k:Int)< (l.length:Int):=by omega
      exact .inr ⟨_,by simp only[Dc,Bq,if_neg c1],rfl⟩)
   (s:=(((),((1:Nat):Int),()),(),(l,()))) ⟨1,by omega,by omega,rfl⟩
  obtain⟨e,h1,rfl⟩:=eU;rw[show HA (((),1,()),(),(l,()))=_ from h1];rfl
theorem Wa(l:List Int)(ha:Le l):Gl l=some (l,()):=by have hl:=ha.len;unfold Gl Gt;rw[Ax (GW (by omega)),al,X2 l ha,al,Ax rfl,TN l ha];rfl
end
section
theorem J5{σ ε:Type}{B:σ->Option (σ⊕ε)}(n:Nat)(m:Nat->σ)(t:ε)(f:Nat->ε)(p:Nat->Bool)(h0:B (m n)=some (.inr t))(h: ∀k,k<n->B (m k)=some (if p k=true then .inr (f k) else .inl (m (k+1)))):
  (mh B (m 0)=some t/\ ∀k,k<n->p k=false)\/ ∃k,k<n/\mh B (m 0)=some (f k)/\p k=true/\ ∀j,j<k->p j=false:=by
 have eU: ∀d j,j+d=n->(mh B (m j)=some t/\ ∀k,j<=k->k<n->p k=false)\/ ∃k,k<n/\mh B (m j)=some (f k)/\p k=true/\ ∀i,j<=i->i<k->p i=false:=by
  intro d
  induction d with
  |zero=>
   intro j hj;have :j=n:=by omega
   subst this;exact .inl ⟨kM h0,λk a b=>by omega⟩
  |succ d ih=>
   intro j hj;have h1:=h j (by omega);cases hp:p j with
   |true=>rw[hp,if_pos rfl] at h1;exact .inr ⟨j,by omega,kM h1,hp,λi a b=>by omega⟩
   |false=>
    rw[hp,if_neg (by simp)] at h1;rw[qJ h1];rcases ih (j+1) (by omega) with ⟨k1,k2⟩| ⟨k,k0,k1,k2,k3⟩
    ·refine .inl ⟨k1,λk a b=> ?_⟩;rcases Nat.eq_or_lt_of_le a with rfl|a
     ·exact hp
     ·exact k2 k a b
    ·refine .inr ⟨k,k0,k1,k2,λi a b=> ?_⟩;rcases Nat.eq_or_lt_of_le a with rfl|a
     ·exact hp
     ·exact k3 i a b
 rcases eU n 0 (by omega) with ⟨a,b⟩| ⟨k,a,b,c,d⟩
 ·exact .inl ⟨a,λk hk=>b k (bL _) hk⟩
 ·exact .inr ⟨k,a,b,c,λj hj=>d j (bL _) hj⟩
theorem Yo{σ1 ε1 σ2 ε2 β:Type}{B1:σ1->Option (σ1⊕ε1)}{B2:σ2->Option (σ2⊕ε2)}(n:Nat)(m1:Nat->β->σ1)(m2:Nat->β->σ2)(J:Nat->β->Prop)(E1:β->ε1)(E2:β->ε2)
  (h0: ∀b,J n b->B1 (m1 n b)=some (.inr (E1 b))/\B2 (m2 n b)=some (.inr (E2 b)))
  (h1: ∀k b,k<n->J k b-> ∃b',B1 (m1 k b)=some (.inl (m1 (k+1) b'))/\B2 (m2 k b)=some (.inl (m2 (k+1) b'))/\J (k+1) b')
  (b:β) (hb:J 0 b): ∃b',J n b'/\mh B1 (m1 0 b)=some (E1 b')/\mh B2 (m2 0 b)=some (E2 b'):=by
 have go: ∀ (d k:Nat) (b:β),k+d=n->J k b-> ∃b',J n b'/\mh B1 (m1 k b)=some (E1 b')/\mh B2 (m2 k b)=some (E2 b'):=by
  intro d
  induction d with
  |zero=>
   intro k b hk hj;have :k=n:=by omega
   subst this;exact⟨b,hj,kM (h0 b hj).1,kM (h0 b hj).2⟩
  |succ d ih=>intro k b hk hj;obtain⟨b',p1,p2,p3⟩:=h1 k b (by omega) hj;obtain⟨c,q1,q2,q3⟩:=ih (k+1) b' (by omega) p3;exact⟨c,q1,by rw[qJ p1];exact q2,by rw[qJ p2];exact q3⟩
 exact go n 0 b (by omega) hb
theorem PE{l:List Int}{p:Int->Bool}(h: ∀x∈l,p x=true):l.filter p=l:=List.filter_eq_self.2 h
theorem UH(a b:List Int)(ha:a.length<=1000)(hb:b.length<=maxLen):C3 a b=some (a.filter λx=> !decide (x∈b),()):=by
 have hm:a.length<=maxLen:=by unfold maxLen;omega
 have hm':a.length<=9223372036854775807:=hm
 have has: ∀x,ED x b=some (decide (x∈b),()):=by intro x;unfold ED;rw[(C8 b x hb).2];rfl
 have find:=J5 (B:=CY) a.length (λk=>((a,(b,()),(a.length:Int),(k:Int),()),(),())) (.inr (((),()),(),())) (λk=> .inl (((k:Int),()),(),())) (λk=>match a[k]? with |some x=>decide (x∈b)|none=>false)
  (by simp only[CY];rw[Bq,if_neg (by omega)])
  (λk hk=>by
    have c1: (k:Int)< (a.length:Int):=by omega
    have c2: (0:Int)<=(k:Int):=by omega
    simp only[CY,Bq,Av,if_pos c1,if_pos c2,B8,an hk,al,has,Ad hm hk];by_cases hin:a[k] ∈b<;>simp[hin])
 unfold C3 DE;rcases find with ⟨k1,k2⟩| ⟨i,hi,k1,k2,k3⟩
 ·rw[show D9 ((a,(b,()),(a.length:Int),0,()),(),())=_ from k1];simp only[al,Cq,beq_self_eq_true,A7];rw[PE λx hx=> ?_];obtain⟨k,hk,rfl⟩:=aO hx;have:=k2 k hk;rw[an hk] at this;simpa using this
 ·rw[show D9 ((a,(b,()),(a.length:Int),0,()),(),())=_ from k1]
  have hne: ((i:Int)== -1)=false:=by simp only[beq_eq_false_iff_ne,ne_eq];omega
  simp only[al,Cm,hne,Af,Ad hm hi];rw[an hi] at k2
  have loop:=Bd (B:=CU) (λs=> ∃ (i j:Nat) (v:List Int),s=(((),(b,()),(i:Int),(j:Int),()),(),(v,()))/\i<=j/\j<=a.length/\v.length=a.length/\v.take i=(a.take j).filter (λx=> !decide (x∈b))/\v.drop j=a.drop j) (λs=>a.length-s.1.2.2.2.1.toNat)
   (λe=> ∃ (i:Nat) (v:List Int),e=(((),(i:Int),()),(),(v,()))/\i<=a.length/\v.length=a.length/\v.take i=a.filter (λx=> !decide (x∈b)))
   (λs hs=>by
     obtain⟨i,j,v,rfl,hij,hj,hv,ht,hd⟩:=hs;by_cases hlt:j<a.length
     ·have c1: (j:Int)< (v.length:Int):=by omega
      have c2: (0:Int)<=(j:Int)/\(j:Int)< (v.length:Int):=by omega
      have c3: (0:Int)<=(i:Int)/\(i:Int)< (v.length:Int):=by omega
      have e1:v[j]? =some a[j] :=by have:=congrArg (λl:List Int=>l[0]?) hd;simpa [bc,an hlt] using this
      have e2:v[i]? =some (v[i]'(by omega)):=an _;have hta:a.take (j+1)=a.take j++ [a[j]] :=by rw[Cg,an hlt];rfl
      have hdd:v.drop (j+1)=a.drop (j+1):=by have:=congrArg (List.drop 1) hd;simpa [cc,bT] using this
      left;simp only[CU,Bq,Av,if_pos c1,if_pos c2,B8,e1,al,has,if_pos c3,e2,Ad hm hlt,CD,Ad hm (show i<a.length by omega)];by_cases hin:a[j] ∈b
      ·rw[if_pos hin];refine⟨_,rfl,⟨i,j+1,v,rfl,by omega,by omega,hv,?_,hdd⟩,?_⟩
       ·rw[ht,hta,Ch];simp[hin]
       ·simp only[B8];omega
      ·rw[if_neg hin];refine⟨_,rfl,⟨i+1,j+1,v.set i a[j],rfl,by omega,by omega,by simp[hv],?_,?_⟩,?_⟩
       ·rw[wS _ (by omega),ht,hta,Ch];simp[hin]
       ·rw[List.drop_set_of_lt (by omega),hdd]
       ·simp only[B8];omega
     ·have :j=a.length:=by omega
      subst this;right;refine⟨_,by simp only[CU];rw[Bq,if_neg (by omega)],⟨i,v,rfl,hij,hv,?_⟩⟩;rw[ht,Ce])
   (s:=(((),(b,()),(i:Int),((i+1:Nat):Int),()),(),(a,()))) ⟨i,i+1,a,rfl,by omega,by omega,rfl,by
     have hta:a.take (i+1)=a.take i++ [a[i]] :=by rw[Cg,an hi];rfl
     rw[hta,Ch,PE (l:=a.take i) λx hx=> ?_]
     ·simp only[decide_eq_true_eq] at k2;simp[k2]
     ·obtain⟨j,hj,rfl⟩:=aO hx;have hj':j<i:=by simp at hj;omega
      have:=k3 j hj';rw[an (by omega)] at this;rw[Cx];simpa using this,rfl⟩
  obtain⟨e,h1,i',v,rfl,h2,h3,h4⟩:=loop;rw[show EH (((),(b,()),(i:Int),((i+1:Nat):Int),()),(),(a,()))=_ from h1];have d1: (0:Int)<=(i':Int)/\(i':Int)<=(v.length:Int)/\(v.length:Int)<=((v.length:Nat):Int):=by omega
  have d2:i'+(v.length-i')<=v.length:=by omega
  have d3: (0:Int)<=0/\(0:Int)<=(i':Int)/\(i':Int)<=((v.length:Nat):Int):=by omega
  simp only[al,B8,Cz,aL,Cv,Av,if_pos d1,if_pos d2,if_pos d3];rw[if_pos ⟨trivial,by simp;omega⟩];rw[bf,List.take_append_of_le_length (by simp;omega),List.take_take,Nat.min_self,h4]
theorem TQ(a b:List Int)(ha:Le a)(hb:b.length<=maxLen):Fq a b=some (a.filter λx=> !decide (x∈b),()):=by have hl:=ha.len;unfold Fq;rw[Wa a ha,al,UH a b (by omega) hb];rfl
theorem Yg(a b:List Int)(ha:Le a)(hb:b.length<=maxLen):Gw a b=some (a.filter λx=>decide (x∈b),()):=by
 have hl:=ha.len;unfold Gw;rw[TQ a b ha hb];simp only[al]
 rw[TQ a (a.filter λx=> !decide (x∈b)) ha (by have:=Cn (λx=> !decide (x∈b)) a;unfold maxLen;omega)]
 simp only[al]
 congr 2
 apply List.filter_congr;intro x hx;simp[Cw,hx]
theorem Fk(c:mt)(h:Eg maxLen c):BK (CE c) (EE c):=by
 unfold CE EE;simp only[Dz,Ja,al];cases Fr c.epoch 1 20 with
 |false=>exact⟨_,rfl,rfl⟩
 |true=>
  rcases Ml c.replicas h.1 with ⟨a1,a2,a3⟩| ⟨a1,a2⟩
  ·rcases Ml c.witnesses h.2 with ⟨b1,b2,b3⟩| ⟨b1,b2⟩
   ·simp only[a1,a2,b1,b2,al,A7,(C8 c.replicas c.primary h.1).1,(C8 c.replicas c.primary h.1).2,NK _ _ a3 h.2,Yg _ _ a3 h.2];cases decide (c.primary∈c.replicas)<;>exact⟨_,rfl,rfl⟩
   ·simp only[a1,a2,b1,b2,al,A7,Af];exact⟨_,rfl,rfl⟩
  ·simp only[a1,a2,al,A7,Af];exact⟨_,rfl,rfl⟩
end
section
theorem JO(l:List Int)(hl:l.length<=maxLen):BK (EP l) (H5 l):=by
 have eU:=Be (B1:=Hm) (B2:=C6) l.length (λk=>((l,(k:Int),()),(),())) (λk=>((l,(),(l.length:Int),(k:Int),()),(),())) (.inr ((l,(),()),(),())) (.inr (((),()),(),())) (λ_=> .inl ((l,false,()),(),())) (λk=> .inl (((k:Int),()),(),()))
  (λ_=>True) (λ_=>True)
  (by simp only[Hm];rw[Bq,if_neg (by omega)])
  (by simp only[C6];rw[Bq,if_neg (by omega)])
  (λk hk=>by
    have c1: (k:Int)< (l.length:Int):=by omega
    have c2: (0:Int)<=(k:Int):=by omega
    simp only[Hm,C6,Bq,Av,if_pos c1,if_pos c2,B8,an hk,al,JI,Dz,Ja,Ad hl hk];cases Fr l[k] 0 3 with
    |false=>exact .inr ⟨rfl,rfl,trivial⟩
    |true=>exact .inl ⟨rfl,rfl,trivial⟩)
 unfold EP H5 DQ Ef;rcases eU with ⟨k1,k2,_⟩| ⟨k,_,k1,k2,_⟩
 ·rw[show Mt ((l,0,()),(),())=_ from k1,show EJ ((l,(),(l.length:Int),0,()),(),())=_ from k2];simp only[al,Cq];cases ((l.length:Int)==5)<;>exact⟨_,rfl,rfl⟩
 ·rw[show Mt ((l,0,()),(),())=_ from k1,show EJ ((l,(),(l.length:Int),0,()),(),())=_ from k2];simp only[al,Cm];rw[decide_eq_true (by omega)];cases ((l.length:Int)==5)<;>exact⟨_,rfl,rfl⟩
theorem masterLog(m:jr)(h:Ju maxLen m): ∃b,CP m=some (b,())/\Fe m=some (b,()):=by
 obtain⟨hl,hc⟩:=h
 have eU:=Be (B1:=Dd) (B2:=FD) m.configs.length (λk=>(((),(k:Int),()),((m.configs,m.activated,()),()),())) (λk=>(((),m.configs,(m.configs.length:Int),(k:Int),()),((m.configs,m.activated,()),()),())) (.inr (((),(),()),((m.configs,m.activated,()),()),())) (.inr (((),(),()),((m.configs,m.activated,()),()),())) (λ_=> .inl (((),false,()),((m.configs,m.activated,()),()),())) (λ_=> .inl (((),false,()),((m.configs,m.activated,()),()),()))
  (λ_=>True) (λ_=>True)
  (by simp only[Dd];rw[Bq,if_neg (by omega)])
  (by simp only[FD];rw[Bq,if_neg (by omega)])
  (λk hk=>by
    have c1: (k:Int)< (m.configs.length:Int):=by omega
    have c2: (0:Int)<=(k:Int):=by omega
    obtain⟨b,v1,v2⟩:=Fk m.configs[k] (hc _ (Cc hk));simp only[Dd,FD,Bq,Av,if_pos c1,if_pos c2,B8,an hk,al,v1,v2,Ad hl hk,CD];cases b with
    |false=>exact .inr ⟨rfl,rfl,trivial⟩
    |true=>
     cases (m.configs[k].epoch==((k+1:Nat):Int)) with
     |false=>exact .inr ⟨rfl,rfl,trivial⟩
     |true=>exact .inl ⟨rfl,rfl,trivial⟩)
 unfold CP Fe;rcases eU with ⟨k1,k2,_⟩| ⟨k,_,k1,k2,_⟩
 ·rw[show GF (((),0,()),((m.configs,m.activated,()),()),())=_ from k1,show Kd (((),m.configs,(m.configs.length:Int),0,()),((m.configs,m.activated,()),()),())=_ from k2];simp only[al,Cq,Dz,Ja];exact⟨_,rfl,rfl⟩
 ·rw[show GF (((),0,()),((m.configs,m.activated,()),()),())=_ from k1,show Kd (((),m.configs,(m.configs.length:Int),0,()),((m.configs,m.activated,()),()),())=_ from k2];exact⟨_,rfl,rfl⟩
theorem Ll(x:sS):BK (ES x) (E0 x):=by unfold ES E0;simp only[Dz,Ja,al];cases ((x.epoch==0)&&((x.holder==0)&&((x.ends==0)&&true)))<;>cases Fr x.epoch 1 20<;>cases Fr x.holder 0 4<;>exact⟨_,rfl,rfl⟩
theorem Jc(l:List sV)(hl:l.length<=maxLen):BK (Di l) (Ii l):=by
 have eU:=Be (B1:=FZ) (B2:=C1) l.length (λk=>((l,(k:Int),()),(),())) (λk=>((l,(),(l.length:Int),(k:Int),()),(),())) (.inr ((l,(),()),(),())) (.inr (((),()),(),())) (λ_=> .inl ((l,false,()),(),())) (λk=> .inl (((k:Int),()),(),()))
  (λ_=>True) (λ_=>True)
  (by simp only[FZ];rw[Bq,if_neg (by omega)])
  (by simp only[C1];rw[Bq,if_neg (by omega)])
  (λk hk=>by
    have c1: (k:Int)< (l.length:Int):=by omega
    have c2: (0:Int)<=(k:Int):=by omega
    simp only[FZ,C1,Bq,Av,if_pos c1,if_pos c2,B8,an hk,al,IE,Dz,Ja,Ad hl hk];cases Fr l[k].rack 0 9 with
    |false=>exact .inr ⟨rfl,rfl,trivial⟩
    |true=>
     cases Fr l[k].capacity 0 9 with
     |false=>exact .inr ⟨rfl,rfl,trivial⟩
     |true=>
      cases Fr l[k].load 0 99 with
      |false=>exact .inr ⟨rfl,rfl,trivial⟩
      |true=>exact .inl ⟨rfl,rfl,trivial⟩)
 unfold Di Ii DB DR;rcases eU with ⟨k1,k2,_⟩| ⟨k,_,k1,k2,_⟩
 ·rw[show Ly ((l,0,()),(),())=_ from k1,show Em ((l,(),(l.length:Int),0,()),(),())=_ from k2];simp only[al,Cq];cases ((l.length:Int)==5)<;>exact⟨_,rfl,rfl⟩
 ·rw[show Ly ((l,0,()),(),())=_ from k1,show Em ((l,(),(l.length:Int),0,()),(),())=_ from k2];simp only[al,Cm];rw[decide_eq_true (by omega)];cases ((l.length:Int)==5)<;>exact⟨_,rfl,rfl⟩
theorem V6(x:Op):BK (Dl x) (Ij x):=by unfold Dl Ij;simp only[Dz,Ja,al];cases Fr x.client 0 2<;>cases Fr x.seq 1 99<;>cases Fr x.object 0 2<;>cases Fr x.value 0 9<;>cases (x.kind==1)<;>cases (x.kind==2)<;>cases (x.old==0)<;>exact⟨_,rfl,rfl⟩
theorem isLog(l:List pS)(hl:l.length<=maxLen): (Dk l=some (true,())/\IG l=some (true,())/\l.length<=16)\/(Dk l=some (false,())/\IG l=some (false,())):=by
 have eU:=Be (B1:=Hn) (B2:=KF) l.length (λk=>((l,(k:Int),()),(),())) (λk=>((l,l,(l.length:Int),(k:Int),()),(),())) (.inr ((l,(),()),(),())) (.inr ((l,(),()),(),())) (λ_=> .inl ((l,false,()),(),())) (λ_=> .inl ((l,false,()),(),()))
  (λ_=>True) (λ_=>True)
  (by simp only[Hn];rw[Bq,if_neg (by omega)])
  (by simp only[KF];rw[Bq,if_neg (by omega)])
  (λk hk=>by
    have c1: (k:Int)< (l.length:Int):=by omega
    have c2: (0:Int)<=(k:Int):=by omega
    obtain⟨b,v1,v2⟩:=V6 l[k].op;simp only[Hn,KF,Bq,Av,if_pos c1,if_pos c2,B8,an hk,al,v1,v2,Dz,Ja,Ad hl hk,CD];cases Fr l[k].epoch 1 20 with
    |false=>exact .inr ⟨rfl,rfl,trivial⟩
    |true=>
     simp only[A7];by_cases h0:0<k
     ·have c3: (k:Int)>0:=by omega
      have c4: (0:Int)<=((k-1:Nat):Int):=by omega
      have e2:l[k-1]? =some l[k-1] :=an (by omega);simp only[if_pos c3,Aa h0 (by omega),if_pos c4,B8,e2,al];by_cases hlt:l[k].epoch<l[k-1].epoch
      ·rw[if_pos hlt,if_pos (show l[k-1].epoch>l[k].epoch from hlt)];cases b<;>exact .inr ⟨rfl,rfl,trivial⟩
      ·rw[if_neg hlt,if_neg (show ¬l[k-1].epoch>l[k].epoch from hlt)];cases b with
       |false=>exact .inr ⟨rfl,rfl,trivial⟩
       |true=>exact .inl ⟨rfl,rfl,trivial⟩
     ·have c3: ¬ (k:Int)>0:=by omega
      simp only[if_neg c3];cases b with
      |false=>exact .inr ⟨rfl,rfl,trivial⟩
      |true=>exact .inl ⟨rfl,rfl,trivial⟩)
 unfold Dk IG;rcases eU with ⟨k1,k2,_⟩| ⟨k,_,k1,k2,_⟩
 ·rw[show LZ ((l,0,()),(),())=_ from k1,show Pp ((l,l,(l.length:Int),0,()),(),())=_ from k2];simp only[al,Cq];by_cases h: (l.length:Int)<=16
  ·rw[decide_eq_true h];exact .inl ⟨rfl,rfl,by omega⟩
  ·rw[decide_eq_false h];exact .inr ⟨rfl,rfl⟩
 ·rw[show LZ ((l,0,()),(),())=_ from k1,show Pp ((l,l,(l.length:Int),0,()),(),())=_ from k2];exact .inr ⟨rfl,rfl⟩
theorem Kt(a b:List Int)(ha:a.length<=maxLen):Gh a b=some (decide (a=b),())/\Gb a b=some (decide (a=b),()):=by
 unfold Gh Gb Gu;by_cases hlen:a.length=b.length
 ·have hbe: (!((a.length:Int)==(b.length:Int)))=false:=by simp[hlen]
  have eU:=Be (B1:=Fl) (B2:=Ft) a.length (λk=>((a,b,(k:Int),()),(),())) (λk=>((a,b,(a.length:Int),(k:Int),()),(),())) (.inr (((),()),(),())) (.inr (((),()),(),())) (λ_=> .inl ((false,()),(),())) (λ_=> .inl ((false,()),(),()))
   (λk=>a[k]? =b[k]?) (λk=>a[k]? ≠b[k]?)
   (by simp only[Fl];rw[Bq,if_neg (by omega)])
   (by simp only[Ft];rw[Bq,if_neg (by omega)])
   (λk hk=>by
     have c1: (k:Int)< (a.length:Int):=by omega
     have c2: (0:Int)<=(k:Int):=by omega
     simp only[Fl,Ft,Bq,Av,if_pos c1,if_pos c2,B8,an hk,an (show k<b.length by omega),al,Ad ha hk,CD,E8];by_cases he:a[k] =b[k]'(by omega)
     ·simp only[if_pos he];exact .inl ⟨trivial,trivial,by rw[he]⟩
     ·simp only[if_neg he];exact .inr ⟨trivial,trivial,λh=>he (Option.some.inj h)⟩)
  rw[hbe,Af,Af];rcases eU with ⟨k1,k2,k3⟩| ⟨k,hk,k1,k2,k3⟩
  ·rw[show Jr ((a,b,0,()),(),())=_ from k1,show KZ ((a,b,(a.length:Int),0,()),(),())=_ from k2]
   have :a=b:=bu λk=>by
    rcases cM k a.length with h|h
    ·exact k3 k h
    ·rw[ck h,ck (by omega)]
   rw[decide_eq_true this];exact⟨rfl,rfl⟩
  ·rw[show Jr ((a,b,0,()),(),())=_ from k1,show KZ ((a,b,(a.length:Int),0,()),(),())=_ from k2];have :a≠b:=λh=>k3 (by rw[h]);rw[decide_eq_false this];exact⟨rfl,rfl⟩
 ·have hbe: (!((a.length:Int)==(b.length:Int)))=true:=by
   simp only[bB,beq_eq_false_iff_ne,ne_eq];omega
  rw[hbe,A7,A7,decide_eq_false (λh=>hlen (by rw[h]))];exact⟨rfl,rfl⟩
theorem Ej(a b:mt)(ha:Eg maxLen a):Ew a b=some (decide (a=b),())/\Eh a b=some (decide (a=b),()):=by unfold Ew Eh;simp only[(Kt a.replicas b.replicas ha.1).1,(Kt a.replicas b.replicas ha.1).2,(Kt a.witnesses b.witnesses ha.2).1,(Kt a.witnesses b.witnesses ha.2).2,al,E8,Bq];obtain⟨a1,a2,a3,a4⟩:=a;obtain⟨b1,b2,b3,b4⟩:=b;simp only[mt.mk.injEq];by_cases h1:a1=b1<;>by_cases h2:a2=b2<;>by_cases h3:a3=b3<;>by_cases h4:a4=b4<;>simp[h1,h2,h3,h4]
theorem GP(l:List pS)(hl:l.length<=maxLen): ∃n,FL l=some (n,())/\G3 l=some (n,()):=by
 unfold FL G3;rcases bh l.length with h|h
 ·have : ((l.length:Int)==0)=true:=by simp[h]
  rw[this];exact⟨_,rfl,rfl⟩
 ·have : ((l.length:Int)==0)=false:=by
   simp only[beq_eq_false_iff_ne,ne_eq];omega
  rw[this,Af,Aa h hl,Ax (by omega),B8,an (show l.length-1<l.length by omega)];exact⟨_,rfl,rfl⟩
theorem Kg(c:mt)(x:Int)(h:Eg maxLen c): ∃n,Dm c x=some (n,())/\IH c x=some (n,())/\(n=0\/n=1\/n=2\/n=3):=by unfold Dm IH;obtain⟨b,v1,v2⟩:=Fk c h;simp only[v1,v2,al,(C8 c.replicas x h.1).1,(C8 c.replicas x h.1).2,(C8 c.witnesses x h.2).1,(C8 c.witnesses x h.2).2];cases b<;>cases (x==c.primary)<;>cases decide (x∈c.replicas)<;>cases decide (x∈c.witnesses)<;>exact⟨_,rfl,rfl,by decide⟩
end
section
theorem CJ{c:mt}(h:Eg 1048576 c):Eg maxLen c:=⟨CI h.1,CI h.2⟩
theorem DW{m:jr}(h:Ju 1048576 m):Ju maxLen m:=⟨CI h.1,λc hc=>CJ (h.2 c hc)⟩
theorem I2(c:mt)(h:Eg maxLen c):GN c=some (decide (c=⟨0,0,[],[]⟩),()):=by unfold GN;rw[(Ej c _ h).1];rfl
theorem Ir(s:oU)(id:Int)(h:C9 1048576 s):BK (CH s id) (FI s id):=by
 have hc:=CJ h.1;unfold CH FI;simp only[Dz,Ja,al,CD];cases Fr s.version 1 2 with
 |false=>exact⟨_,rfl,rfl⟩
 |true=>
 cases Fr s.epoch 0 20 with
 |false=>exact⟨_,rfl,rfl⟩
 |true=>
 rcases isLog s.log (CI h.2.1) with ⟨a1,a2,a3⟩| ⟨a1,a2⟩
 case inr=>simp only[a1,a2,al,A7,Af];exact⟨_,rfl,rfl⟩
 rcases isLog s.learned (CI h.2.2) with ⟨b1,b2,b3⟩| ⟨b1,b2⟩
 case inr=>simp only[a1,a2,b1,b2,al,A7,Af];exact⟨_,rfl,rfl⟩
 simp only[a1,a2,b1,b2,al,A7];cases hw:Fr s.first 0 16 with
 |false=>exact⟨_,rfl,rfl⟩
 |true=>
 have hf:=CG.1 hw;rw[uc (n:=s.first+(s.log.length:Int)) (by omega) (by omega)];by_cases h16:s.first+(s.log.length:Int)<=16
 case neg=>
  have e1:Fr (s.first+(s.log.length:Int)) 0 16=false:=by unfold Fr;simp;omega
  simp only[e1,A7,Af,Bq,if_pos (show s.first+(s.log.length:Int)>16 by omega)];exact⟨_,rfl,rfl⟩
 have e1:Fr (s.first+(s.log.length:Int)) 0 16=true:=CG.2 ⟨by omega,h16⟩;simp only[e1,A7,Bq,if_neg (show ¬s.first+(s.log.length:Int)>16 by omega),I2 s.config hc,(Ej s.config ⟨0,0,[],[]⟩ hc).2,al];cases Fr s.commit 0 (s.first+(s.log.length:Int)) with
 |false=>exact⟨_,rfl,rfl⟩
 |true=>
 simp only[A7];by_cases hz:s.config=⟨0,0,[],[]⟩
 ·simp only[if_pos hz];cases (s.first==0)<;>cases (s.commit==0)<;>cases ((s.log.length:Int)==0)<;>exact⟨_,rfl,rfl⟩
 ·simp only[if_neg hz];cases s.intact with
  |false=>exact⟨_,rfl,rfl⟩
  |true=>
  simp only[A7];by_cases he:s.epoch<s.config.epoch
  ·simp only[if_pos he];exact⟨_,rfl,rfl⟩
  ·simp only[if_neg he];obtain⟨n,n1,n2⟩:=GP s.log (CI h.2.1);simp only[n1,n2,al];by_cases hn:n>s.config.epoch
   ·simp only[if_pos hn];exact⟨_,rfl,rfl⟩
   ·simp only[if_neg hn];obtain⟨r,r1,r2,r3⟩:=Kg s.config id hc;simp only[r1,r2,al];rcases r3 with rfl|rfl|rfl|rfl
    ·exact⟨_,rfl,rfl⟩
    ·exact⟨_,rfl,rfl⟩
    ·exact⟨_,rfl,rfl⟩
    ·have ht:MY s.first s.log=some (decide ((s.log.length:Int)<=3)&&((s.first==0)||((s.log.length:Int)==3)),()):=by
      unfold MY;simp only[a2,Ja,al,A7,Bq];rw[uc (by omega) (by omega),show Fr s.first 0 (16-(s.log.length:Int))=true from CG.2 ⟨by omega,by omega⟩];by_cases h3: (s.log.length:Int)<=3
      ·rw[if_pos h3,decide_eq_true h3];cases (s.first==0)<;>cases ((s.log.length:Int)==3)<;>rfl
      ·rw[if_neg h3,decide_eq_false h3];rfl
     rw[ht];by_cases h3: (s.log.length:Int)<=3
     ·rw[if_pos h3,decide_eq_true h3];cases (s.first==0)<;>cases ((s.log.length:Int)==3)<;>exact⟨_,rfl,rfl⟩
     ·rw[if_neg h3,decide_eq_false h3];exact⟨_,rfl,rfl⟩
theorem KH(m:jr)(e:Int)(h:Ju 1048576 m): ∃c b,DG m e=some (c,b,())/\G0 m e=some (c,b,())/\Eg maxLen c:=by
 obtain⟨b,m1,m2⟩:=masterLog m (DW h);have zero:Eg maxLen ⟨0,0,[],[]⟩:=⟨bL _,bL _⟩
 have hl:=h.1;unfold DG G0;simp only[m1,m2,Dz,Ja,al,CD];cases b with
 |false=>exact⟨_,_,rfl,rfl,zero⟩
 |true=>
  cases hw:Fr e 1 (m.configs.length:Int) with
  |false=>exact⟨_,_,rfl,rfl,zero⟩
  |true=>
   have hw:=CG.1 hw;simp only[A7];rw[uc (n:=e-1) (by omega) (by omega)];have hlt: (e-1).toNat<m.configs.length:=by omega
   have hk:=h.2 _ (Cc hlt)
   have copy: ∀c:mt,Eg 1048576 c->Fx c=some (c,())/\D5 c=some (c,()):=by intro c hc;unfold Fx D5;simp only[bC];rw[Ax (GW hc.1),Ax (GW hc.2)];exact⟨rfl,rfl⟩
   rw[Ax (by omega),Ax (by omega),an hlt];simp only[al,(copy _ hk).1,(copy _ hk).2];exact⟨_,_,rfl,rfl,CJ hk⟩
theorem Ea(x:oQ)(h:C0 1048576 x):BK (CC x) (Dx x):=by
 obtain⟨⟨hs1,hs2⟩,hsd,hml,hpl⟩:=h;have hm:=CI hs1
 have eU:=Be (B1:=CL) (B2:=EM) x.servers.length (λk=>(((),(k:Int),()),((x.now,x.servers,x.sides,x.master.configs,x.master.activated,x.masterUp,x.lease.epoch,x.lease.holder,x.lease.ends,x.places,()),()),())) (λk=>(((),x.servers,(x.servers.length:Int),(k:Int),()),((x.now,x.servers,x.sides,x.master.configs,x.master.activated,x.masterUp,x.lease.epoch,x.lease.holder,x.lease.ends,x.places,()),()),())) (.inr (((),()),(),())) (.inr (((),()),(),())) (λ_=> .inl ((false,()),(),())) (λ_=> .inl ((false,()),(),()))
  (λ_=>True) (λ_=>True)
  (by simp only[CL];rw[Bq,if_neg (by omega)])
  (by simp only[EM];rw[Bq,if_neg (by omega)])
  (λk hk=>by
    have c1: (k:Int)< (x.servers.length:Int):=by omega
    have c2: (0:Int)<=(k:Int):=by omega
    have hsk:=hs2 _ (Cc hk);obtain⟨b,v1,v2⟩:=Ir x.servers[k] (k:Int) hsk;obtain⟨n,n1,n2⟩:=GP x.servers[k].learned (CI hsk.2.2);obtain⟨c,d,d1,d2,d3⟩:=KH x.master x.servers[k].config.epoch hml;have hcfg:=CJ hsk.1
    simp only[CL,EM,Bq,Av,if_pos c1,if_pos c2,B8,an hk,al,v1,v2,n1,n2,Ad hm hk,CD,
     show (⟨x.master.configs,x.master.activated⟩:jr)=x.master from rfl,d1,d2,I2 _ hcfg,(Ej _ (⟨0,0,[],[]⟩:mt) hcfg).2,(Ej c x.servers[k].config d3).1,(Ej c x.servers[k].config d3).2]
    cases b with
    |false=>exact .inr ⟨rfl,rfl,trivial⟩
    |true=>
     simp only[A7];by_cases h1:x.servers[k].epoch>(x.master.configs.length:Int)
     ·simp only[if_pos h1];exact .inr ⟨trivial,trivial,trivial⟩
     ·simp only[if_neg h1];by_cases h2:n>x.master.activated
      ·simp only[if_pos h2];exact .inr ⟨trivial,trivial,trivial⟩
      ·simp only[if_neg h2];by_cases h3:x.servers[k].config=⟨0,0,[],[]⟩
       ·simp only[if_pos h3];exact .inl ⟨trivial,trivial,trivial⟩
       ·simp only[if_neg h3];cases d with
        |false=>exact .inr ⟨rfl,rfl,trivial⟩
        |true=>
         simp only[A7];by_cases h4:c=x.servers[k].config
         ·simp only[if_pos h4];by_cases h5:x.servers[k].config.epoch>x.master.activated
          ·simp only[if_pos h5];exact .inr ⟨trivial,trivial,trivial⟩
          ·simp only[if_neg h5];exact .inl ⟨trivial,trivial,trivial⟩
         ·simp only[if_neg h4];exact .inr ⟨trivial,trivial,trivial⟩)
 unfold CC Dx;obtain⟨b1,a1,a2⟩:=JO x.sides (CI hsd);obtain⟨b2,m1,m2⟩:=masterLog x.master (DW hml);obtain⟨b3,l1,l2⟩:=Ll x.lease;obtain⟨b4,p1,p2⟩:=Jc x.places (CI hpl);simp only[Dz,Ja,a1,a2,m1,m2,l1,l2,p1,p2,al,CD,Bq];cases Fr x.now 0 999 with
 |false=>exact⟨_,rfl,rfl⟩
 |true=>
 cases ((x.servers.length:Int)==5) with
 |false=>exact⟨_,rfl,rfl⟩
 |true=>
 cases b1 with
 |false=>exact⟨_,rfl,rfl⟩
 |true=>
 cases b2 with
 |false=>exact⟨_,rfl,rfl⟩
 |true=>
 cases Fr x.masterUp 0 3 with
 |false=>cases b3<;>cases b4<;>exact⟨_,rfl,rfl⟩
 |true=>
 cases b3 with
 |false=>exact⟨_,rfl,rfl⟩
 |true=>
 cases b4 with
 |false=>exact⟨_,rfl,rfl⟩
 |true=>
 simp only[A7];by_cases h1:x.lease.epoch>x.master.activated
 ·simp only[if_pos h1];exact⟨_,rfl,rfl⟩
 ·simp only[if_neg h1];rcases eU with ⟨k1,k2,_⟩| ⟨k,_,k1,k2,_⟩
  ·rw[show EU (((),0,()),((x.now,x.servers,x.sides,x.master.configs,x.master.activated,x.masterUp,x.lease.epoch,x.lease.holder,x.lease.ends,x.places,()),()),())=_ from k1,show Ia (((),x.servers,(x.servers.length:Int),0,()),((x.now,x.servers,x.sides,x.master.configs,x.master.activated,x.masterUp,x.lease.epoch,x.lease.holder,x.lease.ends,x.places,()),()),())=_ from k2];exact⟨_,rfl,rfl⟩
  ·rw[show EU (((),0,()),((x.now,x.servers,x.sides,x.master.configs,x.master.activated,x.masterUp,x.lease.epoch,x.lease.holder,x.lease.ends,x.places,()),()),())=_ from k1,show Ia (((),x.servers,(x.servers.length:Int),0,()),((x.now,x.servers,x.sides,x.master.configs,x.master.activated,x.masterUp,x.lease.epoch,x.lease.holder,x.lease.ends,x.places,()),()),())=_ from k2];exact⟨_,rfl,rfl⟩
end
section
theorem FO{c:mt}(h:Eg maxLen c)(hv:CE c=some (true,())):Le c.replicas/\Le c.witnesses/\c.primary∈c.replicas/\1<=c.epoch/\c.epoch<=20/\ ∀x∈c.replicas,x∉c.witnesses:=by
 unfold CE at hv;simp only[Dz,al] at hv;cases hw:Fr c.epoch 1 20 with
 |false=>rw[hw] at hv;cases hv
 |true=>
  rw[hw] at hv;rcases Ml c.replicas h.1 with ⟨a1,a2,a3⟩| ⟨a1,a2⟩
  ·rcases Ml c.witnesses h.2 with ⟨b1,b2,b3⟩| ⟨b1,b2⟩
   ·simp only[a1,b1,al,A7,(C8 c.replicas c.primary h.1).1,NK _ _ a3 h.2,Bq] at hv;by_cases hp:c.primary∈c.replicas
    ·rw[if_pos hp] at hv;refine⟨a3,b3,hp,(CG.1 hw).1,(CG.1 hw).2,λx hx hxw=> ?_⟩
     have hz: ((((c.replicas.filter λx=>decide (x∈c.witnesses)).length:Nat):Int)==0)=true:=by simpa using hv
     have hz: (c.replicas.filter λx=>decide (x∈c.witnesses)).length=0:=by simp only[beq_iff_eq] at hz;omega
     have:=aX hz;have hm:x∈c.replicas.filter λx=>decide (x∈c.witnesses):=by simp[Cw,hx,hxw]
     rw[this] at hm;cases hm
    ·rw[if_neg hp] at hv;cases hv
   ·simp only[a1,b1,al,A7,Af] at hv;cases hv
  ·simp only[a1,al,A7,Af] at hv;cases hv
theorem Lq{m:jr}(h:Ju maxLen m)(hv:CP m=some (true,())): (∀k (hk:k<m.configs.length),CE m.configs[k] =some (true,())/\m.configs[k].epoch=(k:Int)+1)/\0<=m.activated/\m.activated<=(m.configs.length:Int):=by
 obtain⟨hl,hc⟩:=h
 have eU:=Be (B1:=Dd) (B2:=Dd) m.configs.length (λk=>(((),(k:Int),()),((m.configs,m.activated,()),()),())) (λk=>(((),(k:Int),()),((m.configs,m.activated,()),()),())) (.inr (((),(),()),((m.configs,m.activated,()),()),())) (.inr (((),(),()),((m.configs,m.activated,()),()),())) (λ_=> .inl (((),false,()),((m.configs,m.activated,()),()),())) (λ_=> .inl (((),false,()),((m.configs,m.activated,()),()),()))
  (λk=> ∀hk:k<m.configs.length,CE m.configs[k] =some (true,())/\m.configs[k].epoch=(k:Int)+1) (λ_=>True)
  (by simp only[Dd];rw[Bq,if_neg (by omega)])
  (by simp only[Dd];rw[Bq,if_neg (by omega)])
  (λk hk=>by
    have c1: (k:Int)< (m.configs.length:Int):=by omega
    have c2: (0:Int)<=(k:Int):=by omega
    obtain⟨b,v1,v2⟩:=Fk m.configs[k] (hc _ (Cc hk))
    have step:Dd (((),(k:Int),()),((m.configs,m.activated,()),()),())=br b (br (m.configs[k].epoch==((k+1:Nat):Int)) (some (.inl (((),((k+1:Nat):Int),()),((m.configs,m.activated,()),()),()))) (some (.inr (.inl (((),false,()),((m.configs,m.activated,()),()),()))))) (some (.inr (.inl (((),false,()),((m.configs,m.activated,()),()),())))):=by simp only[Dd,Bq,Av,if_pos c1,if_pos c2,B8,an hk,al,v1,Ad hl hk,CD]
    rw[step];cases b with
    |false=>exact .inr ⟨rfl,rfl,trivial⟩
    |true=>
     rw[A7,E8];by_cases he:m.configs[k].epoch=((k+1:Nat):Int)
     ·rw[if_pos he];exact .inl ⟨rfl,rfl,λ_=>⟨v1,by omega⟩⟩
     ·rw[if_neg he];exact .inr ⟨rfl,rfl,trivial⟩)
 unfold CP at hv;rcases eU with ⟨k1,_,k3⟩| ⟨k,_,k1,_,_⟩
 ·rw[show GF (((),0,()),((m.configs,m.activated,()),()),())=_ from k1] at hv;simp only[al,Cq,Dz,ae,ao,and_true] at hv;exact⟨λk hk=>k3 k hk hk,(CG.1 hv).1,(CG.1 hv).2⟩
 ·rw[show GF (((),0,()),((m.configs,m.activated,()),()),())=_ from k1] at hv;cases hv
theorem HV{s:oU}{id:Int}(h:C9 1048576 s)(hv:CH s id=some (true,())):0<=s.first/\s.first<=16/\s.log.length<=16/\0<=s.commit/\s.commit<=s.first+(s.log.length:Int)/\Dk s.log=some (true,())/\Dk s.learned=some (true,())/\0<=s.epoch/\s.epoch<=20:=by
 unfold CH at hv;simp only[Dz,al,CD] at hv;cases h1:Fr s.version 1 2 with
 |false=>rw[h1] at hv;cases hv
 |true=>
 cases h2:Fr s.epoch 0 20 with
 |false=>rw[h1,h2] at hv;cases hv
 |true=>
 rw[h1,h2] at hv;rcases isLog s.log (CI h.2.1) with ⟨a1,a2,a3⟩| ⟨a1,a2⟩
 case inr=>simp only[a1,al,A7,Af] at hv;cases hv
 rcases isLog s.learned (CI h.2.2) with ⟨b1,b2,b3⟩| ⟨b1,b2⟩
 case inr=>simp only[a1,b1,al,A7,Af] at hv;cases hv
 simp only[a1,b1,al,A7] at hv;cases hw:Fr s.first 0 16 with
 |false=>rw[hw] at hv;cases hv
 |true=>
 have hf:=CG.1 hw;rw[hw,uc (n:=s.first+(s.log.length:Int)) (by omega) (by omega)] at hv;simp only[A7] at hv;cases h3:Fr (s.first+(s.log.length:Int)) 0 16 with
 |false=>rw[h3] at hv;cases hv
 |true=>
 cases h4:Fr s.commit 0 (s.first+(s.log.length:Int)) with
 |false=>rw[h3,h4] at hv;cases hv
 |true=>
 exact⟨hf.1,hf.2,a3,(CG.1 h4).1,(CG.1 h4).2,a1,b1,(CG.1 h2).1,(CG.1 h2).2⟩
structure VC (x:oQ):Prop where
 len:x.servers.length=5
 ml:CP x.master=some (true,())
 sides:EP x.sides=some (true,())
 places:Di x.places=some (true,())
 lease:ES x.lease=some (true,())
 now:0<=x.now/\x.now<=999
 up:0<=x.masterUp/\x.masterUp<=3
 srv: ∀k (hk:k<x.servers.length),CH x.servers[k] (k:Int)=some (true,())
theorem DK{x:oQ}(h:C0 1048576 x)(hv:CC x=some (true,())):VC x:=by
 obtain⟨⟨hs1,hs2⟩,hsd,hml,hpl⟩:=h;have hm:=CI hs1
 have eU:=Be (B1:=CL) (B2:=CL) x.servers.length (λk=>(((),(k:Int),()),((x.now,x.servers,x.sides,x.master.configs,x.master.activated,x.masterUp,x.lease.epoch,x.lease.holder,x.lease.ends,x.places,()),()),())) (λk=>(((),(k:Int),()),((x.now,x.servers,x.sides,x.master.configs,x.master.activated,x.masterUp,x.lease.epoch,x.lease.holder,x.lease.ends,x.places,()),()),())) (.inr (((),()),(),())) (.inr (((),()),(),())) (λ_=> .inl ((false,()),(),())) (λ_=> .inl ((false,()),(),()))
  (λk=> ∀hk:k<x.servers.length,CH x.servers[k] (k:Int)=some (true,())) (λ_=>True)
  (by simp only[CL];rw[Bq,if_neg (by omega)])
  (by simp only[CL];rw[Bq,if_neg (by omega)])
  (λk hk=>by
    have c1: (k:Int)< (x.servers.length:Int):=by omega
    have c2: (0:Int)<=(k:Int):=by omega
    have hsk:=hs2 _ (Cc hk);obtain⟨b,v1,v2⟩:=Ir x.servers[k] (k:Int) hsk;obtain⟨n,n1,n2⟩:=GP x.servers[k].learned (CI hsk.2.2);obtain⟨c,d,d1,d2,d3⟩:=KH x.master x.servers[k].config.epoch hml;have hcfg:=CJ hsk.1
    have step:CL (((),(k:Int),()),((x.now,x.servers,x.sides,x.master.configs,x.master.activated,x.masterUp,x.lease.epoch,x.lease.holder,x.lease.ends,x.places,()),()),())=some (.inr (.inl ((false,()),(),())))\/(b=true/\CL (((),(k:Int),()),((x.now,x.servers,x.sides,x.master.configs,x.master.activated,x.masterUp,x.lease.epoch,x.lease.holder,x.lease.ends,x.places,()),()),())=some (.inl (((),((k+1:Nat):Int),()),((x.now,x.servers,x.sides,x.master.configs,x.master.activated,x.masterUp,x.lease.epoch,x.lease.holder,x.lease.ends,x.places,()),()),()))):=by
     simp only[CL,Bq,Av,if_pos c1,if_pos c2,B8,an hk,al,v1,n1,Ad hm hk,CD,
      show (⟨x.master.configs,x.master.activated⟩:jr)=x.master from rfl,d1,I2 _ hcfg,(Ej c x.servers[k].config d3).1]
     cases b with
     |false=>exact .inl rfl
     |true=>
      simp only[A7]
      repeat' split
      all_goals first |exact .inl trivial|exact .inr ⟨trivial,trivial⟩| (cases d<;>first |exact .inl rfl| (simp only[A7];repeat' split)<;>first |exact .inl trivial|exact .inr ⟨trivial,trivial⟩)
    rcases step with h1| ⟨rfl,h1⟩
    ·rw[h1];exact .inr ⟨rfl,rfl,trivial⟩
    ·rw[h1];exact .inl ⟨rfl,rfl,λ_=>v1⟩)
 unfold CC at hv;obtain⟨b1,a1,a2⟩:=JO x.sides (CI hsd);obtain⟨b2,m1,m2⟩:=masterLog x.master (DW hml);obtain⟨b3,l1,l2⟩:=Ll x.lease;obtain⟨b4,p1,p2⟩:=Jc x.places (CI hpl);simp only[Dz,a1,m1,l1,p1,al,CD,Bq] at hv;cases h1:Fr x.now 0 999 with
 |false=>rw[h1] at hv;cases hv
 |true=>
 cases h2: ((x.servers.length:Int)==5) with
 |false=>rw[h1,h2] at hv;cases hv
 |true=>
 cases b1 with
 |false=>rw[h1,h2] at hv;cases hv
 |true=>
 cases b2 with
 |false=>rw[h1,h2] at hv;cases hv
 |true=>
 cases h3:Fr x.masterUp 0 3 with
 |false=>rw[h1,h2,h3] at hv;cases hv
 |true=>
 cases b3 with
 |false=>rw[h1,h2,h3] at hv;cases hv
 |true=>
 cases b4 with
 |false=>rw[h1,h2,h3] at hv;cases hv
 |true=>
 rw[h1,h2,h3] at hv;simp only[A7] at hv;by_cases h4:x.lease.epoch>x.master.activated
 ·rw[if_pos h4] at hv;cases hv
 ·rw[if_neg h4] at hv;rcases eU with ⟨k1,_,k3⟩| ⟨k,_,k1,_,_⟩
  ·refine⟨?_,m1,a1,p1,l1,CG.1 h1,CG.1 h3,λk hk=>k3 k hk hk⟩;simp only[beq_iff_eq] at h2;omega
  ·rw[show EU (((),0,()),((x.now,x.servers,x.sides,x.master.configs,x.master.activated,x.masterUp,x.lease.epoch,x.lease.holder,x.lease.ends,x.places,()),()),())=_ from k1] at hv;cases hv
end
section
theorem Vi(l:List pS)(hl:l.length<=maxLen):BK (DH l) (Ge l):=by
 have eU:=Be (B1:=DL) (B2:=CW) l.length (λk=>((l,(k:Int),()),(),())) (λk=>((l,(),(l.length:Int),(k:Int),()),(),())) (.inr (((),()),(),())) (.inr (((),()),(),())) (λ_=> .inl ((true,()),(),())) (λk=> .inl (((k:Int),()),(),()))
  (λ_=>True) (λ_=>True)
  (by simp only[DL];rw[Bq,if_neg (by omega)])
  (by simp only[CW];rw[Bq,if_neg (by omega)])
  (λk hk=>by
    have c1: (k:Int)< (l.length:Int):=by omega
    have c2: (0:Int)<=(k:Int):=by omega
    simp only[DL,CW,GV,JJ,Ff,Bq,Av,if_pos c1,if_pos c2,B8,an hk,al,Ad hl hk];cases (l[k].op.kind==2) with
    |false=>exact .inl ⟨rfl,rfl,trivial⟩
    |true=>exact .inr ⟨rfl,rfl,trivial⟩)
 unfold DH Ge Dp DC;rcases eU with ⟨k1,k2,_⟩| ⟨k,_,k1,k2,_⟩
 ·rw[show Gk ((l,0,()),(),())=_ from k1,show D7 ((l,(),(l.length:Int),0,()),(),())=_ from k2];exact⟨_,rfl,rfl⟩
 ·rw[show Gk ((l,0,()),(),())=_ from k1,show D7 ((l,(),(l.length:Int),0,()),(),())=_ from k2];simp only[al,Cm];rw[decide_eq_true (by omega)];exact⟨_,rfl,rfl⟩
theorem Wz(l:List pS)(hl:l.length<=maxLen):BK (Dy l) (Gc l):=by obtain⟨b,h1,h2⟩:=Vi l hl;unfold Dy Gc;rw[h1,h2];exact⟨b,rfl,rfl⟩
end
section
section
variable {α:Type}
def RF(w:α->Int):List α->Int
 | [] =>0
 |x::l=>w x+RF w l
theorem TP(w:α->Int)(a b:List α):RF w (a++b)=RF w a+RF w b:=by
 induction a with
 |nil=>simp[RF]
 |cons x a ih=>simp only[cw,RF,ih];omega
def NW(l:List α):Int:=(l.length:Int)
end
def TF(c:mt):Int:=NW c.replicas+NW c.witnesses
def RD(s:oU):Int:=TF s.config+NW s.log+NW s.learned
def tMl(m:jr):Int:=NW m.configs+RF TF m.configs
theorem YO{α:Type}(l:List α):0<=NW l:=by unfold NW;omega
theorem TG(c:mt):0<=TF c:=by unfold TF NW;omega
theorem YN(s:oU):0<=RD s:=by have:=TG s.config;unfold RD NW;omega
end
section

end
section
theorem Pb{n c:Nat}(h:n<=1048577)(hc:c<=1000):n*c<=2 ^ 40:=by
 have h1:n*c<=1048577*1000:=Nat.mul_le_mul h hc;have h2: (2:Nat) ^ 40=1099511627776:=by decide
 omega
theorem IB(c:mt)(h:Eg 1048576 c):Fx c=some (c,())/\D5 c=some (c,()):=by have a:=h.1;have b:=h.2;unfold Fx D5;simp only[bC,Av,if_pos (Pb (Ci a) (show 8<=1000 by decide)),if_pos (Pb (Ci b) (show 8<=1000 by decide))];exact⟨trivial,trivial⟩
theorem IC(l:List pS)(h:l.length<=1048576):DP l=some (l,())/\DI l=some (l,()):=by unfold DP DI;simp only[bC,Av,if_pos (Pb (Ci h) (show 56<=1000 by decide))];exact⟨trivial,trivial⟩
theorem Yd(l:List Int)(h:l.length<=1048576):Gt l=some (l,()):=by unfold Gt;simp only[Av,if_pos (Pb (Ci h) (show 8<=1000 by decide))]
theorem UG(l:List sV)(h:l.length<=1048576):IX l=some (l,()):=by unfold IX;simp only[Av,if_pos (Pb (Ci h) (show 24<=1000 by decide))]
theorem NB(s:oU)(h:C9 1048576 s):FK s=some (s,())/\Eu s=some (s,()):=by unfold FK Eu;simp only[(IB _ h.1).1,(IB _ h.1).2,(IC _ h.2.1).1,(IC _ h.2.1).2,(IC _ h.2.2).1,(IC _ h.2.2).2,al];exact⟨trivial,trivial⟩
theorem F3{α:Type}{l:List α}{k:Nat}{x:α}(h:l[k]? =some x):l.take (k+1)=l.take k++ [x] :=by rw[Cg,h];rfl
theorem KE{α:Type}(l:List α)(k:Nat)(x:α)(h:l.length<=1048576): (l.take k++ [x]).length<=1048577:=by rw[bH,cH,cm];omega
theorem Ls(m:jr)(h:Ju 1048576 m):Jk m=some (m,())/\Gp m=some (m,()):=by
 obtain⟨hl,hc⟩:=h
 have k1:=Az (B:=Ig) m.configs (λk (b:List mt)=>(((),(),(),(k:Int),()),((m.configs,m.activated,()),((),0,()),((),m.activated,()),()),(b,()))) (λk b=>b=m.configs.take k) (λ_ _ _=>(((),(),()),(((),0,()),((),m.activated,()),()),(m.configs,())))
  (λb hb=>by simp only[Ig];rw[Bq,if_neg (by omega),hb,Ce])
  (λk b c hx hb=>by
    have hk:=Bz hx;have c1: (k:Int)< (m.configs.length:Int):=by omega
    have c2: (0:Int)<=(k:Int):=by omega
    subst hb;refine .inl ⟨m.configs.take (k+1),?_,rfl,rfl⟩;simp only[Ig,Bq,Av,if_pos c1,if_pos c2,B8,hx,al,(IB c (hc c (aw hx))).1,Ad (CI hl) hk,if_pos (Pb (KE m.configs k c hl) (show 64<=1000 by decide)),F3 hx])
  0 [] (bL _) rfl
 have k2:=Az (B:=F8) m.configs (λk (b:List mt)=>(((),(),m.configs,(m.configs.length:Int),(k:Int),()),(((),0,()),((),m.activated,()),()),(b,()))) (λk b=>b=m.configs.take k) (λ_ _ _=>(((),(),()),(((),0,()),((),m.activated,()),()),(m.configs,())))
  (λb hb=>by simp only[F8];rw[Bq,if_neg (by omega),hb,Ce])
  (λk b c hx hb=>by
    have hk:=Bz hx;have c1: (k:Int)< (m.configs.length:Int):=by omega
    have c2: (0:Int)<=(k:Int):=by omega
    subst hb;refine .inl ⟨m.configs.take (k+1),?_,rfl,rfl⟩;simp only[F8,Bq,Av,if_pos c1,if_pos c2,B8,hx,al,(IB c (hc c (aw hx))).2,Ad (CI hl) hk,if_pos (Pb (KE m.configs k c hl) (show 64<=1000 by decide)),F3 hx])
  0 [] (bL _) rfl
 unfold Jk Gp;rw[show PM (((),(),(),0,()),((m.configs,m.activated,()),((),0,()),((),m.activated,()),()),(([]:List mt),()))=_ from k1,show Nf (((),(),m.configs,(m.configs.length:Int),0,()),(((),0,()),((),m.activated,()),()),(([]:List mt),()))=_ from k2];exact⟨rfl,rfl⟩
theorem Fu(x:oQ)(ok:C0 1048576 x):C7 x=some (x,())/\HD x=some (x,()):=by
 obtain⟨⟨hl,hs⟩,hsd,hml,hpl⟩:=ok
 have k1:=Az (B:=Ih) x.servers (λk (b:List oU)=>(((),(),(),(k:Int),()),((x.now,x.servers,x.sides,x.master.configs,x.master.activated,x.masterUp,x.lease.epoch,x.lease.holder,x.lease.ends,x.places,()),(0,(),(),(),0,0,0,0,0,(),()),(x.now,(),x.sides,x.master.configs,x.master.activated,x.masterUp,x.lease.epoch,x.lease.holder,x.lease.ends,x.places,()),()),(b,()))) (λk b=>b=x.servers.take k) (λ_ _ _=>(((),(),(),()),((x.now,x.servers,x.sides,x.master.configs,x.master.activated,x.masterUp,x.lease.epoch,x.lease.holder,x.lease.ends,x.places,()),(0,(),(),(),0,0,0,0,0,(),()),(x.now,(),x.sides,x.master.configs,x.master.activated,x.masterUp,x.lease.epoch,x.lease.holder,x.lease.ends,x.places,()),()),(x.servers,())))
  (λb hb=>by simp only[Ih];rw[Bq,if_neg (by omega),hb,Ce])
  (λk b c hx hb=>by
    have hk:=Bz hx;have c1: (k:Int)< (x.servers.length:Int):=by omega
    have c2: (0:Int)<=(k:Int):=by omega
    subst hb;refine .inl ⟨x.servers.take (k+1),?_,rfl,rfl⟩;simp only[Ih,Bq,Av,if_pos c1,if_pos c2,B8,hx,al,(NB c (hs c (aw hx))).1,Ad (CI hl) hk,if_pos (Pb (KE x.servers k c hl) (show 152<=1000 by decide)),F3 hx])
  0 [] (bL _) rfl
 have k2:=Az (B:=FF) x.servers (λk (b:List oU)=>(((),(),(),x.servers,(x.servers.length:Int),(k:Int),()),((x.now,x.servers,x.sides,x.master.configs,x.master.activated,x.masterUp,x.lease.epoch,x.lease.holder,x.lease.ends,x.places,()),(0,(),(),(),0,0,0,0,0,(),()),(x.now,(),x.sides,x.master.configs,x.master.activated,x.masterUp,x.lease.epoch,x.lease.holder,x.lease.ends,x.places,()),()),(b,()))) (λk b=>b=x.servers.take k) (λ_ _ _=>(((),(),(),()),((x.now,x.servers,x.sides,x.master.configs,x.master.activated,x.masterUp,x.lease.epoch,x.lease.holder,x.lease.ends,x.places,()),(0,(),(),(),0,0,0,0,0,(),()),(x.now,(),x.sides,x.master.configs,x.master.activated,x.masterUp,x.lease.epoch,x.lease.holder,x.lease.ends,x.places,()),()),(x.servers,())))
  (λb hb=>by simp only[FF];rw[Bq,if_neg (by omega),hb,Ce])
  (λk b c hx hb=>by
    have hk:=Bz hx;have c1: (k:Int)< (x.servers.length:Int):=by omega
    have c2: (0:Int)<=(k:Int):=by omega
    subst hb;refine .inl ⟨x.servers.take (k+1),?_,rfl,rfl⟩;simp only[FF,Bq,Av,if_pos c1,if_pos c2,B8,hx,al,(NB c (hs c (aw hx))).2,Ad (CI hl) hk,if_pos (Pb (KE x.servers k c hl) (show 152<=1000 by decide)),F3 hx])
  0 [] (bL _) rfl
 unfold C7 HD
 rw[show PN (((),(),(),0,()),((x.now,x.servers,x.sides,x.master.configs,x.master.activated,x.masterUp,x.lease.epoch,x.lease.holder,x.lease.ends,x.places,()),(0,(),(),(),0,0,0,0,0,(),()),(x.now,(),x.sides,x.master.configs,x.master.activated,x.masterUp,x.lease.epoch,x.lease.holder,x.lease.ends,x.places,()),()),(([]:List oU),()))=_ from k1,
  show MD (((),(),(),x.servers,(x.servers.length:Int),0,()),((x.now,x.servers,x.sides,x.master.configs,x.master.activated,x.masterUp,x.lease.epoch,x.lease.holder,x.lease.ends,x.places,()),(0,(),(),(),0,0,0,0,0,(),()),(x.now,(),x.sides,x.master.configs,x.master.activated,x.masterUp,x.lease.epoch,x.lease.holder,x.lease.ends,x.places,()),()),(([]:List oU),()))=_ from k2]
 have em: (⟨x.master.configs,x.master.activated⟩:jr)=x.master:=rfl;simp only[al,bC,em,(Ls _ hml).1,(Ls _ hml).2,Yd _ hsd,UG _ hpl,Av,if_pos (Pb (Ci hsd) (show 8<=1000 by decide)),if_pos (Pb (Ci hpl) (show 24<=1000 by decide))];exact⟨trivial,trivial⟩
theorem SP(x:oQ)(id:Int)(ok:C0 1048576 x): ∃b,GO x id=some (b,())/\Er x id=some (b,())/\(b=true->CC x=some (true,())/\0<=id/\id<5):=by
 obtain⟨v,v1,v2⟩:=Ea x ok;unfold GO Er;simp only[v1,v2,al,Dz,Ja];cases v with
 |false=>exact⟨false,rfl,rfl,nofun⟩
 |true=>refine⟨Fr id 0 4,rfl,rfl,λh=>⟨rfl,?_⟩⟩;have:=CG.1 h;omega
end
section
def V7(x:oQ)(k:Nat)(s:oU):oQ:=⟨x.now,x.servers.set k s,x.sides,x.master,x.masterUp,x.lease,x.places⟩
theorem Vt{x:oQ}(ok:C0 1048576 x)(k:Nat){s:oU}(hs:C9 1048576 s):C0 1048576 (V7 x k s):=
 ⟨⟨by unfold V7;rw[Cd];exact ok.1.1,λt ht=>by
   rcases cL ht with h|h
   ·exact ok.1.2 t h
   ·rw[h];exact hs⟩,ok.2.1,ok.2.2.1,ok.2.2.2⟩
end
section
theorem Uu(x:sS):BK (Jj x) (Je x):=by
 obtain⟨b,h1,h2⟩:=Ll x;unfold Jj Je;simp only[h1,h2,al];cases b with
 |false=>simp only[Bool.not_false,A7];cases ((x.epoch==0)&&((x.holder==0)&&((x.ends==0)&&true)))<;>exact⟨_,rfl,rfl⟩
 |true=>
  simp only[cS,Af];cases he:x.ends==0 with
  |true=>
   cases hz: ((x.epoch==0)&&((x.holder==0)&&(true&&true))) with
   |true=>exact⟨_,rfl,rfl⟩
   |false=>
    exfalso;unfold E0 at h2;rw[he,hz] at h2;simp only[Af,Ja,al] at h2
    have hw:Fr x.ends 1 1049=false:=by rw[Bool.eq_false_iff];intro hw;have:=CG.1 hw;simp only[beq_iff_eq] at he;omega
    rw[hw] at h2;revert h2;cases Fr x.epoch 1 20<;>cases Fr x.holder 0 4<;>intro h2<;>cases h2
  |false=>
   have hz: ((x.epoch==0)&&((x.holder==0)&&(false&&true)))=false:=by cases x.epoch==0<;>cases x.holder==0<;>rfl
   rw[hz];exact⟨_,rfl,rfl⟩
theorem Nd(x:sS)(n:Int):BK (Fh x n) (EW x n):=by obtain⟨b,h1,h2⟩:=Ll x;obtain⟨t,t1,t2⟩:=Uu x;unfold Fh EW;simp only[h1,h2,t1,t2,Dz,Ja,al];cases b<;>cases Fr n 0 999<;>exact⟨_,rfl,rfl⟩
end
section
theorem VZ{m:jr}(h:Ju 1048576 m)(hv:CP m=some (true,())):m.configs.length<=20:=by
 obtain⟨f,_,_⟩:=Lq (DW h) hv;rcases bh m.configs.length with h0|h0
 ·omega
 ·have hk:m.configs.length-1<m.configs.length:=by omega
  obtain⟨f1,f2⟩:=f _ hk;have:=(FO (CJ (h.2 _ (Cc hk))) f1).2.2.2.2.1;omega
theorem Wk{α:Type}(w:α->Int)(l:List α)(x:α):RF w (l++ [x])=RF w l+w x:=by rw[TP];simp[RF]
theorem Oe(m:jr)(c:mt)(h:Ju 1048576 m)(hc:Eg 1048576 c): ∃r b,Dg m c=some (r,b,())/\GA m c=some (r,b,())/\Ju 1048576 r/\tMl r<=tMl m+1+TF c/\(b=false->r=m)/\(b=true->r=⟨m.configs++ [c],m.activated⟩/\CP m=some (true,())/\CE c=some (true,())/\c.epoch=(m.configs.length:Int)+1):=by
 obtain⟨v,v1,v2⟩:=masterLog m (DW h);obtain⟨u,u1,u2⟩:=Fk c (CJ hc);have hn:=TG c;have hl:=h.1;unfold Dg GA;simp only[(Ls m h).1,(Ls m h).2,(IB c hc).1,(IB c hc).2,v1,v2,u1,u2,al,CD,E8];cases v with
 |false=>exact⟨m,false,rfl,rfl,h,by omega,λ_=>rfl,nofun⟩
 |true=>
  cases u with
  |false=>exact⟨m,false,rfl,rfl,h,by omega,λ_=>rfl,nofun⟩
  |true=>
   have hm:=VZ h v1;rw[uc (n:=(m.configs.length:Int)+1) (by omega) (by omega)];by_cases he:c.epoch=(m.configs.length:Int)+1
   ·have hs: (m.configs++ [c]).length*64<=2 ^ 40:=Pb (by simp;omega) (by decide);simp only[A7,if_pos he,Av,if_pos hs];refine⟨_,true,rfl,rfl,⟨by simp;omega,λd hd=> ?_⟩,?_,nofun,λ_=>⟨rfl,trivial,trivial,he⟩⟩
    ·rcases bq.1 hd with h1|h1
     ·exact h.2 d h1
     ·rw[aH.1 h1];exact hc
    ·unfold tMl;simp only[Wk,NW,bH,cm];omega
   ·simp only[A7,if_neg he];exact⟨m,false,rfl,rfl,h,by omega,λ_=>rfl,nofun⟩
theorem Qu(m:jr)(e:Int)(h:Ju 1048576 m): ∃r b,De m e=some (r,b,())/\Ga m e=some (r,b,())/\Ju 1048576 r/\tMl r=tMl m/\(b=false->r=m)/\(b=true->r=⟨m.configs,e⟩/\CP m=some (true,())/\e=(m.configs.length:Int)/\m.activated<e):=by
 obtain⟨v,v1,v2⟩:=masterLog m (DW h);unfold De Ga;simp only[(Ls m h).1,(Ls m h).2,v1,v2,al,CD,E8,Bq];cases v with
 |false=>exact⟨m,false,rfl,rfl,h,rfl,λ_=>rfl,nofun⟩
 |true=>
  simp only[A7];by_cases h1:e=(m.configs.length:Int)
  ·by_cases h2:e<=m.activated
   ·simp only[if_pos h1,if_pos h2];exact⟨m,false,rfl,rfl,h,rfl,λ_=>rfl,nofun⟩
   ·simp only[if_pos h1,if_neg h2];exact⟨⟨m.configs,e⟩,true,rfl,rfl,h,rfl,nofun,λ_=>⟨rfl,trivial,h1,by omega⟩⟩
  ·simp only[if_neg h1];exact⟨m,false,rfl,rfl,h,rfl,λ_=>rfl,nofun⟩
def cutAt(l:List pS):Nat:=l.length-3
theorem Qw(l:List pS)(hl:l.length<=1048576): (if IntKind.wrap .i64 ((l.length:Int)-3)>0 then IntKind.wrap .i64 ((l.length:Int)-3) else 0)=((cutAt l:Nat):Int):=by rw[uc (by omega) (by omega)];unfold cutAt;split<;>omega
theorem Ye(l:List pS)(hl:l.length<=1048576)(hv:IG l=some (true,())):LK l=some (((cutAt l:Nat):Int),l.drop (cutAt l),()):=by
 unfold LK;have hc:cutAt l<=l.length:=by unfold cutAt;omega
 have c1: (0:Int)<=((cutAt l:Nat):Int)/\((cutAt l:Nat):Int)<=(l.length:Int)/\(l.length:Int)<=(l.length:Int):=by omega
 have ht: ((l.drop (cutAt l)).take (l.length-cutAt l))=l.drop (cutAt l):=bS (by simp);simp only[hv,al,cS,Af,Qw l hl,Av,if_pos c1,B8,ht,(IC (l.drop (cutAt l)) (by simp;omega)).2]
def TR(s:oU)(c:mt)(l:List pS)(w:Bool):oU:=if w=true then ⟨s.up,true,s.version,c.epoch,c,((cutAt l:Nat):Int),l.drop (cutAt l),(l.length:Int),[]⟩ else ⟨s.up,true,s.version,c.epoch,c,0,l,(l.length:Int),[]⟩
theorem Yi{s:oU}{c:mt}{l:List pS}{w:Bool}(hc:Eg 1048576 c)(hl:l.length<=1048576):C9 1048576 (TR s c l w)/\RD (TR s c l w)<=TF c+NW l:=by
 unfold TR;cases w
 ·refine⟨⟨hc,hl,bL _⟩,?_⟩;simp only[RD,NW,aM,if_false,bQ];omega
 ·refine⟨⟨hc,by simp;omega,bL _⟩,?_⟩;simp only[RD,NW,if_true,bQ,cd];omega
theorem RH(s:oU)(c:mt)(id:Int)(l:List pS)(hs:C9 1048576 s)(hc:Eg 1048576 c)(hl:l.length<=1048576): ∃r b,Dw s c id l=some (r,b,())/\Gz s c id l=some (r,b,())/\C9 1048576 r/\RD r<=RD s+TF c+NW l/\(b=false->r=s)/\(b=true-> ∃w,r=TR s c l w):=by
 obtain⟨n,r1,r2,_⟩:=Kg c id (CJ hc);obtain⟨e,e1,e2⟩:=GP l (CI hl);obtain⟨q,q1,q2⟩:=Vi l (CI hl);have t1:=YN s;have t2:=TG c;have t3:=YO l;have no: ∃r b,some (s,false,())=some (r,b,())/\some (s,false,())=some (r,b,())/\C9 1048576 r/\RD r<=RD s+TF c+NW l/\(b=false->r=s)/\(b=true-> ∃w,r=TR s c l w):=⟨s,false,rfl,rfl,hs,by omega,λ_=>rfl,nofun⟩
 unfold Dw Gz;simp only[r1,r2,(NB s hs).1,(NB s hs).2,(IB c hc).1,(IB c hc).2,(IC l hl).1,(IC l hl).2,Dz,Ja,e1,e2,q1,q2,al,CD,Bq];have hcut:cutAt l<=l.length:=by unfold cutAt;omega
 have c1: (0:Int)<=((cutAt l:Nat):Int)/\((cutAt l:Nat):Int)<=(l.length:Int)/\(l.length:Int)<=(l.length:Int):=by omega
 have ht: ((l.drop (cutAt l)).take (l.length-cutAt l))=l.drop (cutAt l):=bS (by simp);cases hn:n==0 with
 |true=>exact no
 |false=>
 rcases isLog l (CI hl) with ⟨a1,a2,_⟩| ⟨a1,a2⟩
 case inr=>simp only[a1,a2,al,Af];exact no
 simp only[a1,a2,al,A7,Af,Qw l hl,Av,if_pos c1,B8,ht,(IC (l.drop (cutAt l)) (by simp;omega)).1,Ye l hl a2];cases Fr s.version 1 2 with
 |false=>exact no
 |true=>
 cases Fr s.epoch 0 c.epoch with
 |false=>exact no
 |true=>
 simp only[A7];by_cases he:e>c.epoch
 ·simp only[if_pos he];exact no
 simp only[if_neg he]
 have yes: ∀w,∃r b,some (TR s c l w,true,())=some (r,b,())/\some (TR s c l w,true,())=some (r,b,())/\C9 1048576 r/\RD r<=RD s+TF c+NW l/\(b=false->r=s)/\(b=true-> ∃w,r=TR s c l w):=by intro w;obtain⟨o1,o2⟩:=Yi (s:=s) (c:=c) (l:=l) (w:=w) hc hl;exact⟨_,true,rfl,rfl,o1,by omega,nofun,λ_=>⟨w,rfl⟩⟩
 cases s.version==1 with
 |false=>
  cases n==3 with
  |false=>exact yes false
  |true=>exact yes true
 |true=>
  cases q with
  |true=>exact no
  |false=>
   cases n==3 with
   |false=>exact yes false
   |true=>exact yes true
end
section
theorem GZ(m:jr)(e:Int)(h:Ju 1048576 m)(hv:CP m=some (true,())): ∃c b,DG m e=some (c,b,())/\G0 m e=some (c,b,())/\Eg maxLen c/\(b=Fr e 1 (m.configs.length:Int))/\(b=true->CE c=some (true,())/\c.epoch=e)/\(b=false->c=⟨0,0,[],[]⟩):=by
 obtain⟨b,m1,m2⟩:=masterLog m (DW h);rw[hv] at m1;simp only[ae,ao,and_true] at m1;subst m1;obtain⟨f1,_,_⟩:=Lq (DW h) hv;have zero:Eg maxLen ⟨0,0,[],[]⟩:=⟨bL _,bL _⟩
 have hl:=h.1;unfold DG G0;simp only[hv,m2,Dz,Ja,al,CD,A7];cases hw:Fr e 1 (m.configs.length:Int) with
 |false=>exact⟨_,_,rfl,rfl,zero,rfl,nofun,λ_=>rfl⟩
 |true=>
  have hw:=CG.1 hw;simp only[A7];rw[uc (n:=e-1) (by omega) (by omega)];have hlt: (e-1).toNat<m.configs.length:=by omega
  have hk:=h.2 _ (Cc hlt)
  have copy: ∀c:mt,Eg 1048576 c->Fx c=some (c,())/\D5 c=some (c,()):=by intro c hc;unfold Fx D5;simp only[bC];rw[Ax (GW hc.1),Ax (GW hc.2)];exact⟨rfl,rfl⟩
  rw[Ax (by omega),Ax (by omega),an hlt];simp only[al,(copy _ hk).1,(copy _ hk).2];refine⟨_,_,rfl,rfl,CJ hk,rfl,λ_=>⟨(f1 _ hlt).1,?_⟩,nofun⟩;rw[(f1 _ hlt).2];omega
theorem J8(x:oQ)(ok:C0 1048576 x)(hv:CC x=some (true,())): ∃c b,CK x.master=some (c,b,())/\D3 x.master=some (c,b,())/\Eg maxLen c/\(b=decide (x.master.activated>0))/\(b=true->CE c=some (true,())/\c.epoch=x.master.activated)/\(b=false->c=⟨0,0,[],[]⟩):=by
 have vc:=DK ok hv;obtain⟨_,f2,f3⟩:=Lq (DW ok.2.2.1) vc.ml;obtain⟨c,b,c1,c2,c3,c4,c5,c6⟩:=GZ x.master x.master.activated ok.2.2.1 vc.ml;unfold CK D3;rw[c1,c2];refine⟨c,b,rfl,rfl,c3,?_,c5,c6⟩;rw[c4];unfold Fr;rw[decide_eq_true f3,cR];by_cases h:x.master.activated>0
 ·rw[decide_eq_true h,decide_eq_true (by omega)]
 ·rw[decide_eq_false h,decide_eq_false (by omega)]
end
section
theorem Wl(x:oQ)(ok:C0 1048576 x)(hv:CC x=some (true,())):BK (Fw x) (Fv x):=by
 obtain⟨b,v1,v2⟩:=Ea x ok;rw[hv] at v1;simp only[ae,ao,and_true] at v1;subst v1;have vc:=DK ok hv;obtain⟨c,d,c1,c2,c3,c4,c5,c6⟩:=J8 x ok hv;unfold Fw Fv;simp only[c1,c2,hv,v2,al,CD,A7];cases d with
 |false=>
  have hz:=c6 rfl;subst hz;simp only[Af]
  have h1:FV (((),(),false,0,()),((x.now,x.servers,x.sides,x.master.configs,x.master.activated,x.masterUp,x.lease.epoch,x.lease.holder,x.lease.ends,x.places,()),(0,0,(),(),()),()),([],[],()))=some (.inr (((),false,()),(),())):=by refine kM ?_;simp only[DX];rfl
  rw[h1];exact⟨_,rfl,rfl⟩
 |true=>
  simp only[A7];obtain⟨asc,_,_,_,_,_⟩:=FO c3 (c5 rfl).1;have hl:=asc.len;have hm:c.replicas.length<=maxLen:=by unfold maxLen;omega
  have eU:=Be (B1:=DX) (B2:=CV) c.replicas.length (λk=>(((),(),true,(k:Int),()),((x.now,x.servers,x.sides,x.master.configs,x.master.activated,x.masterUp,x.lease.epoch,x.lease.holder,x.lease.ends,x.places,()),(c.epoch,c.primary,(),(),()),()),(c.replicas,c.witnesses,()))) (λk=>((c.replicas,(x,c,()),(c.replicas.length:Int),(k:Int),()),(),()))
   (.inr (((),true,()),(),())) (.inr (((),()),(),())) (λ_=> .inl ((true,true,()),(),())) (λk=> .inl (((k:Int),()),(),()))
   (λ_=>True) (λ_=>True)
   (by simp only[DX];rw[Bq,if_neg (by omega)])
   (by simp only[CV];rw[Bq,if_neg (by omega)])
   (λk hk=>by
     have c1: (k:Int)< (c.replicas.length:Int):=by omega
     have c2: (0:Int)<=(k:Int):=by omega
     have c3: (0:Int)<=(k:Int)/\(k:Int)< (c.replicas.length:Int):=⟨c2,c1⟩
     have hid:=(asc k hk).1;have c4: (0:Int)<=c.replicas[k] :=hid.1;have hlt:c.replicas[k].toNat<x.servers.length:=by rw[vc.len];omega
     simp only[DX,CV,FB,Bq,Av,if_pos c1,if_pos c2,if_pos c3,B8,an hk,al,if_pos c4,an hlt,A7,Ad hm hk];cases (x.servers[c.replicas[k].toNat].config.epoch==c.epoch) with
     |false=>exact .inl ⟨rfl,rfl,trivial⟩
     |true=>exact .inr ⟨rfl,rfl,trivial⟩)
  unfold Db Du;rcases eU with ⟨k1,k2,_⟩| ⟨k,_,k1,k2,_⟩
  ·rw[show FV (((),(),true,0,()),((x.now,x.servers,x.sides,x.master.configs,x.master.activated,x.masterUp,x.lease.epoch,x.lease.holder,x.lease.ends,x.places,()),(c.epoch,c.primary,(),(),()),()),(c.replicas,c.witnesses,()))=_ from k1,show DU ((c.replicas,(x,c,()),(c.replicas.length:Int),0,()),(),())=_ from k2];exact⟨_,rfl,rfl⟩
  ·rw[show FV (((),(),true,0,()),((x.now,x.servers,x.sides,x.master.configs,x.master.activated,x.masterUp,x.lease.epoch,x.lease.holder,x.lease.ends,x.places,()),(c.epoch,c.primary,(),(),()),()),(c.replicas,c.witnesses,()))=_ from k1,show DU ((c.replicas,(x,c,()),(c.replicas.length:Int),0,()),(),())=_ from k2];simp only[al,Cm];rw[decide_eq_true (by omega)];exact⟨_,rfl,rfl⟩
theorem PF(x:oQ)(ok:C0 1048576 x):BK (Fg x) (F1 x):=by
 obtain⟨b,v1,v2⟩:=Ea x ok;unfold Fg F1;cases b with
 |false=>obtain⟨c,d,d1,_,_⟩:=KH x.master x.master.activated ok.2.2.1;unfold CK;simp only[d1,v1,v2,al,Af];exact⟨_,rfl,rfl⟩
 |true=>obtain⟨c,d,c1,c2,c3,c4,c5,c6⟩:=J8 x ok v1;obtain⟨e,e1,e2⟩:=Wl x ok v1;simp only[c1,v1,v2,e1,e2,al,A7];rw[<-c4];cases d<;>exact⟨_,rfl,rfl⟩
end
section
def MW(s:oU):List pS:=if Fr s.commit s.first (s.first+(s.log.length:Int))=true then s.log.take (s.commit-s.first).toNat else []
theorem Wd(s:oU)(id:Int)(h:C9 1048576 s)(hv:CH s id=some (true,())):Df s=some (MW s,())/\Gv s=some (MW s,()):=by
 obtain⟨f1,f2,f3,f4,f5,_⟩:=HV h hv;unfold Df Gv MW;rw[uc (n:=s.first+(s.log.length:Int)) (by omega) (by omega)];simp only[Dz,Ja,al,CD,Bq,if_neg (show ¬s.first<0 by omega)];cases hw:Fr s.commit s.first (s.first+(s.log.length:Int)) with
 |false=>exact⟨rfl,rfl⟩
 |true=>
  have hw:=CG.1 hw;have d1: (0:Int)<=0/\(0:Int)<=s.commit-s.first/\s.commit-s.first<=(s.log.length:Int):=by omega
  have hs: (s.log.take (s.commit-s.first).toNat).length*56<=2 ^ 40:=by
   have : (s.log.take (s.commit-s.first).toNat).length<=16:=by simp;omega
   have e: (2:Nat) ^ 40=1099511627776:=by decide
   omega
  simp only[A7,if_true];rw[uc (n:=s.commit-s.first) (by omega) (by omega)];simp only[Av,if_pos d1,DP,DI,Cz,ct,Cv,bC,if_pos hs,al];exact⟨trivial,trivial⟩
end
section
theorem aaf{s:oU}{id:Int}(h:C9 1048576 s)(hv:CH s id=some (true,())):s.config=⟨0,0,[],[]⟩\/CE s.config=some (true,()):=by
 have hc:=CJ h.1;by_cases hz:s.config=⟨0,0,[],[]⟩
 ·exact .inl hz
 ·right;obtain⟨b,v1,_⟩:=Fk s.config hc;cases b with
  |true=>exact v1
  |false=>
   exfalso
   have hr:Dm s.config id=some (0,()):=by unfold Dm;rw[v1];rfl
   unfold CH at hv;simp only[Dz,al,CD,I2 s.config hc,hr,Bq,if_neg hz] at hv;cases h1:Fr s.version 1 2 with
   |false=>rw[h1] at hv;cases hv
   |true=>
   cases h2:Fr s.epoch 0 20 with
   |false=>rw[h1,h2] at hv;cases hv
   |true=>
   rcases isLog s.log (CI h.2.1) with ⟨a1,a2,a3⟩| ⟨a1,a2⟩
   case inr=>simp only[h1,h2,a1,al,A7,Af] at hv;cases hv
   rcases isLog s.learned (CI h.2.2) with ⟨b1,b2,b3⟩| ⟨b1,b2⟩
   case inr=>simp only[h1,h2,a1,b1,al,A7,Af] at hv;cases hv
   obtain⟨n,n1,n2⟩:=GP s.log (CI h.2.1);simp only[h1,h2,a1,b1,n1,al,A7] at hv;cases h3:Fr s.first 0 16<;>rw[h3] at hv
   ·cases hv
   ·cases h4:Fr (IntKind.wrap .i64 (s.first+(s.log.length:Int))) 0 16<;>rw[h4] at hv
    ·cases hv
    ·cases h5:Fr s.commit 0 (IntKind.wrap .i64 (s.first+(s.log.length:Int)))<;>rw[h5] at hv
     ·cases hv
     ·cases h6:s.intact<;>rw[h6] at hv
      ·cases hv
      ·simp only[A7] at hv
       repeat' split at hv
       all_goals cases hv
def Oh(s:oU)(id:Int):List pS:=if id∈s.config.replicas then (if (MW s).length>s.learned.length then MW s else s.learned) else s.learned
theorem SO(s:oU)(id:Int)(h:C9 1048576 s)(hv:CH s id=some (true,())):Ip s id=some (Oh s id,())/\E9 s id=some (Oh s id,()):=by
 have hc:=CJ h.1;obtain⟨p1,p2⟩:=Wd s id h hv
 have hs:s.learned.length*56<=2 ^ 40:=by
  have e: (2:Nat) ^ 40=1099511627776:=by decide
  have:=h.2.2;omega
 have cmp: ((MW s).length:Int)>(s.learned.length:Int)↔(MW s).length>s.learned.length:=by omega
 have hrep:JR s id=some (decide (id∈s.config.replicas),()):=by unfold JR;rw[(C8 s.config.replicas id hc.1).2];rfl
 have himpl:E9 s id=some (Oh s id,()):=by
  unfold E9 DI Oh;simp only[p2,hrep,al,Bq,Av,if_pos hs,cmp];split
  ·split<;>rfl
  ·rfl
 refine⟨?_,himpl⟩
 have hrole: ∃r,Dm s.config id=some (r,())/\((r=1\/r=2)↔id∈s.config.replicas):=by
  rcases aaf h hv with hz|hvc
  ·refine⟨0,?_,?_⟩
   ·rw[hz];rfl
   ·rw[hz];simp
  ·obtain⟨_,_,hpr,_⟩:=FO hc hvc;unfold Dm;simp only[hvc,al,CD,A7,E8,(C8 s.config.replicas id hc.1).1,(C8 s.config.witnesses id hc.2).1,Bq];by_cases h1:id=s.config.primary
   ·rw[if_pos h1];exact⟨1,rfl,by simp[h1,hpr]⟩
   ·rw[if_neg h1];by_cases h2:id∈s.config.replicas
    ·rw[if_pos h2];exact⟨2,rfl,by simp[h2]⟩
    ·rw[if_neg h2];split
     ·exact⟨3,rfl,by simp[h2]⟩
     ·exact⟨0,rfl,by simp[h2]⟩
 obtain⟨r,r1,r2⟩:=hrole;unfold Ip DP Oh;simp only[r1,p1,bC,Av,if_pos hs,al,E8,Bq,cmp];by_cases h1:r=1
 ·rw[if_pos h1,if_pos (r2.1 (.inl h1))];split<;>rfl
 ·rw[if_neg h1];by_cases h2:r=2
  ·rw[if_pos h2,if_pos (r2.1 (.inr h2))];split<;>rfl
  ·rw[if_neg h2,if_neg (λh=>by rcases r2.2 h with h|h<;>contradiction)]
end
section
def Mj(p:Nat->Bool)(n:Nat):List Int:=((List.range n).filter p).map λ(k:Nat)=>(k:Int)
theorem Qy(p:Nat->Bool)(n:Nat):Mj p (n+1)=Mj p n++if p n=true then [(n:Int)] else [] :=by
 unfold Mj;rw[List.range_succ,Ch,bG]
 congr 1
 cases h:p n<;>simp[h]
theorem OJ(p:Nat->Bool)(n:Nat)(x:Int):x∈Mj p n↔ ∃k:Nat,k<n/\p k=true/\x=(k:Int):=by
 unfold Mj;simp only[aB,Cw,bn];constructor
 ·rintro⟨k,⟨h1,h2⟩,rfl⟩;exact⟨k,h1,h2,rfl⟩
 ·rintro⟨k,h1,h2,rfl⟩;exact⟨k,⟨h1,h2⟩,rfl⟩
theorem Qp(p:Nat->Bool)(n:Nat): (Mj p n).length<=n:=by unfold Mj;rw[aD];exact aR (Cn _ _) (by simp)
theorem Vz(p:Nat->Bool){n:Nat}(hn:n<=5):Le (Mj p n):=by
 have hp: (Mj p n).Pairwise (· < ·):=by unfold Mj;rw[List.pairwise_map];exact (List.Pairwise.filter _ List.pairwise_lt_range).imp λh=>by omega
 intro k hk;have hm: (Mj p n)[k] ∈Mj p n:=Cc hk;obtain⟨j,h1,_,h2⟩:=(OJ p n _).1 hm;exact⟨⟨by omega,by omega⟩,λh0=>Cf.1 hp (k-1) k (by omega) hk (by omega)⟩
theorem Yh(p q:Nat->Bool)(n:Nat): (Mj p n).filter (λx=>decide (x∈Mj q n))=Mj (λk=>p k&&q k) n:=by
 unfold Mj;rw[List.filter_map,List.filter_filter]
 congr 1
 apply List.filter_congr;intro k hk;have hk:=bn.1 hk
 have : (((λx=>decide (x∈Mj q n))∘λ(k:Nat)=>(k:Int)) k)=q k:=by
  show decide ((k:Int)∈Mj q n)=q k;cases hq:q k with
  |true=>exact decide_eq_true ((OJ q n _).2 ⟨k,hk,hq,rfl⟩)
  |false=>
   refine decide_eq_false λh=> ?_;obtain⟨j,_,h1,h2⟩:=(OJ q n _).1 h;have :j=k:=by omega
   subst this;rw[hq] at h1;cases h1
 have e:decide ((k:Int)∈List.map (λ(k:Nat)=>(k:Int)) (List.filter q (List.range n)))=q k:=this;simp only[Function.comp,e,Bool.and_comm]
def Sr(x:oQ)(k:Nat):Bool:=match x.servers[k]? with |some s=>s.up|none=>false
def LI(l:List Int)(k:Nat):Bool:=match l[k]? with |some s=>s==0|none=>false
theorem YQ{p:Nat->Bool}{k:Nat}(h:k<=1000)(y:Int): (Mj p k++ [y]).length*8<=2 ^ 40:=by have:=Qp p k;refine GW ?_;rw[bH,cm];omega
theorem WJ(x:oQ)(hl:x.servers.length=5)(hv:CC x=some (true,())):G7 x=some (Mj (Sr x) 5,()):=by
 have ex: (⟨x.now,x.servers,x.sides,⟨x.master.configs,x.master.activated⟩,x.masterUp,⟨x.lease.epoch,x.lease.holder,x.lease.ends⟩,x.places⟩:oQ)=x:=rfl
 have eU:=Az (B:=F0) x.servers (λk (b:List Int)=>(((),(),(k:Int),()),((x.now,x.servers,x.sides,x.master.configs,x.master.activated,x.masterUp,x.lease.epoch,x.lease.holder,x.lease.ends,x.places,()),()),(b,()))) (λk b=>b=Mj (Sr x) k) (λ_ _ _=>(((),()),(),(Mj (Sr x) 5,())))
  (λb hb=>by simp only[F0];rw[Bq,if_neg (by omega),hb,hl])
  (λk b s hs hb=>by
    have hk:=Bz hs;have c1: (k:Int)< (x.servers.length:Int):=by omega
    have c2: (0:Int)<=(k:Int):=by omega
    have hup:Sr x k=s.up:=by unfold Sr;rw[hs]
    subst hb;simp only[F0,Bq,Av,if_pos c1,if_pos c2,B8,hs,al,ex,hv,A7,Ad (n:=5) (by decide) (by omega:k<5),if_pos (YQ (p:=Sr x) (k:=k) (by omega) (k:Int))];refine .inl ⟨Mj (Sr x) (k+1),?_,rfl,trivial⟩;rw[Qy,hup];cases s.up
    ·simp;rfl
    ·rfl)
  0 [] (bL _) rfl
 unfold G7;rw[show LA (((),(),0,()),((x.now,x.servers,x.sides,x.master.configs,x.master.activated,x.masterUp,x.lease.epoch,x.lease.holder,x.lease.ends,x.places,()),()),([],()))=_ from eU];rfl
theorem HU{l:List Int}(hl:l.length<=maxLen)(hv:EP l=some (true,())):l.length=5:=by
 obtain⟨b,h1,h2⟩:=JO l hl;rw[hv] at h1;simp only[ae,ao,and_true] at h1;subst h1;unfold H5 at h2;cases h: ((l.length:Int)==5) with
 |false=>rw[h] at h2;cases h2
 |true=>simp only[beq_iff_eq] at h;omega
theorem Rd(l:List Int)(hl:l.length=5)(hv:EP l=some (true,())):Gs l=some (Mj (LI l) 5,()):=by
 have eU:=Az (B:=Fs) l (λk (b:List Int)=>((l,(),(k:Int),()),(),(b,()))) (λk b=>b=Mj (LI l) k) (λ_ _ _=>(((),()),(),(Mj (LI l) 5,())))
  (λb hb=>by simp only[Fs];rw[Bq,if_neg (by omega),hb,hl])
  (λk b s hs hb=>by
    have hk:=Bz hs;have c1: (k:Int)< (l.length:Int):=by omega
    have c2: (0:Int)<=(k:Int):=by omega
    have hup:LI l k=(s==0):=by unfold LI;rw[hs]
    subst hb;simp only[Fs,Bq,Av,if_pos c1,if_pos c2,B8,hs,al,hv,A7,Ad (n:=5) (by decide) (by omega:k<5),if_pos (YQ (p:=LI l) (k:=k) (by omega) (k:Int))];refine .inl ⟨Mj (LI l) (k+1),?_,rfl,trivial⟩;rw[Qy,hup];cases (s==0)
    ·simp;rfl
    ·rfl)
  0 [] (bL _) rfl
 unfold Gs;rw[show KX ((l,(),0,()),(),([],()))=_ from eU];rfl
def EY(x:oQ)(k:Nat):Bool:=Sr x k&&LI x.sides k
theorem YP(x:oQ)(ok:C0 1048576 x)(hv:CC x=some (true,())):H8 x=some (Mj (EY x) 5,()):=by have vc:=DK ok hv;have hsl:=HU (CI ok.2.1) vc.sides;unfold H8;rw[WJ x vc.len hv,Rd x.sides hsl vc.sides];simp only[al];rw[NK _ _ (Vz _ (au 5)) (aR (Qp _ _) (by decide)),Yh];rfl
end
section
def Lk(x:oQ)(id:Int):List pS:=match x.servers[id.toNat]? with |some s=>Oh s id|none=> []
theorem WO(x:oQ)(ok:C0 1048576 x)(hv:CC x=some (true,()))(id:Int)(h0:0<=id)(h5:id<5):Iq x id=some (Lk x id,()):=by
 have vc:=DK ok hv;have hlt:id.toNat<x.servers.length:=by rw[vc.len];omega
 have hs:=ok.1.2 _ (Cc hlt);have hsv:=vc.srv id.toNat hlt;rw[show ((id.toNat:Nat):Int)=id by omega] at hsv;unfold Iq Lk;rw[Ax h0,an hlt];simp only[al,(SO _ id hs hsv).1]
def FY(x:oQ)(b id:Int):Int:=if b<0 then id else if (Lk x id).length>(Lk x b).length then id else b
theorem Wb(x:oQ){b id:Int}(hb:b<0\/(0<=b/\b<5))(h0:0<=id)(h5:id<5):0<=FY x b id/\FY x b id<5:=by
 unfold FY;split
 ·exact⟨h0,h5⟩
 ·split
  ·exact⟨h0,h5⟩
  ·omega
theorem Ud(x:oQ)(ok:C0 1048576 x)(hv:CC x=some (true,())):Ee x=some ((Mj (EY x) 5).foldl (FY x) (-1),()):=by
 have ex: (⟨x.now,x.servers,x.sides,⟨x.master.configs,x.master.activated⟩,x.masterUp,⟨x.lease.epoch,x.lease.holder,x.lease.ends⟩,x.places⟩:oQ)=x:=rfl;have hl:=Qp (EY x) 5;have hm: (Mj (EY x) 5).length<=maxLen:=aR hl (by decide)
 have eU:=Az (B:=Eb) (Mj (EY x) 5) (λk (b:Int)=>(((),b,(),(k:Int),()),((x.now,x.servers,x.sides,x.master.configs,x.master.activated,x.masterUp,x.lease.epoch,x.lease.holder,x.lease.ends,x.places,()),()),(Mj (EY x) 5,()))) (λ_ b=>b<0\/(0<=b/\b<5)) (λ_ r b=>((r.foldl (FY x) b,()),(),()))
  (λb hb=>by simp only[Eb];rw[Bq,if_neg (by omega)];rfl)
  (λk b id hid hb=>by
    have hk:=Bz hid;obtain⟨j,j1,_,j2⟩:=(OJ _ _ _).1 (aw hid);have h0:0<=id:=by omega
    have h5:id<5:=by omega
    have c1: (k:Int)< ((Mj (EY x) 5).length:Int):=by omega
    have c2: (0:Int)<=(k:Int)/\(k:Int)< ((Mj (EY x) 5).length:Int):=by omega
    left;simp only[Eb,Bq,Av,if_pos c1,if_pos c2,B8,hid,al,ex,hv,A7,Ad hm hk];refine⟨FY x b id,?_,.inr (Wb x hb h0 h5),rfl⟩;by_cases hneg:b<0
    ·rw[if_pos hneg];have :FY x b id=id:=if_pos hneg;rw[this]
    ·rw[if_neg hneg];have hb':0<=b/\b<5:=by omega
     simp only[WO x ok hv id h0 h5,WO x ok hv b hb'.1 hb'.2,al];by_cases hgt: (Lk x id).length>(Lk x b).length
     ·rw[if_pos (by omega)];have :FY x b id=id:=by unfold FY;rw[if_neg hneg,if_pos hgt]
      rw[this]
     ·rw[if_neg (by omega)];have :FY x b id=b:=by unfold FY;rw[if_neg hneg,if_neg hgt]
      rw[this])
  0 (-1) (bL _) (.inl (by decide))
 unfold Ee;rw[YP x ok hv];simp only[al];rw[show Hz (((),-1,(),0,()),((x.now,x.servers,x.sides,x.master.configs,x.master.activated,x.masterUp,x.lease.epoch,x.lease.holder,x.lease.ends,x.places,()),()),(Mj (EY x) 5,()))=_ from eU];rfl
theorem Xl(x:oQ)(ok:C0 1048576 x)(hv:CC x=some (true,()))(hi:Dx x=some (true,())):Ec x=some ((Mj (EY x) 5).foldl (FY x) (-1),()):=by
 have ex: (⟨x.now,x.servers,x.sides,⟨x.master.configs,x.master.activated⟩,x.masterUp,⟨x.lease.epoch,x.lease.holder,x.lease.ends⟩,x.places⟩:oQ)=x:=rfl;have vc:=DK ok hv;have hl:=vc.len;have hsl:=HU (CI ok.2.1) vc.sides
 have eU:=Az (B:=EB) x.servers (λk (b:Int×Int)=>(((),b.1,b.2,x.servers,(x.servers.length:Int),(k:Int),()),((x.now,x.servers,x.sides,x.master.configs,x.master.activated,x.masterUp,x.lease.epoch,x.lease.holder,x.lease.ends,x.places,()),()),())) (λk b=>b.1=(Mj (EY x) k).foldl (FY x) (-1)/\(b.1<0\/(0<=b.1/\b.1<5/\b.2=((Lk x b.1).length:Int)))) (λ_ _ _=>(((Mj (EY x) 5).foldl (FY x) (-1),()),(),()))
  (λb hb=>by simp only[EB];rw[Bq,if_neg (by omega),hb.1,hl])
  (λk b s hs hb=>by
    have hk:=Bz hs;have hlt:k<x.sides.length:=by omega
    have c1: (k:Int)< (x.servers.length:Int):=by omega
    have c2: (0:Int)<=(k:Int):=by omega
    have hse:x.servers[k] =s:=by rw[an hk] at hs;exact Option.some.inj hs
    have hsv:=vc.srv k hk;rw[hse] at hsv;have hso:C9 1048576 s:=ok.1.2 s (aw hs);have hdat:Lk x (k:Int)=Oh s (k:Int):=by unfold Lk;rw[B8,hs]
    have hus:KJ x (k:Int)=some (EY x k,()):=by unfold KJ EY Sr LI;simp only[Av,if_pos c2,B8,hs,an hlt,al];cases s.up<;>rfl
    left;simp only[EB,Bq,Av,if_pos c1,if_pos c2,B8,hs,al,ex,(SO s (k:Int) hso hsv).2,hus,Ad (CI ok.1.1) hk,Qy];obtain⟨hb1,hb2⟩:=hb;cases ha:EY x k with
    |false=>simp only[Af];exact⟨b,rfl,⟨by rw[hb1];simp,hb2⟩,trivial⟩
    |true=>
     simp only[A7,if_true,List.foldl_append,List.foldl_cons,List.foldl_nil,<-hb1];by_cases hneg:b.1<0
     ·rw[if_pos hneg];exact⟨((k:Int),((Oh s (k:Int)).length:Int)),rfl,⟨(if_pos hneg:FY x b.1 (k:Int)=(k:Int)).symm,.inr ⟨by omega,by simp only;omega,by rw[hdat]⟩⟩,trivial⟩
     ·rw[if_neg hneg]
      have hb':0<=b.1/\b.1<5/\b.2=((Lk x b.1).length:Int):=by
       rcases hb2 with h|h
       ·exact absurd h hneg
       ·exact h
      by_cases hgt: (Lk x (k:Int)).length>(Lk x b.1).length
      ·rw[if_pos (by rw[hb'.2.2,<-hdat];omega)];exact⟨((k:Int),((Oh s (k:Int)).length:Int)),rfl,⟨by unfold FY;rw[if_neg hneg,if_pos hgt],.inr ⟨by omega,by simp only;omega,by rw[hdat]⟩⟩,trivial⟩
      ·rw[if_neg (by rw[hb'.2.2,<-hdat];omega)];exact⟨b,rfl,⟨by unfold FY;rw[if_neg hneg,if_neg hgt],hb2⟩,trivial⟩)
  0 (-1,0) (bL _) ⟨rfl,.inl (by decide)⟩
 unfold Ec;rw[hi];simp only[al,cS,Af];rw[show Kj (((),-1,0,x.servers,(x.servers.length:Int),0,()),((x.now,x.servers,x.sides,x.master.configs,x.master.activated,x.masterUp,x.lease.epoch,x.lease.holder,x.lease.ends,x.places,()),()),())=_ from eU];rfl
theorem Qn(x:oQ)(hl:x.servers.length<=1048576)(hv:CC x=some (false,())):G7 x=some ([],()):=by
 have ex: (⟨x.now,x.servers,x.sides,⟨x.master.configs,x.master.activated⟩,x.masterUp,⟨x.lease.epoch,x.lease.holder,x.lease.ends⟩,x.places⟩:oQ)=x:=rfl;unfold G7
 have :LA (((),(),0,()),((x.now,x.servers,x.sides,x.master.configs,x.master.activated,x.masterUp,x.lease.epoch,x.lease.holder,x.lease.ends,x.places,()),()),([],()))=some (((),()),(),([],())):=by refine kM ?_;simp only[F0,ex,hv,al,Af,Bq];split<;>rfl
 rw[this];rfl
theorem Ps(l:List Int)(hl:l.length<=1048576): ∃r,Gs l=some (r,())/\r.length<=maxLen:=by
 obtain⟨b,h1,h2⟩:=JO l (CI hl);cases b with
 |true=>have h5:=HU (CI hl) h1;exact⟨_,Rd l h5 h1,aR (Qp _ _) (by decide)⟩
 |false=>
  refine⟨[],?_,bL _⟩;unfold Gs
  have :KX ((l,(),0,()),(),([],()))=some (((),()),(),([],())):=by refine kM ?_;simp only[Fs,h1,al,Af,Bq];split<;>rfl
  rw[this];rfl
theorem VH(x:oQ)(ok:C0 1048576 x):BK (Ee x) (Ec x):=by
 obtain⟨b,v1,v2⟩:=Ea x ok;cases b with
 |true=>exact⟨_,Ud x ok v1,Xl x ok v1 v2⟩
 |false=>
  obtain⟨r,r1,r2⟩:=Ps x.sides ok.2.1;have hc:EF [] r=some ([],()):=NK [] r (λk hk=>absurd hk (Nat.not_lt_zero k)) r2;unfold Ee Ec H8;simp only[Qn x ok.1.1 v1,r1,hc,v2,al,Bool.not_false,A7]
  have :Hz (((),-1,(),0,()),((x.now,x.servers,x.sides,x.master.configs,x.master.activated,x.masterUp,x.lease.epoch,x.lease.holder,x.lease.ends,x.places,()),()),([],()))=some ((-1,()),(),()):=by refine kM ?_;simp only[Eb];rw[Bq,if_neg (by simp)]
  rw[this];exact⟨_,rfl,rfl⟩
end
section
def Tp(l:List pS):Bool:=l.any λe=>e.op.kind==2
theorem Tq(l:List pS)(hl:l.length<=maxLen):Dy l=some (Tp l,())/\Gc l=some (Tp l,()):=by
 obtain⟨b,h1,h2⟩:=Wz l hl
 have eU:=J5 (B:=DL) l.length (λk=>((l,(k:Int),()),(),())) (.inr (((),()),(),())) (λ_=> .inl ((true,()),(),())) (λk=>match l[k]? with |some e=>e.op.kind==2|none=>false)
  (by simp only[DL];rw[Bq,if_neg (by omega)])
  (λk hk=>by
    have c1: (k:Int)< (l.length:Int):=by omega
    have c2: (0:Int)<=(k:Int):=by omega
    simp only[DL,Ff,Bq,Av,if_pos c1,if_pos c2,B8,an hk,al,Ad hl hk];cases (l[k].op.kind==2)<;>rfl)
 have hb:Dy l=some (Tp l,()):=by
  unfold Dy DH;rcases eU with ⟨k1,k2⟩| ⟨k,hk,k1,k2,_⟩
  ·rw[show Gk ((l,0,()),(),())=_ from k1]
   have :Tp l=false:=by unfold Tp;rw[List.any_eq_false];intro e he;obtain⟨k,hk,rfl⟩:=aO he;have:=k2 k hk;rw[an hk] at this;simpa using this
   rw[this];rfl
  ·rw[show Gk ((l,0,()),(),())=_ from k1]
   have :Tp l=true:=by unfold Tp;rw[an hk] at k2;exact bJ.2 ⟨_,Cc hk,k2⟩
   rw[this];rfl
 rw[hb] at h1;simp only[ae,ao,and_true] at h1;subst h1;exact⟨hb,h2⟩
end
section
theorem WP(s:oU)(id:Int)(h:C9 1048576 s): (Oh s id).length<=1048576:=by
 have h1:=h.2.1;have h2:=h.2.2
 have h3: (MW s).length<=s.log.length:=by
  unfold MW;split
  ·simp;omega
  ·exact bL _
 unfold Oh;split
 ·split<;>omega
 ·exact h2
end
section
def Dv[dp](c:oS):Prop:=∃l,jZ c.b=some l/\l.length<=maxLen/\(∀m∈l,0<=m/\m<=255)/\0<=c.i/\c.i<=c.b.n
def Dn[dp]{α:Type}(Q:α->Prop)(r:Option (List oS×α)):Prop:=∃c a,r=some ([c],a)/\Dv c/\Q a
section
variable [dp] {α β:Type} {Q:α->Prop} {Q':β->Prop}
theorem Dn.ret{c:oS}{a:α}(hc:Dv c)(h:Q a):Dn Q (some ([c],a)):=⟨c,a,rfl,hc,h⟩
theorem Dn.bind{r:Option (List oS×α)}{k:List oS×α->Option (List oS×β)}(h:Dn Q r)(hk: ∀c a,Dv c->Q a->Dn Q' (k ([c],a))):Dn Q' (r.bind k):=by obtain⟨c,a,rfl,h1,h2⟩:=h;exact hk c a h1 h2
theorem Dn.mono{Q2:α->Prop}{r:Option (List oS×α)}(h:Dn Q r)(hq: ∀a,Q a->Q2 a):Dn Q2 r:=by obtain⟨c,a,h1,h2,h3⟩:=h;exact⟨c,a,h1,h2,hq a h3⟩
theorem Dn.iteP{p:Prop}[Decidable p]{x y:Option (List oS×α)}(hp:p)(h:Dn Q x):Dn Q (iteP p x y):=by rw[Ax hp];exact h
theorem Dn.br{b:Bool}{x y:Option (List oS×α)}(h1:b=true->Dn Q x)(h2:b=false->Dn Q y):Dn Q (br b x y):=by
 cases b with
 |true=>exact h1 rfl
 |false=>exact h2 rfl
theorem Dn.get{γ:Type}{l:List γ}{i:Nat}{k:γ->Option (List oS×α)}(hi:i<l.length)(h: ∀x∈l,Dn Q (k x)):Dn Q ((l[i]?).bind k):=by rw[an hi];exact h _ (Cc hi)
end
theorem TL(x:Int):0<=bits .and .i64 x 255/\bits .and .i64 x 255<=255:=by
 have h: (BitVec.ofInt 64 x&&& BitVec.ofInt 64 255).toNat<=255:=by rw[BitVec.toNat_and];exact Nat.and_le_right
 show 0<=IntKind.wrap .i64 _/\IntKind.wrap .i64 _<=255;have e:IntKind.wrap .i64 ((BitVec.ofInt 64 x&&& BitVec.ofInt 64 255).toNat:Int)=((BitVec.ofInt 64 x&&& BitVec.ofInt 64 255).toNat:Int):=uc (by omega) (by omega);have e2:bits .and .i64 x 255=IntKind.wrap .i64 ((BitVec.ofInt 64 x&&& BitVec.ofInt 64 255).toNat:Int):=rfl;rw[<-e2] at e;constructor
 ·show 0<=bits .and .i64 x 255;omega
 ·show bits .and .i64 x 255<=255;omega
theorem V5{x n:Int}(hx:0<=x)(hn:0<n):0<=x.tmod n/\x.tmod n<n:=⟨Int.tmod_nonneg _ hx,Int.tmod_lt_of_pos _ hn⟩
section
variable [dp]
theorem XN{x:Hd}{l:List Int}(h:jZ x=some l)(hl:l.length<=maxLen)(hb: ∀m∈l,0<=m/\m<=255):Dn (λ_:Unit=>True) (Qo x):=by unfold Qo Bv;rw[h];exact⟨_,(),rfl,⟨l,h,hl,hb,cJ _,B9 _⟩,trivial⟩
theorem OD{c:oS}(h:Dv c):Dn (λy:Int×Unit=>0<=y.1/\y.1<=255) (LP [c]):=by
 obtain⟨l,h1,h2,h3,h4,h5⟩:=h;show Dn _ ((A8 c).map λy=>([y.1],y.2,()));unfold A8;have hlen:=(zy h1).1;by_cases hi:c.i< (c.b.n:Int)
 ·rw[if_pos hi,if_pos h4,h1,al,an (by omega)];refine⟨_,_,rfl,⟨l,h1,h2,h3,?_,?_⟩,TL _⟩
  ·show 0<=RowKit.wrap64 (c.i+1);unfold RowKit.wrap64;simp only[maxLen] at h2;omega
  ·show RowKit.wrap64 (c.i+1)<=c.b.n;unfold RowKit.wrap64;simp only[maxLen] at h2;omega
 ·rw[if_neg hi];exact⟨_,_,rfl,⟨l,h1,h2,h3,h4,h5⟩,TL _⟩
theorem Eo{c:oS}(h:Dv c)(n:Int):Dn (λy:Int×Unit=>0<=y.1/\(y.1<n\/n<=0/\y.1=0)) (CF [c] n):=by
 unfold CF;refine .br (λhn=> .ret h ⟨cJ _,.inr ⟨of_decide_eq_true hn,rfl⟩⟩) λhn=> ?_;have hn:=of_decide_eq_false hn;refine .br (λ_=> .bind (OD h) λc1 y h1 hy=> .iteP rfl ?_) λ_=> .bind (OD h) λc1 y h1 hy=> .iteP rfl (.bind (OD h1) λc2 y2 h2 hy2=> .iteP rfl (.bind (OD h2) λc3 y3 h3 hy3=> .iteP rfl (.bind (OD h3) λc4 y4 h4 hy4=> .iteP rfl ?_)))
 ·rw[Aw (by omega)];have:=V5 hy.1 (show 0<n by omega);exact .ret h1 ⟨this.1,.inl this.2⟩
 ·rw[Aw (by omega)];simp only;rw[uc (n:=y.1*16777216) (by omega) (by omega),uc (n:=y2.1*65536) (by omega) (by omega),uc (n:=y3.1*256) (by omega) (by omega),uc (n:=y.1*16777216+y2.1*65536) (by omega) (by omega),uc (n:=y.1*16777216+y2.1*65536+y3.1*256) (by omega) (by omega),uc (n:=y.1*16777216+y2.1*65536+y3.1*256+y4.1) (by omega) (by omega)];have:=V5 (show 0<=y.1*16777216+y2.1*65536+y3.1*256+y4.1 by omega) (show 0<n by omega);exact .ret h4 ⟨this.1,.inl this.2⟩
theorem Hy{c:oS}(h:Dv c){n:Int}(hn:0<n):Dn (λy:Int×Unit=>0<=y.1/\y.1<n) (CF [c] n):=(Eo h n).mono λy hy=>⟨hy.1,by omega⟩
theorem FC{c:oS}(h:Dv c)(n:Int):Dn (λ_:Bool×Unit=>True) (DN [c] n):=by unfold DN;exact .bind (Eo h n) λc1 y h1 hy=> .iteP rfl (.ret h1 trivial)
theorem E7{c:oS}(h:Dv c){l:List Int}(hl:l≠ []):Dn (λy:Int×Unit=>y.1∈l) (CS [c] l):=by unfold CS;have h0:0<l.length:=List.length_pos_iff.2 hl;refine .bind (Hy h (show 0< (l.length:Int) by omega)) λc1 y h1 hy=> .iteP rfl (.iteP hy.1 (.get (by show y.1.toNat<l.length;have:=hy.1;have:=hy.2;omega) λx hx=> .ret h1 hx))
theorem Up{c:oS}(h:Dv c):Dn (λ_:Op×Unit=>True) (Lt [c]):=by
 unfold Lt
 repeat first |exact .ret (by assumption) trivial|refine .iteP rfl ?_|refine .br (λ_=> ?_) λ_=> ?_|refine .bind (Eo (by assumption) _) λ_ _ _ _=> ?_|refine .bind (FC (by assumption) _) λ_ _ _ _=> ?_|refine .bind (E7 (by assumption) (by simp)) λ_ _ _ _=> ?_
theorem Xj{c:oS}(h:Dv c):Dn (λ_:sS×Unit=>True) (M1 [c]):=by
 unfold M1;dsimp only
 repeat first |exact .ret (by assumption) trivial|refine .iteP rfl ?_|refine .br (λ_=> ?_) λ_=> ?_|refine .bind (Eo (by assumption) _) λ_ _ _ _=> ?_|refine .bind (FC (by assumption) _) λ_ _ _ _=> ?_|refine .bind (E7 (by assumption) (by simp)) λ_ _ _ _=> ?_
theorem WW{c:oS}(h:Dv c):Dn (λ_:u7×Unit=>True) (KS [c]):=by
 unfold KS;dsimp only
 repeat first |exact .ret (by assumption) trivial|refine .iteP rfl ?_|refine .br (λ_=> ?_) λ_=> ?_|refine .bind (Eo (by assumption) _) λ_ _ _ _=> ?_|refine .bind (FC (by assumption) _) λ_ _ _ _=> ?_|refine .bind (E7 (by assumption) (by simp)) λ_ _ _ _=> ?_|refine .bind (Up (by assumption)) λ_ _ _ _=> ?_
def Ro{σ ε:Type}(I:σ->Prop)(E:ε->Prop)(r:Option (σ⊕ε)):Prop:=(∃s,r=some (.inl s)/\I s)\/ ∃e,r=some (.inr e)/\E e
section
variable {σ ε α:Type} {I:σ->Prop} {E:ε->Prop} {Q:α->Prop}
omit [dp] in
theorem Ro.again{s:σ}(h:I s):Ro I E (some (.inl s)):=.inl ⟨s,rfl,h⟩
omit [dp] in
theorem Ro.done{e:ε}(h:E e):Ro I E (some (.inr e)):=.inr ⟨e,rfl,h⟩
omit [dp] in
theorem Ro.iteP{p:Prop}[Decidable p]{x y:Option (σ⊕ε)}(hp:p)(h:Ro I E x):Ro I E (iteP p x y):=by rw[Ax hp];exact h
omit [dp] in
theorem Ro.br{b:Bool}{x y:Option (σ⊕ε)}(h1:b=true->Ro I E x)(h2:b=false->Ro I E y):Ro I E (br b x y):=by
 cases b with
 |true=>exact h1 rfl
 |false=>exact h2 rfl
theorem Ro.draw{r:Option (List oS×α)}{k:List oS×α->Option (σ⊕ε)}(h:Dn Q r)(hk: ∀c a,Dv c->Q a->Ro I E (k ([c],a))):Ro I E (r.bind k):=by obtain⟨c,a,rfl,h1,h2⟩:=h;exact hk c a h1 h2
omit [dp] in
theorem Tf{B:σ->Option (σ⊕ε)}(μ:σ->Nat)(h: ∀s,I s->Ro (λs'=>I s'/\μ s'<μ s) E (B s)){s:σ}(hs:I s): ∃e,mh B s=some e/\E e:=
 Bd I μ E (λs hs=>(h s hs).imp (λ⟨s',a,b,c⟩=>⟨s',a,b,c⟩) id) hs
end
theorem TO{c:oS}(h:Dv c){n:Int}(h0:0<=n){evs:List u7}{M:Nat}(hM:evs.length+n.toNat<=M)(hM2:M<=1000):Dn (λy:List u7×Unit=>y.1.length<=M) ((JN (((),(),n,()),(()),[c],evs,())).bind λe=>some e.2.2):=by
 unfold JN
 obtain⟨⟨_,_,l,ps,_⟩,h1,c2,rfl,h2,h3⟩:=Tf (B:=HC) (I:=λs=> ∃c,s.2.2.1= [c] /\Dv c/\0<=s.1.2.2.1/\s.2.2.2.1.length+s.1.2.2.1.toNat<=M) (E:=λe=> ∃c,e.2.2.1= [c] /\Dv c/\e.2.2.2.1.length<=M) (λs=>s.1.2.2.1.toNat) (by
  rintro⟨⟨_,_,k,_⟩,_,l,ps,_⟩ ⟨c,rfl,hc,h0,h1⟩
  simp only at h0 h1;unfold HC;refine .br (λhk=> ?_) λhk=> .done ⟨c,rfl,hc,by show ps.length<=M;omega⟩;have hk:k>0:=of_decide_eq_true hk;have e:IntKind.wrap .i64 (k-1)=k-1:=uc (by omega) (by omega)
  have eU: ∀ (c:oS) (x:u7),Dv c->Ro (λs': (Unit×Unit×Int×Unit)×Unit×List oS×List u7×Unit=>(∃c,s'.2.2.1= [c] /\Dv c/\0<=s'.1.2.2.1/\s'.2.2.2.1.length+s'.1.2.2.1.toNat<=M)/\s'.1.2.2.1.toNat<k.toNat) (λe: (Unit×Unit)×Unit×List oS×List u7×Unit=> ∃c,e.2.2.1= [c] /\Dv c/\e.2.2.2.1.length<=M) (iteP ((ps++ [x]).length*80<=2 ^ 40) (some (.inl (((),(),IntKind.wrap .i64 (k-1),()),(()),[c],ps++ [x],()))) none):=λc x hc=>by refine .iteP (by simp only[bH,cm];omega) (.again ?_);simp only[e];exact⟨⟨c,rfl,hc,by omega,by simp only[bH,cm];omega⟩,by omega⟩
  refine .draw (WW hc) λc1 _ h1 _=> .iteP rfl (.br (λ_=> .draw (FC h1 _) λc2 _ h2 _=> .iteP rfl (.br (λ_=> .draw (E7 h2 (by simp)) λc3 _ h3 _=> .iteP rfl (eU _ _ h3)) λ_=>eU _ _ h2)) λ_=>eU _ _ h1)) (s:=(((),(),n,()),(()),[c],evs,())) ⟨c,rfl,h,h0,hM⟩
 rw[h1];exact⟨c2,_,rfl,h2,h3⟩
theorem Wg{c:oS}(h:Dv c){n:Int}(h0:0<=n)(hn:n<=100):Dn (λy:List u7×Unit=>y.1.length<=200) (J0 [c] n):=by
 unfold J0;rw[uc (n:=n+1) (by omega) (by omega)];refine .bind (Eo h _) λc1 _ h1 _=> .iteP rfl (.bind (Eo h1 _) λc2 _ h2 _=> .iteP rfl (.bind (FC h2 _) λc3 _ h3 _=> .iteP rfl (.br (λ_=> ?_) λ_=> ?_)))
 ·exact .bind (Hy h3 (by omega)) λc4 y h4 hy=> .iteP rfl (TO h4 hy.1 (by have:=hy.2;simp only[bA,bQ];omega) (by omega))
 ·exact .bind (Hy h3 (by omega)) λc4 y h4 hy=> .iteP rfl (TO h4 hy.1 (by have:=hy.2;simp only[bA,bQ];omega) (by omega))
theorem X0{c:oS}(h:Dv c):Dn (λy:List Int×Unit=>y.1.length=5) (KQ [c]):=by
 unfold KQ OZ
 obtain⟨⟨_,_,l,ps,_⟩,h1,c2,rfl,h2,h3⟩:=Tf (B:=IA) (I:=λs=> ∃c,s.2.2.1= [c] /\Dv c/\0<=s.1.2.2.1/\s.1.2.2.1<=5/\(s.2.2.2.1.length:Int)=s.1.2.2.1) (E:=λe=> ∃c,e.2.2.1= [c] /\Dv c/\e.2.2.2.1.length=5) (λs=>(5-s.1.2.2.1).toNat) (by
  rintro⟨⟨_,_,k,_⟩,_,l,ps,_⟩ ⟨c,rfl,hc,h0,h1,h2⟩
  simp only at h0 h1 h2;unfold IA;refine .br (λhk=> ?_) λhk=> .done ⟨c,rfl,hc,by have : ¬k<5:=of_decide_eq_false hk;show ps.length=5;omega⟩;have hk:k<5:=of_decide_eq_true hk;refine .draw (E7 hc (by simp)) λc1 _ h1 _=> .iteP rfl (.iteP (by simp only[bH,cm];omega) (.again ?_));simp only;rw[uc (n:=k+1) (by omega) (by omega)];exact⟨⟨c1,rfl,h1,by omega,by omega,by simp only[bH,cm];omega⟩,by omega⟩) (s:=(((),(),0,()),(()),[c],([]:List Int),())) ⟨c,rfl,h,cJ _,by simp,by simp⟩
 rw[h1];exact⟨c2,_,rfl,h2,h3⟩
theorem Xk{c:oS}(h:Dv c):Dn (λy:List pS×Unit=>y.1.length<=6) (NG [c]):=by
 unfold NG;refine .bind (Hy h (by decide)) λc0 y0 hc0 hy0=> .iteP rfl ?_;unfold Sz
 obtain⟨⟨_,_,l,ps,_⟩,h1,c2,rfl,h2,h3⟩:=Tf (B:=LJ) (I:=λs=> ∃c,s.2.2.1= [c] /\Dv c/\0<=s.1.2.2.2.1/\s.2.2.2.1.length+s.1.2.2.2.1.toNat<=6) (E:=λe=> ∃c,e.2.2.1= [c] /\Dv c/\e.2.2.2.1.length<=6) (λs=>s.1.2.2.2.1.toNat) (by
  rintro⟨⟨_,_,g,k,_⟩,_,l,ps,_⟩ ⟨c,rfl,hc,h0,h1⟩
  simp only at h0 h1;unfold LJ;refine .br (λhk=> ?_) λhk=> .done ⟨c,rfl,hc,by show ps.length<=6;omega⟩;have hk:k>0:=of_decide_eq_true hk;have e:IntKind.wrap .i64 (k-1)=k-1:=uc (by omega) (by omega);refine .draw (FC hc _) λc1 _ h1 _=> .iteP rfl (.br (λ_=> .draw (Up h1) λc2 _ h2 _=> .iteP rfl (.iteP (by simp only[bH,cm];omega) (.again ?_))) λ_=> .draw (Up h1) λc2 _ h2 _=> .iteP rfl (.iteP (by simp only[bH,cm];omega) (.again ?_)))
  all_goals
   simp only[e];exact⟨⟨c2,rfl,h2,by omega,by simp only[bH,cm];omega⟩,by omega⟩) (s:=(((),(),1,y0.1,()),(()),[c0],([]:List pS),())) ⟨c0,rfl,hc0,hy0.1,by have:=hy0.2;simp;omega⟩
 rw[h1];exact⟨c2,_,rfl,h2,h3⟩
theorem Uo{c:oS}(h:Dv c):Dn (λ_:Op×Unit=>True) (NE [c]):=by
 unfold NE;refine .bind (Up h) λ_ _ _ _=> ?_
 repeat first |exact .ret (by assumption) trivial|refine .iteP rfl ?_|refine .br (λ_=> ?_) λ_=> ?_|refine .bind (Eo (by assumption) _) λ_ _ _ _=> ?_|refine .bind (FC (by assumption) _) λ_ _ _ _=> ?_|refine .bind (E7 (by assumption) (by simp)) λ_ _ _ _=> ?_
theorem Sx{c:oS}(h:Dv c):Dn (λy:List pS×Unit=>y.1.length<=17) (NF [c]):=by
 unfold NF;refine .bind (Xk h) λc1 y h1 hy=> .iteP rfl (.bind (Eo h1 _) λc2 _ h2 _=> .iteP rfl (.br (λ_=> ?_) λ_=> .br (λ_=> ?_) λ_=> .ret h2 (by show y.1.length<=17;omega)))
 ·refine .bind (E7 h2 (by simp)) λc3 _ h3 _=> .iteP rfl (.bind (Uo h3) λc4 z h4 _=> .iteP rfl ?_);have e: ∀x:pS,(y.1++ [x]).length<=17:=λx=>by simp only[bH,cm];omega
  exact .iteP (aR (bo _ (e _)) (by decide)) (.ret h4 (e _))
 ·unfold Sy
  obtain⟨⟨_,_,l,ps,_⟩,h1,c2,rfl,h2,h3⟩:=Tf (B:=KG) (I:=λs=> ∃c,s.2.2.1= [c] /\Dv c/\s.2.2.2.1.length<=17) (E:=λe=> ∃c,e.2.2.1= [c] /\Dv c/\e.2.2.2.1.length<=17) (λs=>17-s.2.2.2.1.length) (by
   rintro⟨⟨_,_,_⟩,_,l,ps,_⟩ ⟨c,rfl,hc,h0⟩
   simp only at h0;unfold KG;refine .br (λhk=> ?_) λhk=> .done ⟨c,rfl,hc,h0⟩;have hk: (ps.length:Int)<17:=of_decide_eq_true hk;refine .draw (Up hc) λc1 _ h1 _=> .iteP rfl (.iteP (by simp only[bH,cm];omega) (.again ?_));exact⟨⟨c1,rfl,h1,by simp only[bH,cm];omega⟩,by simp only[bH,cm];omega⟩) (s:=(((),(),()),(()),[c2],y.1,())) ⟨c2,rfl,h2,by show y.1.length<=17;omega⟩
  show Dn _ ((mh KG (((),(),()),(()),[_],y.1,())).bind _);rw[h1];exact⟨c2,_,rfl,h2,h3⟩
end
end
section
theorem Yf(n:Int)(h0:0<=n)(h1:n<=1000000):G9 n=some ([],()):=by
 unfold G9;have e1:IntKind.wrap .i64 ((0:Int)-0)=0:=uc (by decide) (by decide);have e2:IntKind.wrap .i64 (n-0)=n:=by rw[uc (by omega) (by omega)];omega
 simp only[e1,e2,Bq,if_neg (show ¬n<0 by omega)];by_cases h:n>0
 ·have e: (2:Int) ^ 40=1099511627776:=by decide
  have c1:0<n/\n*((8:Nat):Int)<=2 ^ 40:=⟨h,by omega⟩
  have c2: (0:Int)<=0/\(0:Int)<=0/\(0:Int)<=((n.toNat:Nat):Int):=by omega
  simp only[if_pos h,Av,if_pos c1,if_pos c2,and_self,if_true];simp
 ·simp only[if_neg h]
theorem We(l:List (List Int))(hl:l.length<=10)(h: ∀a∈l,a.length<=1000):HK l=some (l.flatten,()):=by
 have hm:l.length<=maxLen:=by unfold maxLen;omega
 have tot: ∀k,(l.take k).flatten.length<=k*1000:=by
  intro k
  induction k with
  |zero=>simp
  |succ k ih=>
   cases hx:l[k]? with
   |none=>
    have hle:l.length<=k:=by simpa using hx
    rw[bS hle] at ih;rw[bS (Ci hle)];exact aR ih (bo _ (cA k))
   |some a=>rw[F3 hx,CA,bH];have:=h a (aw hx);simp only[List.flatten_cons,List.flatten_nil,bM];rw[Nat.succ_mul];exact Nat.add_le_add ih this
 have k1:=Az (B:=FH) l (λk (n:Int)=>((l,n,l,(l.length:Int),(k:Int),()),(),())) (λk n=>n=((l.take k).flatten.length:Int)) (λ_ _ _=>((l,(l.flatten.length:Int),()),(),()))
  (λn hn=>by simp only[FH];rw[Bq,if_neg (by omega),hn,Ce])
  (λk n a hx hn=>by
    have hk:=Bz hx;have c1: (k:Int)< (l.length:Int):=by omega
    have c2: (0:Int)<=(k:Int):=by omega
    have t:=tot k;have ha:=h a (aw hx);have hk10:k*1000<=10000:=by omega
    refine .inl ⟨n+(a.length:Int),?_,?_,rfl⟩
    ·simp only[FH,Bq,Av,if_pos c1,if_pos c2,B8,hx,al,Ad hm hk,uc (n:=n+(a.length:Int)) (by omega) (by omega),if_neg (show ¬n+(a.length:Int)<0 by omega)]
    ·rw[F3 hx,CA,bH,hn];simp)
  0 0 (bL _) (by simp)
 have t:=tot l.length;rw[Ce] at t
 have k2:=Az (B:=Fo) l (λk (b:List Int)=>(((),l,(l.length:Int),(k:Int),()),(),(b,()))) (λk b=>b=(l.take k).flatten) (λ_ _ _=>(((),()),(),(l.flatten,())))
  (λb hb=>by simp only[Fo];rw[Bq,if_neg (by omega),hb,Ce])
  (λk b a hx hb=>by
    have hk:=Bz hx;have c1: (k:Int)< (l.length:Int):=by omega
    have c2: (0:Int)<=(k:Int):=by omega
    have t:=tot k;have ha:=h a (aw hx);have hs: (b++a).length*8<=2 ^ 40:=Pb (by rw[hb,bH];omega) (by decide);refine .inl ⟨b++a,?_,?_,rfl⟩
    ·simp only[Fo,Bq,Av,if_pos c1,if_pos c2,B8,hx,al,Ad hm hk,if_pos hs]
    ·rw[F3 hx,CA,hb];simp)
  0 [] (bL _) (by simp)
 unfold HK;rw[show MG ((l,0,l,(l.length:Int),0,()),(),())=_ from k1];simp only[al,Yf _ (show (0:Int)<=(l.flatten.length:Int) by omega) (by omega)];rw[show L4 (((),l,(l.length:Int),0,()),(),([],()))=_ from k2];rfl
end
section
def SS(l:List Int):Prop:=l.Pairwise (· < ·)
theorem SS.uniq: ∀ {a b:List Int},SS a->SS b->(∀y,y∈a↔y∈b)->a=b
 | [],[],_,_,_=>rfl
 | [],b::l,_,_,h=>by have:=(h b).2 aF;cases this
 |a::l,[],_,_,h=>by have:=(h a).1 aF;cases this
 |a::l,b::m,ha,hb,h=>by
  obtain⟨a1,a2⟩:=Cu.1 ha;obtain⟨b1,b2⟩:=Cu.1 hb
  have hab:a=b:=by
   rcases aU.1 ((h a).1 aF) with e|e
   ·exact e
   ·rcases aU.1 ((h b).2 aF) with f|f
    ·exact f.symm
    ·have:=b1 a e;have:=a1 b f;omega
  subst hab
  have hlm:l=m:=SS.uniq a2 b2 λy=>by
   constructor
   ·intro hy;rcases aU.1 ((h y).1 (aE _ hy)) with e|e
    ·have:=a1 y hy;omega
    ·exact e
   ·intro hy;rcases aU.1 ((h y).2 (aE _ hy)) with e|e
    ·have:=b1 y hy;omega
    ·exact e
  rw[hlm]
theorem TD{A B:List Int}{x:Int}(h:SS (A++B))(ha: ∀y∈A,y<x)(hb: ∀y∈B,x<y):SS (A++ [x] ++B):=by
 obtain⟨h1,h2,h3⟩:=Cj.1 h;refine Cj.2 ⟨Cj.2 ⟨h1,Cr _ _,λa h b hb'=> ?_⟩,h2,λa h b hb'=> ?_⟩
 ·rw[aH.1 hb'];exact ha a h
 ·rcases bq.1 h with h|h
  ·exact h3 a h b hb'
  ·rw[aH.1 h];exact hb b hb'
theorem YE(l:List Int)(x:Int)(hl:l.length<=1000)(hs:SS l): ∃r,F7 l x=some (r,())/\SS r/\(∀y,y∈r↔y=x\/y∈l)/\r.length<=l.length+1/\(x∉l->r.length=l.length+1):=by
 have hm:l.length<=maxLen:=by unfold maxLen;omega
 rcases J5 (B:=Ho) l.length (λk=>((l,x,(k:Int),()),(),())) ((l,x,(l.length:Int),()),(),()) (λk=>((l,x,(k:Int),()),(),())) (λk=>match l[k]? with |some y=> !decide (y<x)|none=>false)
  (by simp only[Ho];rw[Bq,if_neg (by omega)])
  (λk hk=>by
    have c1: (k:Int)< (l.length:Int):=by omega
    have c2: (0:Int)<=(k:Int):=by omega
    simp only[Ho,Bq,Av,if_pos c1,if_pos c2,B8,an hk,al,Ad hm hk];by_cases h:l[k]<x<;>simp[h]) with ⟨k1,k2⟩| ⟨i,hi,k1,k2,k3⟩
 ·have all: ∀y∈l,y<x:=by
   intro y hy;obtain⟨k,hk,rfl⟩:=aO hy;have:=k2 k hk;rw[an hk] at this;simpa using this
  refine⟨l++ [x],Ts l x hl all,?_,?_,?_,λ_=>by simp⟩
  ·have:=TD (A:=l) (B:=[]) (x:=x) (by simpa using hs) all (by simp);simpa using this
  ·intro y;simp[or_comm]
  ·simp
 ·rw[an hi] at k2;simp only[bB,decide_eq_false_iff_not,Int.not_lt] at k2
  have lt: ∀y∈l.take i,y<x:=by
   intro y hy;obtain⟨j,hj,rfl⟩:=aO hy;have hj':j<i:=by simp at hj;omega
   have:=k3 j hj';rw[an (by omega)] at this;rw[Cx];simpa using this
  have hd:l.drop i=l[i]::l.drop (i+1):=b7 hi;have hsp:l.take i++l.drop i=l:=List.take_append_drop i l
  have ge: ∀y∈l.drop i,l[i] <=y:=by
   intro y hy;rw[hd] at hy;rcases aU.1 hy with rfl|hy
   ·exact cJ _
   ·have h2:SS (l.drop i):=List.Pairwise.sublist (List.drop_sublist i l) hs;rw[hd] at h2;exact Int.le_of_lt ((Cu.1 h2).1 y hy)
  unfold F7;rw[show Pq ((l,x,0,()),(),())=_ from k1];have c1: (i:Int)< (l.length:Int):=by omega
  have c2: (0:Int)<=(i:Int):=by omega
  simp only[al,Bq,E8,Av,if_pos c1,if_pos c2,B8,an hi,bC];by_cases he:l[i] =x
  ·simp only[if_pos he,if_pos (GW (show l.length<=1048576 by omega))];refine⟨l,rfl,hs,λy=>⟨.inr,?_⟩,by omega,λh=>absurd (by rw[<-he];exact Cc hi) h⟩
   rintro (rfl|h)
   ·rw[<-he];exact Cc hi
   ·exact h
  ·have d1: (0:Int)<=0/\(0:Int)<=(i:Int)/\(i:Int)<=(l.length:Int):=by omega
   have d2: (0:Int)<=(i:Int)/\(i:Int)<=(l.length:Int)/\(l.length:Int)<=(l.length:Int):=by omega
   have e1: (l.drop i).take (l.length-i)=l.drop i:=bS (by simp);simp only[if_neg he,if_pos d1,if_pos d2,Cz,ct,Cv,e1];rw[if_pos (GW (by simp;omega)),if_pos (GW (by simp;omega)),if_pos (GW (by simp;omega))];refine⟨_,rfl,TD (by rw[hsp];exact hs) lt (λy hy=> ?_),λy=> ?_,by simp;omega,λ_=>by simp;omega⟩
   ·have:=ge y hy;omega
   ·conv=>rhs;rw[<-hsp]
    simp only[bq,aH];constructor
    ·rintro ((h|h)|h)
     ·exact .inr (.inl h)
     ·exact .inl h
     ·exact .inr (.inr h)
    ·rintro (h|h|h)
     ·exact .inl (.inr h)
     ·exact .inl (.inl h)
     ·exact .inr h
theorem ZL{β:Type}(l:List Int)(hl:l.length<=500){mk:Nat->List Int->β}{ε:Type}{B:β->Option (β⊕ε)}{E:List Int->ε}
  (h0: ∀v,B (mk l.length v)=some (.inr (E v)))
  (h1: ∀k v x,l[k]? =some x->B (mk k v)=(F7 v x).bind λy=>some (.inl (mk (k+1) y.1)))
  (v:List Int) (hv:SS v) (hvl:v.length<=500): ∃r,mh B (mk 0 v)=some (E r)/\SS r/\(∀y,y∈r↔y∈v\/y∈l)/\r.length<=v.length+l.length:=by
 have go: ∀ (n k:Nat) (v:List Int),k+n=l.length->SS v->v.length+n<=1000-> ∃r,mh B (mk k v)=some (E r)/\SS r/\(∀y,y∈r↔y∈v\/y∈l.drop k)/\r.length<=v.length+n:=by
  intro n
  induction n with
  |zero=>
   intro k v hk hv _;have :k=l.length:=by omega
   subst this;exact⟨v,kM (h0 v),hv,by simp,by omega⟩
  |succ n ih=>
   intro k v hk hv hn;have hlt:k<l.length:=by omega
   obtain⟨r,r1,r2,r3,r4,_⟩:=YE v l[k] (by omega) hv;obtain⟨s,s1,s2,s3,s4⟩:=ih (k+1) r (by omega) r2 (by omega);refine⟨s,?_,s2,λy=> ?_,by omega⟩
   ·rw[qJ (by rw[h1 k v _ (an hlt),r1];rfl)];exact s1
   ·rw[s3,r3,b7 hlt,aU];constructor
    ·rintro ((h|h)|h)
     ·exact .inr (.inl h)
     ·exact .inl h
     ·exact .inr (.inr h)
    ·rintro (h|h|h)
     ·exact .inl (.inr h)
     ·exact .inl (.inl h)
     ·exact .inr h
 obtain⟨r,h1,h2,h3,h4⟩:=go l.length 0 v (by omega) hv (by omega);rw[ct] at h3;exact⟨r,h1,h2,h3,h4⟩
theorem Vo(a b:List Int)(ha:a.length<=100)(hb:b.length<=100): ∃r,Gi a b=some (r,())/\SS r/\(∀y,y∈r↔y∈a\/y∈b)/\r.length<=a.length+b.length:=by
 have am:a.length<=maxLen:=by unfold maxLen;omega
 have bm:b.length<=maxLen:=by unfold maxLen;omega
 obtain⟨r,r1,r2,r3,r4⟩:=ZL (B:=Fm) (mk:=λk v=>((a,b,(),(k:Int),()),(),(v,()))) (E:=λv=>((b,(),()),(),(v,()))) a (by omega)
  (λv=>by simp only[Fm];rw[Bq,if_neg (by omega)])
  (λk v x hx=>by
    have hk:=Bz hx;have c1: (k:Int)< (a.length:Int):=by omega
    have c2: (0:Int)<=(k:Int):=by omega
    simp only[Fm,Bq,Av,if_pos c1,if_pos c2,B8,hx,al,Ad am hk])
  [] List.Pairwise.nil (bL _)
 obtain⟨s,s1,s2,s3,s4⟩:=ZL (B:=Fn) (mk:=λk v=>((b,(),(k:Int),()),(),(v,()))) (E:=λv=>(((),()),(),(v,()))) b (by omega)
  (λv=>by simp only[Fn];rw[Bq,if_neg (by omega)])
  (λk v x hx=>by
    have hk:=Bz hx;have c1: (k:Int)< (b.length:Int):=by omega
    have c2: (0:Int)<=(k:Int):=by omega
    simp only[Fn,Bq,Av,if_pos c1,if_pos c2,B8,hx,al,Ad bm hk])
  r r2 (by simp at r4;omega)
 unfold Gi;rw[show L0 ((a,b,(),0,()),(),([],()))=_ from r1];simp only[al];rw[show L3 ((b,(),0,()),(),(r,()))=_ from s1];refine⟨s,rfl,s2,λy=> ?_,by simp at r4;omega⟩;rw[s3,r3];simp
def SL(l:List Int):Prop:=l.Pairwise (· <= ·)
theorem YL(A R:List Int)(a x:Int): ((A++a::x::R).set (A.length+1) a).set A.length x=A++x::a::R:=by
 induction A with
 |nil=>rfl
 |cons b A ih=>simp only[cw,bA,List.set_cons_succ,ih]
theorem WZ(D:List Int)(n k:Int)(x:Int)(hn:n<=12): ∀ (A C:List Int),A.length+C.length+D.length<=12->SL (A++C)->(∀c∈C,x<c)->
  ∃Q,DT (((),0,n,k,(A.length:Int),()),(),(A++x:: (C++D),()))=some (((),0,n,k,()),(),(Q++D,()))/\SL Q/\Q.Perm (x:: (A++C)):=by
 intro A
 induction h:A.length generalizing A with
 |zero=>intro C hl hs hc;have :A= [] :=cP.1 h;subst this;refine⟨x::C,kM ?_,Cu.2 ⟨λc h=>Int.le_of_lt (hc c h),hs⟩,by simp⟩;simp only[CZ,Bq];rw[if_neg (by simp)];rfl
 |succ m ih=>
  intro C hl hs hc;obtain⟨A',a,rfl⟩: ∃A' a,A=A'++ [a] :=⟨A.dropLast,A.getLast (by intro e;subst e;simp at h),(List.dropLast_concat_getLast _).symm⟩
  have hm:A'.length=m:=by simpa using h
  have c1: ((m+1:Nat):Int)>0:=by omega
  have hlen: ((A'++ [a])++x:: (C++D)).length=m+2+C.length+D.length:=by simp;omega
  have c2: (0:Int)<=((m+1:Nat):Int)/\((m+1:Nat):Int)< (((A'++ [a])++x:: (C++D)).length:Int):=by rw[hlen];omega
  have c3: (0:Int)<=((m+1-1:Nat):Int)/\((m+1-1:Nat):Int)< (((A'++ [a])++x:: (C++D)).length:Int):=by rw[hlen];omega
  have e1: ((A'++ [a])++x:: (C++D))[m+1]? =some x:=by rw[<-h,aY (by simp)];simp
  have e2: ((A'++ [a])++x:: (C++D))[m+1-1]? =some a:=by rw[aQ (by simp;omega),aY (by omega)];simp[hm]
  have pw:IntKind.wrap .i64 (((m+1:Nat):Int)-1)=((m+1-1:Nat):Int):=Aa (by omega) (by unfold maxLen;omega)
  have less:Gn x a=some (decide (x<a),()):=by unfold Gn GJ;simp only[beq_self_eq_true,cS,al,Af]
  by_cases hxa:x<a
  ·have hsw: (((A'++ [a])++x:: (C++D)).set (m+1) a).set (m+1-1) x=A'++x:: ((a::C)++D):=by
    have:=YL A' (C++D) a x;rw[hm] at this;simpa using this
   have c5:m+1-1< (((A'++ [a])++x:: (C++D)).set (m+1) a).length:=by rw[Cd,hlen];omega
   have hz:=an c5
   obtain⟨Q,q1,q2,q3⟩:=ih A' hm (a::C) (by simp at hl ⊢;omega) (by simpa using hs) (λc h=>by
    rcases aU.1 h with rfl|h
    ·exact hxa
    ·exact hc c h)
   refine⟨Q,?_,q2,q3.trans (by simp)⟩;unfold DT at q1 ⊢;rw[<-q1];refine qJ ?_;simp only[CZ,Bq,Av,if_pos c1,if_pos c2,pw,if_pos c3,B8,e1,e2,al,less,if_pos hxa,hz,hsw];rfl
  ·have hall: ∀y∈A',y<=a:=by
    intro y hy;have h1:SL (A'++ [a]):=(Cj.1 hs).1;exact (Cj.1 h1).2.2 y hy a (by simp)
   refine⟨(A'++ [a])++x::C,?_,?_,?_⟩
   ·refine kM ?_;rw[show (A'++ [a])++x::C++D=(A'++ [a])++x:: (C++D) by simp];simp only[CZ,Bq,Av,if_pos c1,if_pos c2,pw,if_pos c3,B8,e1,e2,al,less,if_neg hxa]
   ·obtain⟨p1,p2,p3⟩:=Cj.1 hs;refine Cj.2 ⟨p1,Cu.2 ⟨λc h=>Int.le_of_lt (hc c h),p2⟩,λy hy z hz=> ?_⟩
    have hyx:y<=x:=by
     rcases bq.1 hy with h|h
     ·have:=hall y h;omega
     ·rw[aH.1 h];omega
    rcases aU.1 hz with rfl|hz
    ·exact hyx
    ·have:=hc z hz;omega
   ·exact List.perm_middle
theorem RG(l:List Int)(hl:l.length<=12): ∃r,C2 l 0 (l.length:Int)=some (r,())/\SL r/\r.Perm l:=by
 have hm:l.length<=maxLen:=by unfold maxLen;omega
 unfold C2;cases l with
 |nil=>
  refine⟨[],?_,List.Pairwise.nil,List.Perm.refl _⟩
  rw[show DS (((),0,(([]:List Int).length:Int),IntKind.wrap .i64 (0+1),()),(),([],()))=some ((()),(),([],())) from kM (by rw[show IntKind.wrap .i64 ((0:Int)+1)=((1:Nat):Int) from by rw[uc (by omega) (by omega)];rfl];simp only[CO,Bq];rw[if_neg (by simp)])]
  rfl
 |cons b l=>
  generalize hL:b::l=L at hl hm;have hpos:0<L.length:=by rw[<-hL];simp
  have outer:=Bd (B:=CO) (λs=> ∃ (k:Nat) (Q:List Int),0<k/\k<=L.length/\Q.length=k/\SL Q/\Q.Perm (L.take k)/\s=(((),0,(L.length:Int),(k:Int),()),(),(Q++L.drop k,()))) (λs=>L.length-s.1.2.2.2.1.toNat) (λe=> ∃Q:List Int,SL Q/\Q.Perm L/\e=((()),(),(Q,())))
   (λs hs=>by
     obtain⟨k,Q,h0,hk,hq,hq2,hq3,rfl⟩:=hs;by_cases hlt:k<L.length
     ·have c1: (k:Int)< (L.length:Int):=by omega
      obtain⟨R,r1,r2,r3⟩:=WZ (L.drop (k+1)) (L.length:Int) (k:Int) L[k] (by omega) Q [] (by simp;omega) (by simpa using hq2) (by simp);have hd:L.drop k=L[k]::L.drop (k+1):=b7 hlt;rw[hq,bC,<-hd] at r1;refine .inl ⟨(((),0,(L.length:Int),((k+1:Nat):Int),()),(),(R++L.drop (k+1),())),?_,⟨k+1,R,by omega,by omega,?_,r2,?_,rfl⟩,?_⟩
      ·simp only[CO,Bq,if_pos c1,r1,al,Ad hm hlt]
      ·rw[r3.length_eq];simp[hq]
      ·rw[Cg,an hlt];refine r3.trans ?_;rw[bM];refine List.Perm.trans ?_ (List.perm_append_comm);simpa using hq3
      ·simp only[B8];omega
     ·have :k=L.length:=by omega
      subst this;refine .inr ⟨_,by simp only[CO,Bq];rw[if_neg (by omega)],Q,hq2,by simpa using hq3,by simp⟩)
   (s:=(((),0,(L.length:Int),((1:Nat):Int),()),(),(L,()))) ⟨1,L.take 1,by omega,by omega,by simp;omega,by rw[<-hL];simp[SL],List.Perm.refl _,by rw[List.take_append_drop]⟩
  obtain⟨e,h1,Q,q1,q2,rfl⟩:=outer;rw[show IntKind.wrap .i64 ((0:Int)+1)=((1:Nat):Int) from by rw[uc (by omega) (by omega)];rfl,show DS (((),0,(L.length:Int),((1:Nat):Int),()),(),(L,()))=_ from h1];exact⟨Q,rfl,q1,q2⟩
theorem ZQ{n:Nat}(hn:n<=12): ∃m,MX (IntKind.wrap .u64 (n:Int))=some (m,()):=by
 have :n<=5\/n=6\/n=7\/n=8\/n=9\/n=10\/n=11\/n=12:=by omega
 rcases this with h|rfl|rfl|rfl|rfl|rfl|rfl|rfl
 ·exact Qv h
 ·exact⟨3,by kernel_rfl⟩
 ·exact⟨3,by kernel_rfl⟩
 ·exact⟨4,by kernel_rfl⟩
 ·exact⟨4,by kernel_rfl⟩
 ·exact⟨4,by kernel_rfl⟩
 ·exact⟨4,by kernel_rfl⟩
 ·exact⟨4,by kernel_rfl⟩
theorem YJ(l:List Int)(hl:l.length<=12): ∃r,Fy l=some (r,())/\SL r/\r.Perm l:=by
 obtain⟨m,hm⟩:=ZQ hl;obtain⟨r,r1,r2,r3⟩:=RG l hl
 have hp:Dt l 0 (l.length:Int) m=some (r,()):=by
  unfold Dt
  have :Fz (((),0,(l.length:Int),m,true,true,()),(),(l,()))=some ((()),(),(r,())):=by refine kM ?_;simp only[DZ];rw[uc (by omega) (by omega),Bq,if_pos (by omega),r1,al,Ax r3.length_eq]
  rw[this];rfl
 unfold Fy;simp only[hm,al,hp];exact⟨r,Ax r3.length_eq _ _,r2,r3⟩
theorem SN(l:List Int)(hl:l.length<=1000)(hs:SL l)(k0:Nat)(h0:0<k0)(hk:k0<l.length)(hss:SS (l.take k0))(heq:l[k0] =l[k0-1]):
  ∃e,Kk (((),(k0:Int),(k0,l.length-k0),1,()),(),(l,()))=some e/\ ∃ (kk:Nat) (v:List Int),e=(((),(kk:Int),()),(),(v,()))/\kk<=l.length/\v.length=l.length/\SS (v.take kk)/\ ∀y,y∈v.take kk↔y∈l:=by
 have hm:l.length<=maxLen:=by unfold maxLen;omega
 have mem0: ∀y,y∈l.take k0↔y∈l.take (k0+1):=by
  intro y;rw[Cg,an hk,heq];simp only[Option.toList_some,bq,aH];refine⟨.inl,?_⟩
  rintro (h|rfl)
  ·exact h
  ·rw[List.mem_take_iff_getElem];exact⟨k0-1,by omega,rfl⟩
 refine Bd (B:=EC) (λs=> ∃ (kk k2:Nat) (v:List Int),s=(((),(kk:Int),(k0,l.length-k0),(k2:Int),()),(),(v,()))/\0<k2/\k0+k2<=l.length/\k0<=kk/\kk+1<=k0+k2/\v.length=l.length/\SS (v.take kk)/\(∀y,y∈v.take kk↔y∈l.take (k0+k2))/\v.drop (k0+k2-1)=l.drop (k0+k2-1)) (λs=>l.length-s.1.2.2.2.1.toNat) _
  (λs hI=> ?_) (s:=(((),(k0:Int),(k0,l.length-k0),((1:Nat):Int),()),(),(l,()))) ⟨k0,1,l,rfl,by omega,by omega,by omega,by omega,rfl,hss,mem0,rfl⟩
 obtain⟨kk,k2,v,rfl,a1,a2,a3,a4,a5,a6,a7,a8⟩:=hI;by_cases hlt:k0+k2<l.length
 ·left;have c1: (k2:Int)< ((l.length-k0:Nat):Int):=by omega
  have c2: (0:Int)<=(k2:Int)/\(k2:Int)< ((l.length-k0:Nat):Int):=by omega
  have c3: (0:Int)<=((k2-1:Nat):Int)/\((k2-1:Nat):Int)< ((l.length-k0:Nat):Int):=by omega
  have c4: (0:Int)<=(kk:Int)/\(kk:Int)< (v.length:Int):=by omega
  have g1:v[k0+(k2-1)]? =some l[k0+k2-1] :=by have:=congrArg (λz:List Int=>z[0]?) a8;simp only[bc,bE] at this;rw[show k0+(k2-1)=k0+k2-1 by omega,this];exact an _
  have g2:v[k0+k2]? =some l[k0+k2] :=by have:=congrArg (λz:List Int=>z[1]?) a8;simp only[bc] at this;rw[show k0+k2-1+1=k0+k2 by omega] at this;rw[this];exact an _
  have g3:v[kk]? =some (v[kk]'(by omega)):=an _;have hle:l[k0+k2-1] <=l[k0+k2] :=Cf.1 hs _ _ (by omega) hlt (by omega)
  have hdd:v.drop (k0+k2)=l.drop (k0+k2):=by have:=congrArg (List.drop 1) a8;simpa [cc,show k0+k2-1+1=k0+k2 by omega] using this
  have hta:l.take (k0+k2+1)=l.take (k0+k2)++ [l[k0+k2]] :=by rw[Cg,an hlt];rfl
  have inb: ∀y∈l.take (k0+k2),y<=l[k0+k2-1] :=by
   intro y hy;obtain⟨j,hj,rfl⟩:=aO hy;have hj':j<k0+k2:=by simp at hj;omega
   rw[Cx];by_cases e:j=k0+k2-1
   ·subst e;exact cJ _
   ·exact Cf.1 hs _ _ (by omega) (by omega) (by omega)
  have hkm:k2<l.length:=by omega
  have hkm':kk<l.length:=by omega
  simp only[EC,Bq,CD,E8,Av,if_pos c1,if_pos c2,Aa a1 (by unfold maxLen;omega),if_pos c3,B8,g1,g2,al,Ad hm hkm,Ad hm hkm',if_pos c4,g3];by_cases he:l[k0+k2] =l[k0+k2-1]
  ·simp only[if_pos he];refine⟨_,rfl,⟨kk,k2+1,v,rfl,by omega,by omega,a3,by omega,a5,a6,λy=> ?_,hdd⟩,?_⟩
   ·rw[a7,show k0+(k2+1)=k0+k2+1 by omega,hta,he];simp only[bq,aH];refine⟨.inl,?_⟩
    rintro (h|rfl)
    ·exact h
    ·rw[List.mem_take_iff_getElem];exact⟨k0+k2-1,by omega,rfl⟩
   ·simp only[B8];omega
  ·simp only[if_neg he];have hts: (v.set kk l[k0+k2]).take (kk+1)=v.take kk++ [l[k0+k2]] :=wS _ (by omega);refine⟨_,rfl,⟨kk+1,k2+1,v.set kk l[k0+k2],rfl,by omega,by omega,by omega,by omega,by simp[a5],?_,λy=> ?_,?_⟩,?_⟩
   ·rw[hts]
    have:=TD (A:=v.take kk) (B:=[]) (x:=l[k0+k2]) (by simpa using a6) (λy hy=>by have:=inb y ((a7 y).1 hy);omega) (by simp)
    simpa using this
   ·rw[hts,show k0+(k2+1)=k0+k2+1 by omega,hta];simp only[bq,a7]
   ·rw[show k0+(k2+1)-1=k0+k2 by omega,List.drop_set_of_lt (by omega),hdd]
   ·simp only[B8];omega
 ·right;have hkk:k0+k2=l.length:=by omega
  refine⟨_,by simp only[EC,Bq];rw[if_neg (by omega)],kk,v,rfl,by omega,a5,a6,λy=> ?_⟩;rw[a7,hkk,Ce]
theorem UE(l:List Int)(hl:l.length<=1000)(hs:SL l): ∃r,EA l=some (r,())/\SS r/\(∀y,y∈r↔y∈l)/\r.length<=l.length:=by
 have hm:l.length<=maxLen:=by unfold maxLen;omega
 unfold EA;rw[Bq];split
 ·refine⟨l,rfl,?_,λ_=>Iff.rfl,au _⟩
  match l with
  | [] =>exact List.Pairwise.nil
  | [a] =>exact Cr _ _
  |a::b::l=>simp at*;omega
 ·have eU:=Bd (B:=Dc) (λs=> ∃k:Nat,0<k/\k<=l.length/\SS (l.take k)/\s=(((),(k:Int),()),(),(l,()))) (λs=>l.length-s.1.2.1.toNat)
   (λe=>(e= .inr (((),(),()),(),(l,()))/\SS l)\/ ∃ (kk:Nat) (W:List Int),e= .inl (((),(0,kk),()),(),(W,()))/\kk<=W.length/\kk<=l.length/\SS (W.take kk)/\ ∀y,y∈W.take kk↔y∈l)
   (λs hI=>by
     obtain⟨k,h0,hkl,hss,rfl⟩:=hI;by_cases hk:k<l.length
     ·have c1: (k:Int)< (l.length:Int):=by omega
      have c2: (0:Int)<=(k:Int)/\(k:Int)< (l.length:Int):=by omega
      have c3: (0:Int)<=((k-1:Nat):Int)/\((k-1:Nat):Int)< (l.length:Int):=by omega
      have c4: (0:Int)<=(k:Int)/\(k:Int)<=(l.length:Int)/\(l.length:Int)<=(l.length:Int):=by omega
      have e1:l[k]? =some l[k] :=an hk;have e2:l[k-1]? =some l[k-1] :=an (by omega);by_cases he:l[k] =l[k-1]
      ·right;obtain⟨e,f1,kk,v,rfl,f2,f3,f4,f5⟩:=SN l hl hs k h0 hk hss he;have d1: (0:Int)<=(kk:Int)/\(kk:Int)<=(v.length:Int)/\(v.length:Int)<=(v.length:Int):=by omega
       have d2:kk+(v.length-kk)<=v.length:=by omega
       have d3: (0:Int)<=0/\(0:Int)<=(kk:Int)/\(kk:Int)<=(v.length:Int):=by omega
       simp only[Dc,Bq,Av,if_pos c1,if_pos c2,Aa h0 (by omega),if_pos c3,B8,e1,e2,al,E8,if_pos he,if_pos c4,aL];rw[f1];simp only[al,B8,if_pos d1,if_pos d2,if_pos d3,Cz,Cv]
       have ht: (v.take kk++List.replicate (v.length-kk) 0++v.drop (kk+(v.length-kk))).take kk=v.take kk:=by rw[bf,List.take_append_of_le_length (by simp;omega),List.take_take,Nat.min_self]
       refine⟨_,rfl,.inr ⟨kk,_,rfl,by simp;omega,f2,by rw[ht];exact f4,λy=>by rw[ht];exact f5 y⟩⟩
      ·left;have hle:l[k-1] <=l[k] :=Cf.1 hs _ _ (by omega) hk (by omega);refine⟨(((),((k+1:Nat):Int),()),(),(l,())),?_,⟨k+1,by omega,by omega,?_,rfl⟩,?_⟩
       ·simp only[Dc,Bq,Av,if_pos c1,if_pos c2,Aa h0 (by omega),if_pos c3,B8,e1,e2,al,E8,Ad hm hk,if_neg he]
       ·rw[Cg,e1]
        have:=TD (A:=l.take k) (B:=[]) (x:=l[k]) (by simpa using hss) (λy hy=>by
         obtain⟨j,hj,rfl⟩:=aO hy;have hj':j<k:=by simp at hj;omega
         rw[Cx]
         have :l[j] <=l[k-1] :=by
          by_cases e:j=k-1
          ·subst e;exact cJ _
          ·exact Cf.1 hs _ _ (by omega) (by omega) (by omega)
         omega) (by simp)
        simpa using this
       ·simp only[B8];omega
     ·have hk':k=l.length:=by omega
      subst hk';rw[Ce] at hss;exact .inr ⟨_,by simp only[Dc,Bq];rw[if_neg (by omega)],.inl ⟨rfl,hss⟩⟩)
   (s:=(((),((1:Nat):Int),()),(),(l,()))) ⟨1,by omega,by omega,by
     cases l with
     |nil=>exact List.Pairwise.nil
     |cons a l=>exact Cr _ _,rfl⟩
  obtain⟨e,h1,h2⟩:=eU;rw[show HA (((),1,()),(),(l,()))=_ from h1];rcases h2 with ⟨rfl,h2⟩| ⟨kk,W,rfl,h3,h4,h5,h6⟩
  ·exact⟨l,rfl,h2,λ_=>Iff.rfl,au _⟩
  ·refine⟨W.take kk,?_,h5,h6,by simp;omega⟩;simp only[al,Cm];exact Ax ⟨trivial,h3⟩ _ _
theorem V9(l:List Int)(hl:l.length<=12): ∃r,Gl l=some (r,())/\SS r/\(∀y,y∈r↔y∈l)/\r.length<=l.length:=by obtain⟨s,s1,s2,s3⟩:=YJ l hl;have sl:=s3.length_eq;obtain⟨r,r1,r2,r3,r4⟩:=UE s (by omega) s2;unfold Gl Gt;rw[Ax (GW (by omega)),al,s1,al,Ax sl,r1];exact⟨r,rfl,r2,λy=>by rw[r3,s3.mem_iff],by omega⟩
theorem aaD(a b:List Int)(h:a.length+b.length<=12): ∃r,Gi a b=some (r,())/\G2 a b=some (r,())/\SS r/\(∀y,y∈r↔y∈a\/y∈b)/\r.length<=a.length+b.length:=by
 obtain⟨r,r1,r2,r3,r4⟩:=Vo a b (by omega) (by omega);obtain⟨s,s1,s2,s3,s4⟩:=V9 (a++b) (by simp;omega);have hrs:r=s:=r2.uniq s2 λy=>by rw[r3,s3,bq]
 subst hrs;refine⟨r,r1,?_,r2,r3,r4⟩;unfold G2
 have hc:=We [a,b] (by simp) (by intro x hx;simp only[aU,List.not_mem_nil,or_false] at hx;rcases hx with rfl|rfl<;>omega)
 rw[hc,al,show ([a,b]:List (List Int)).flatten=a++b by simp,s1];rfl
end
section
def Jw(x:oQ)(a:Int):Int:=(x.sides[a.toNat]?).getD 0
theorem XV(x:oQ)(ok:C0 1048576 x)(vc:VC x){a b:Int}(ha:0<=a/\a<5)(hb:0<=b/\b<5):Ez x.sides a b=some (Jw x a==Jw x b,())/\KI x.sides a b=some (Jw x a==Jw x b,()):=by
 have hl:=CI ok.2.1;have h5:=HU hl vc.sides;obtain⟨v,s1,s2⟩:=JO x.sides hl;rw[vc.sides] at s1;simp only[ae,ao,and_true] at s1;subst s1;have wa:Fr a 0 4=true:=CG.2 (by omega);have wb:Fr b 0 4=true:=CG.2 (by omega);have la:a.toNat<x.sides.length:=by omega
 have lb:b.toNat<x.sides.length:=by omega
 unfold Ez KI Jw;simp only[vc.sides,s2,Dz,Ja,wa,wb,al,A7,Av,if_pos ha.1,if_pos hb.1,an la,an lb,aP,and_self]
theorem Of{x:oQ}(ok:C0 1048576 x)(vc:VC x){a:Int}(ha:0<=a/\a<5): ∃s,x.servers[a.toNat]? =some s/\C9 1048576 s/\CH s a=some (true,()):=by
 have hlt:a.toNat<x.servers.length:=by rw[vc.len];omega
 refine⟨_,an hlt,ok.1.2 _ (Cc hlt),?_⟩;have:=vc.srv _ hlt
 rwa [Cy ha.1] at this
def Qx(x:oQ)(a b:Int):Bool:=(Jw x a==Jw x b)&&(match x.servers[b.toNat]?,x.servers[a.toNat]? with
 |some m,some p=>m.up&&(m.epoch==p.epoch)&&decide (m.commit<=(p.log.length:Int))&&decide (m.config=p.config)
 | _,_=>false)
theorem YV(x:oQ)(ok:C0 1048576 x)(vc:VC x){a b:Int}(ha:0<=a/\a<5)(hb:0<=b/\b<5):ET x a b=some (Qx x a b,())/\OH x a b=some (Qx x a b,()):=by obtain⟨p,p1,p2,_⟩:=Of ok vc ha;obtain⟨m,m1,m2,_⟩:=Of ok vc hb;obtain⟨h1,h2⟩:=XV x ok vc ha hb;obtain⟨e1,e2⟩:=Ej m.config p.config (CJ m2.1);unfold ET OH Qx;simp only[p1,m1,h1,h2,e1,e2,Av,if_pos ha.1,if_pos hb.1,al];cases (Jw x a==Jw x b)<;>cases m.up<;>cases (m.epoch==p.epoch)<;>cases (decide (m.commit<=(p.log.length:Int)))<;>cases (decide (m.config=p.config))<;>exact⟨rfl,rfl⟩
theorem Jv(s:oU)(id:Int)(h:C9 1048576 s): ∃b,CT s id=some (b,())/\G1 s id=some (b,()):=by obtain⟨v,v1,v2⟩:=Ir s id h;obtain⟨n,n1,n2,_⟩:=Kg s.config id (CJ h.1);unfold CT G1;simp only[v1,v2,n1,n2,al];cases v<;>cases s.up<;>cases (n==1)<;>exact⟨_,rfl,rfl⟩
theorem L9(c:mt)(h:Eg maxLen c): ∃l,C5 c=some (l,())/\JQ c=some (l,())/\l.length<=10/\(∀y∈l,0<=y/\y<5)/\SS l/\(CE c=some (true,())-> ∀y,y∈l↔y∈c.replicas\/y∈c.witnesses):=by
 obtain⟨v,v1,v2⟩:=Fk c h;unfold C5 JQ;simp only[v1,v2,al,CD];cases v with
 |false=>exact⟨[],rfl,rfl,bL _,nofun,List.Pairwise.nil,nofun⟩
 |true=>
  obtain⟨a1,a2,_⟩:=FO h v1;have l1:=a1.len;have l2:=a2.len;obtain⟨r,r1,r2,r3,r4,r5⟩:=aaD c.replicas c.witnesses (by omega)
  have rng: ∀ {l:List Int},Le l-> ∀y∈l,0<=y/\y<5:=by intro l ha y hy;obtain⟨k,hk,rfl⟩:=aO hy;have:=(ha k hk).1;omega
  simp only[A7,r1,r2,al];refine⟨r,rfl,rfl,by omega,λy hy=> ?_,r3,λ_=>r4⟩;rcases (r4 y).1 hy with h|h
  ·exact rng a1 y h
  ·exact rng a2 y h
theorem Nz(x:oQ)(ok:C0 1048576 x): ∃n,Dh x=some (n,())/\Gd x=some (n,())/\(n= -1\/0<=n):=by
 obtain⟨v,v1,v2⟩:=Ea x ok;unfold Dh Gd;cases v with
 |false=>
  obtain⟨c,d,d1,d2,_⟩:=KH x.master x.master.activated ok.2.2.1
  have d1:CK x.master=some (c,d,()):=by unfold CK;rw[d1];rfl
  have d2:D3 x.master=some (c,d,()):=by unfold D3;rw[d2];rfl
  have g:Ei x c.primary=some (false,()):=by unfold Ei Er;simp only[v2,al];rfl
  simp only[d1,d2,v1,g,al];cases d<;>exact⟨-1,rfl,rfl,.inl rfl⟩
 |true=>
  obtain⟨c,d,d1,d2,d3,d4,d5,d6⟩:=J8 x ok v1;have vc:=DK ok v1;simp only[d1,d2,v1,al,CD,A7];cases d with
  |false=>exact⟨-1,rfl,rfl,.inl rfl⟩
  |true=>
   obtain⟨asc,_,hpr,_,_,_⟩:=FO d3 (d5 rfl).1
   have hp:0<=c.primary/\c.primary<5:=by obtain⟨k,hk,e⟩:=aO hpr;have:=(asc k hk).1;omega
   obtain⟨s,s1,s2,_⟩:=Of ok vc hp;obtain⟨b,b1,b2⟩:=Jv s c.primary s2;have wp:Fr c.primary 0 4=true:=CG.2 (by omega)
   have g:Ei x c.primary=some (b,()):=by unfold Ei Er;simp only[v2,al,Ja,wp,A7,Av,if_pos hp.1,s1,b2]
   simp only[A7,Av,if_pos hp.1,s1,b1,g,al];cases b with
   |false=>exact⟨-1,rfl,rfl,.inl rfl⟩
   |true=>
    simp only[A7];cases he: (s.config.epoch==c.epoch) with
    |false=>exact⟨-1,rfl,rfl,.inl rfl⟩
    |true=>
     obtain⟨m,m1,m2,m3,m4,_⟩:=L9 c d3;have hm:m.length<=maxLen:=by unfold maxLen;omega
     have eU:=Be (B1:=DY) (B2:=CX) m.length
      (λk=>(((),(),(),(k:Int),()),((x.now,x.servers,x.sides,x.master.configs,x.master.activated,x.masterUp,x.lease.epoch,x.lease.holder,x.lease.ends,x.places,()),(c.epoch,c.primary,(),(),()),()),(m,c.replicas,c.witnesses,())))
      (λk=>((m,(x,c,()),(m.length:Int),(k:Int),()),(),()))
      (.inr (((),(),()),((c.epoch,c.primary,(),(),()),()),(c.replicas,c.witnesses,()))) (.inr (((),()),(),()))
      (λ_=> .inl (((-1),(),()),((c.epoch,c.primary,(),(),()),()),(c.replicas,c.witnesses,()))) (λk=> .inl (((k:Int),()),(),()))
      (λ_=>True) (λ_=>True)
      (by simp only[DY];rw[Bq,if_neg (by omega)])
      (by simp only[CX];rw[Bq,if_neg (by omega)])
      (λk hk=>by
        have c1: (k:Int)< (m.length:Int):=by omega
        have c2: (0:Int)<=(k:Int)/\(k:Int)< (m.length:Int):=by omega
        have hz:=m4 m[k] (Cc hk);obtain⟨h1,h2⟩:=YV x ok vc hp hz
        simp only[DY,CX,F6,Bq,CD,Av,if_pos c1,if_pos c2,if_pos c2.1,B8,an hk,al,
         show (⟨x.now,x.servers,x.sides,(⟨x.master.configs,x.master.activated⟩:jr),x.masterUp,(⟨x.lease.epoch,x.lease.holder,x.lease.ends⟩:sS),x.places⟩:oQ)=x from rfl,h1,h2,Ad hm hk]
        cases Qx x c.primary m[k] with
        |true=>exact .inl ⟨rfl,rfl,trivial⟩
        |false=>exact .inr ⟨rfl,rfl,trivial⟩)
     simp only[A7,m1,m2,al,Dq,DD];rcases eU with ⟨k1,k2,_⟩| ⟨k,_,k1,k2,_⟩
     ·rw[show Ic (((),(),(),0,()),((x.now,x.servers,x.sides,x.master.configs,x.master.activated,x.masterUp,x.lease.epoch,x.lease.holder,x.lease.ends,x.places,()),(c.epoch,c.primary,(),(),()),()),(m,c.replicas,c.witnesses,()))=_ from k1,
       show D8 ((m,(x,c,()),(m.length:Int),0,()),(),())=_ from k2]
      simp only[al,Cq];rw[decide_eq_false (by omega)];exact⟨c.primary,rfl,rfl,.inr hp.1⟩
     ·rw[show Ic (((),(),(),0,()),((x.now,x.servers,x.sides,x.master.configs,x.master.activated,x.masterUp,x.lease.epoch,x.lease.holder,x.lease.ends,x.places,()),(c.epoch,c.primary,(),(),()),()),(m,c.replicas,c.witnesses,()))=_ from k1,
       show D8 ((m,(x,c,()),(m.length:Int),0,()),(),())=_ from k2]
      simp only[al,Cm];rw[decide_eq_true (by omega)];exact⟨-1,rfl,rfl,.inl rfl⟩
theorem Wn(x:oQ)(ok:C0 1048576 x): ∃b,Ed x=some (b,())/\JP x=some (b,()):=by
 obtain⟨n,n1,n2,n3⟩:=Nz x ok;unfold Ed JP;simp only[n1,n2,al];rcases n3 with rfl|h
 ·exact⟨false,rfl,rfl⟩
 ·refine⟨true,?_,?_⟩
  ·rw[decide_eq_true h]
  ·have : (n== -1)=false:=by
    simp only[beq_eq_false_iff_ne,ne_eq];omega
   rw[this];rfl
end
section
theorem YS(x y:pS): ((x.epoch==y.epoch)&&((x.op.client==y.op.client)&&((x.op.seq==y.op.seq)&&((x.op.kind==y.op.kind)&&((x.op.object==y.op.object)&&((x.op.old==y.op.old)&&((x.op.value==y.op.value)&&true)))))))=decide (x=y):=by obtain⟨a,b,c,d,e,f,g⟩:=x;obtain⟨a',b',c',d',e',f',g'⟩:=y;rw[bF];simp[and_assoc]
theorem WV(a b:List pS)(ha:a.length<=maxLen):Gj a b=some (decide (a=b),()):=by
 unfold Gj;rw[CD,E8];split
 ·rename_i hl;have hl:a.length=b.length:=by omega
  rcases J5 (B:=Fp) a.length (λk=>((a,b,(a.length:Int),(k:Int),()),(),())) (.inr (((),()),(),())) (λ_=> .inl ((false,()),(),())) (λk=>decide (a[k]? ≠b[k]?))
   (by simp only[Fp];rw[Bq,if_neg (by omega)])
   (λk hk=>by
     have c1: (k:Int)< (a.length:Int):=by omega
     have c2: (0:Int)<=(k:Int):=by omega
     have hk':k<b.length:=by omega
     simp only[Fp,YS,CD,Bq,Av,if_pos c1,if_pos c2,B8,an hk,an hk',al,Ad ha hk];by_cases h:a[k] =b[k]<;>simp[h]) with ⟨k1,k2⟩| ⟨i,hi,k1,k2,_⟩
  ·rw[show Js ((a,b,(a.length:Int),0,()),(),())=_ from k1]
   have :a=b:=List.ext_getElem hl λk h1 h2=>by have:=k2 k h1;rw[an h1,an h2] at this;simpa using this
   rw[decide_eq_true this];rfl
  ·rw[show Js ((a,b,(a.length:Int),0,()),(),())=_ from k1]
   have :a≠b:=λh=>by rw[h] at k2;simp at k2
   rw[decide_eq_false this];rfl
 ·rename_i hl;have :a≠b:=λh=>hl (by rw[h]);rw[decide_eq_false this]
theorem SM(a b:List pS)(ha:a.length<=maxLen): ∃n:Nat,Gg a b=some ((n:Int),())/\n<=a.length/\n<=b.length/\a.take n=b.take n/\(n<a.length->n<b.length->a[n]? ≠b[n]?):=by
 rcases J5 (B:=EN) a.length (λk=>((a,b,(k:Int),()),(),())) ((((a.length:Nat):Int),()),(),()) (λk=>(((k:Int),()),(),())) (λk=>decide (a[k]? ≠b[k]?))
  (by simp only[EN];rw[Bq,if_neg (by omega)])
  (λk hk=>by
    have c1: (k:Int)< (a.length:Int):=by omega
    have c2: (0:Int)<=(k:Int):=by omega
    by_cases hk':k<b.length
    ·have c3: (k:Int)< (b.length:Int):=by omega
     simp only[EN,YS,Bq,Av,if_pos c1,if_pos c2,if_pos c3,B8,an hk,an hk',al,Ad ha hk];by_cases h:a[k] =b[k]<;>simp[h]
    ·have c3: ¬ (k:Int)< (b.length:Int):=by omega
     simp only[EN,Bq,if_pos c1,if_neg c3,an hk,ck (show b.length<=k by omega)];simp) with ⟨k1,k2⟩| ⟨i,hi,k1,k2,k3⟩
 ·have eq: ∀k,k<a.length->a[k]? =b[k]? :=λk hk=>by simpa using k2 k hk
  have hl:a.length<=b.length:=by
   rcases bh a.length with h|h
   ·omega
   ·have:=eq (a.length-1) (by omega);rw[an (by omega)] at this;have:=Bz this.symm;omega
  refine⟨a.length,?_,au _,hl,?_,λh=>absurd h (dg _)⟩
  ·unfold Gg;rw[show Jq ((a,b,0,()),(),())=_ from k1];rfl
  ·refine bu λk=> ?_;rw[bg,bg];split
   ·exact eq k (by assumption)
   ·rfl
 ·have eq: ∀k,k<i->a[k]? =b[k]? :=λk hk=>by simpa using k3 k hk
  have hl:i<=b.length:=by
   rcases bh i with h|h
   ·omega
   ·have:=eq (i-1) (by omega);rw[an (by omega)] at this;have:=Bz this.symm;omega
  refine⟨i,?_,by omega,hl,?_,λ_ _=>by simpa using k2⟩
  ·unfold Gg;rw[show Jq ((a,b,0,()),(),())=_ from k1];rfl
  ·refine bu λk=> ?_;rw[bg,bg];split
   ·exact eq k (by assumption)
   ·rfl
end
section
theorem Pt{l:List sV}(hl:l.length<=maxLen)(hv:Di l=some (true,())):l.length=5:=by
 obtain⟨b,h1,h2⟩:=Jc l hl;rw[hv] at h1;simp only[ae,ao,and_true] at h1;subst h1;unfold Ii at h2;cases h: ((l.length:Int)==5) with
 |false=>rw[h] at h2;cases h2
 |true=>simp only[beq_iff_eq] at h;omega
end
section
theorem RB(a b:List Int)(ha:Le a)(hb:b.length<=maxLen):DM a b=some (a.filter λx=> !decide (x∈b),()):=by
 have hl:=ha.len;have hm:a.length<=maxLen:=by unfold maxLen;omega
 have hp:=ha.pair
 have eU:=Az (B:=EO) a (λk (out:List Int)=>((a,b,(),(k:Int),()),(),(out,()))) (λk out=>out=(a.take k).filter λx=> !decide (x∈b)) (λk r out=>(((),()),(),(out++r.filter λx=> !decide (x∈b),())))
  (λout hb=>by simp only[EO];rw[Bq,if_neg (by omega)];simp)
  (λk out x hx hout=>by
    have hk:=Bz hx;have c1: (k:Int)< (a.length:Int):=by omega
    have c2: (0:Int)<=(k:Int):=by omega
    have hxe:a[k] =x:=by rw[an hk] at hx;exact Option.some.inj hx
    simp only[EO,CD,Bq,Av,if_pos c1,if_pos c2,B8,hx,al,(C8 b x hb).1,Ad hm hk];by_cases hin:x∈b
    ·simp only[if_pos hin];refine .inl ⟨out,rfl,?_,?_⟩
     ·rw[hout,Cg,hx,Ch];simp[hin]
     ·simp[hin]
    ·have hlt: ∀y∈out,y<x:=by
      intro y hy;rw[hout,Cw] at hy;obtain⟨i,hi,he⟩:=aO hy.1;have hi':i<k:=by simp at hi;omega
      rw[Cx] at he;rw[<-he,<-hxe];exact Cf.1 hp i k (by omega) hk hi'
     have hol:out.length<=1000:=by rw[hout];have:=Cn (λx=> !decide (x∈b)) (a.take k);simp only[cH] at this;omega
     simp only[if_neg hin,Ts out x hol hlt,al];refine .inl ⟨out++ [x],rfl,?_,?_⟩
     ·rw[hout,Cg,hx,Ch];simp[hin]
     ·simp[hin])
  0 [] (bL _) rfl
 unfold DM;rw[show KY ((a,b,(),0,()),(),([],()))=_ from eU];rfl
end
section
theorem MV{l:List Int}(h:SS l)(hr: ∀y∈l,0<=y/\y<5):Le l:=by intro k hk;have:=hr _ (Cc hk);exact⟨by omega,λh0=>Cf.1 h _ _ (by omega) hk (by omega)⟩
theorem NA{l:List Int}(h:Le l):D6 l=some (true,())/\Fd l=some (true,()):=by
 have hl:=h.len;have hm:l.length<=maxLen:=by unfold maxLen;omega
 obtain⟨_,_,h1,h2⟩:=Yo (B1:=Et) (B2:=Es) l.length (λk (_:Unit)=>((l,(k:Int),()),(),())) (λk _=>((l,l,(l.length:Int),(k:Int),()),(),())) (λ_ _=>True) (λ_=> .inr (((),()),(),())) (λ_=> .inr (((),()),(),()))
  (λ_ _=>by simp only[Et,Es,Bq];exact⟨if_neg (by omega),if_neg (by omega)⟩)
  (λk _ hk _=>by
    have c1: (k:Int)< (l.length:Int):=by omega
    have c2: (0:Int)<=(k:Int):=by omega
    obtain⟨r1,r2⟩:=h k hk;have w:Fr l[k] 0 4=true:=CG.2 r1;refine⟨(),?_⟩;simp only[Et,Es,Bq,Av,if_pos c1,if_pos c2,B8,an hk,al,Dz,Ja,w,cS,Af,Ad hm hk];by_cases h0:0<k
    ·have c3: (k:Int)>0:=by omega
     have c4: (0:Int)<=((k-1:Nat):Int):=by omega
     have e2:l[k-1]? =some l[k-1] :=an (by omega);have:=r2 h0;simp only[if_pos c3,Aa h0 (by omega),if_pos c4,B8,e2,al,if_neg (show ¬l[k-1] ≥l[k] by omega),if_neg (show ¬l[k] <=l[k-1] by omega),and_self]
    ·simp only[if_neg (show ¬ (k:Int)>0 by omega),and_self])
  () trivial
 unfold D6 Fd;rw[show I4 ((l,0,()),(),())=_ from h1,show I3 ((l,l,(l.length:Int),0,()),(),())=_ from h2];exact⟨rfl,rfl⟩
end
section
abbrev fx(x:oQ):Int×List oU×List Int×List mt×Int×Int×Int×Int×Int×List sV×Unit:=(x.now,x.servers,x.sides,x.master.configs,x.master.activated,x.masterUp,x.lease.epoch,x.lease.holder,x.lease.ends,x.places,())
abbrev fsv(s:oU):Bool×Bool×Int×Int×Int×Int×List Int×List Int×Int×List pS×Int×List pS×Unit:=(s.up,s.intact,s.version,s.epoch,s.config.epoch,s.config.primary,s.config.replicas,s.config.witnesses,s.first,s.log,s.commit,s.learned,())
structure Sea (x x':oQ):Prop where
 sides:x'.sides=x.sides
 master:x'.master=x.master
 srv: ∀ (k:Nat) (s:oU),x.servers[k]? =some s-> ∃e,x'.servers[k]? =some (⟨s.up,s.intact,s.version,e,s.config,s.first,s.log,s.commit,s.learned⟩:oU)
theorem Sea.refl(x:oQ):Sea x x:=⟨rfl,rfl,λ_ s h=>⟨s.epoch,h⟩⟩
theorem Sea.side{x x':oQ}(h:Sea x x')(a:Int):Jw x' a=Jw x a:=by unfold Jw;rw[h.sides]
section
variable {x x':oQ} (ok:C0 1048576 x) (ok':C0 1048576 x') (hv:CC x=some (true,())) (hv':CC x'=some (true,())) (se:Sea x x') {id:Int} (hid:0<=id/\id<5)
include ok ok' hv hv' se hid
omit ok hv se in
end
end
section
structure SV (m:jr) (s:oU) (k:Int):Prop where
 val:CH s k=some (true,())
 ep:s.epoch<=(m.configs.length:Int)
 lrn: ∃e,FL s.learned=some (e,())/\e<=m.activated
 cfg:s.config=⟨0,0,[],[]⟩\/(DG m s.config.epoch=some (s.config,true,())/\s.config.epoch<=m.activated)
theorem aag(x:oQ)(ok:C0 1048576 x)(k:Nat)(hk:k<x.servers.length):
  (SV x.master x.servers[k] (k:Int)/\CL (((),(k:Int),()),((x.now,x.servers,x.sides,x.master.configs,x.master.activated,x.masterUp,x.lease.epoch,x.lease.holder,x.lease.ends,x.places,()),()),())=some (.inl (((),((k+1:Nat):Int),()),((x.now,x.servers,x.sides,x.master.configs,x.master.activated,x.masterUp,x.lease.epoch,x.lease.holder,x.lease.ends,x.places,()),()),())))\/
  (¬SV x.master x.servers[k] (k:Int)/\CL (((),(k:Int),()),((x.now,x.servers,x.sides,x.master.configs,x.master.activated,x.masterUp,x.lease.epoch,x.lease.holder,x.lease.ends,x.places,()),()),())=some (.inr (.inl ((false,()),(),())))):=by
 obtain⟨⟨hs1,hs2⟩,hsd,hml,hpl⟩:=ok;have hm:=CI hs1;have c1: (k:Int)< (x.servers.length:Int):=by omega
 have c2: (0:Int)<=(k:Int):=by omega
 have hsk:=hs2 _ (Cc hk);obtain⟨b,v1,v2⟩:=Ir x.servers[k] (k:Int) hsk;obtain⟨n,n1,n2⟩:=GP x.servers[k].learned (CI hsk.2.2);obtain⟨c,d,d1,d2,d3⟩:=KH x.master x.servers[k].config.epoch hml;have hcfg:=CJ hsk.1
 simp only[CL,Bq,Av,if_pos c1,if_pos c2,B8,an hk,al,v1,n1,Ad hm hk,CD,
  show (⟨x.master.configs,x.master.activated⟩:jr)=x.master from rfl,d1,I2 _ hcfg,(Ej c x.servers[k].config d3).1]
 cases b with
 |false=>exact .inr ⟨(λh=>(by have h:=v1.symm.trans h.val;cases h)),rfl⟩
 |true=>
  simp only[A7];by_cases h1:x.servers[k].epoch>(x.master.configs.length:Int)
  ·simp only[if_pos h1];exact .inr ⟨λh=>by have:=h.ep;omega,trivial⟩
  ·simp only[if_neg h1];by_cases h2:n>x.master.activated
   ·simp only[if_pos h2];refine .inr ⟨λh=> ?_,trivial⟩;obtain⟨e,e1,e2⟩:=h.lrn;rw[n1] at e1;simp only[ae,ao,and_true] at e1;omega
   ·simp only[if_neg h2];by_cases h3:x.servers[k].config=⟨0,0,[],[]⟩
    ·simp only[if_pos h3];exact .inl ⟨⟨v1,by omega,⟨n,n1,by omega⟩,.inl h3⟩,trivial⟩
    ·simp only[if_neg h3];cases d with
     |false=>
      refine .inr ⟨λh=> ?_,rfl⟩;rcases h.cfg with h| ⟨h,_⟩
      ·exact h3 h
      ·rw[d1] at h;cases h
     |true=>
      simp only[A7];by_cases h4:c=x.servers[k].config
      ·simp only[if_pos h4];by_cases h5:x.servers[k].config.epoch>x.master.activated
       ·simp only[if_pos h5];refine .inr ⟨λh=> ?_,trivial⟩;rcases h.cfg with h| ⟨_,h⟩
        ·exact h3 h
        ·omega
       ·simp only[if_neg h5];exact .inl ⟨⟨v1,by omega,⟨n,n1,by omega⟩,.inr ⟨by rw[d1,h4],by omega⟩⟩,trivial⟩
      ·simp only[if_neg h4];refine .inr ⟨λh=> ?_,trivial⟩;rcases h.cfg with h| ⟨h,_⟩
       ·exact h3 h
       ·rw[d1] at h;simp only[ae,ao,and_true] at h;exact h4 h
theorem TE(x:oQ)(ok:C0 1048576 x):
  ((∀k (hk:k<x.servers.length),SV x.master x.servers[k] (k:Int))/\EU (((),0,()),((x.now,x.servers,x.sides,x.master.configs,x.master.activated,x.masterUp,x.lease.epoch,x.lease.holder,x.lease.ends,x.places,()),()),())=some (.inr (((),()),(),())))\/
  ((∃k,∃hk:k<x.servers.length,¬SV x.master x.servers[k] (k:Int))/\EU (((),0,()),((x.now,x.servers,x.sides,x.master.configs,x.master.activated,x.masterUp,x.lease.epoch,x.lease.holder,x.lease.ends,x.places,()),()),())=some (.inl ((false,()),(),()))):=by
 have eU:=Be (B1:=CL) (B2:=CL) x.servers.length (λk=>(((),(k:Int),()),((x.now,x.servers,x.sides,x.master.configs,x.master.activated,x.masterUp,x.lease.epoch,x.lease.holder,x.lease.ends,x.places,()),()),())) (λk=>(((),(k:Int),()),((x.now,x.servers,x.sides,x.master.configs,x.master.activated,x.masterUp,x.lease.epoch,x.lease.holder,x.lease.ends,x.places,()),()),())) (.inr (((),()),(),())) (.inr (((),()),(),())) (λ_=> .inl ((false,()),(),())) (λ_=> .inl ((false,()),(),()))
  (λk=> ∀hk:k<x.servers.length,SV x.master x.servers[k] (k:Int)) (λk=> ∃hk:k<x.servers.length,¬SV x.master x.servers[k] (k:Int))
  (by simp only[CL];rw[Bq,if_neg (by omega)])
  (by simp only[CL];rw[Bq,if_neg (by omega)])
  (λk hk=>by
    rcases aag x ok k hk with ⟨h1,h2⟩| ⟨h1,h2⟩
    ·exact .inl ⟨h2,h2,λ_=>h1⟩
    ·exact .inr ⟨h2,h2,hk,h1⟩)
 rcases eU with ⟨k1,_,k3⟩| ⟨k,hk,k1,_,k3⟩
 ·exact .inl ⟨λk hk=>k3 k hk hk,k1⟩
 ·exact .inr ⟨⟨k,k3⟩,k1⟩
theorem PW{x:oQ}(ok:C0 1048576 x)(hv:CC x=some (true,())): ∀k (hk:k<x.servers.length),SV x.master x.servers[k] (k:Int):=by
 rcases TE x ok with ⟨h,_⟩| ⟨_,h⟩
 ·exact h
 ·exfalso;obtain⟨b1,a1,_⟩:=JO x.sides (CI ok.2.1);obtain⟨b2,m1,_⟩:=masterLog x.master (DW ok.2.2.1);obtain⟨b3,l1,_⟩:=Ll x.lease;obtain⟨b4,p1,_⟩:=Jc x.places (CI ok.2.2.2);unfold CC at hv;simp only[Dz,a1,m1,l1,p1,al,h,Cm] at hv;revert hv;cases Fr x.now 0 999<;>cases ((x.servers.length:Int)==5)<;>cases b1<;>cases b2<;>cases Fr x.masterUp 0 3<;>cases b3<;>cases b4<;>cases decide (x.lease.epoch>x.master.activated)<;>intro hv<;>cases hv
theorem aad{x:oQ}(ok:C0 1048576 x)(hv:CC x=some (true,()))(S:List oU)(hl:S.length=x.servers.length)(hok: ∀s∈S,C9 1048576 s)(hS: ∀k (hk:k<S.length),SV x.master S[k] (k:Int)):
  C0 1048576 ⟨x.now,S,x.sides,x.master,x.masterUp,x.lease,x.places⟩/\CC ⟨x.now,S,x.sides,x.master,x.masterUp,x.lease,x.places⟩=some (true,()):=by
 have ok2:C0 1048576 ⟨x.now,S,x.sides,x.master,x.masterUp,x.lease,x.places⟩:=⟨⟨by show S.length<=_;rw[hl];exact ok.1.1,hok⟩,ok.2.1,ok.2.2.1,ok.2.2.2⟩
 refine⟨ok2,?_⟩;rcases TE x ok with ⟨_,h1⟩| ⟨⟨k,hk,h0⟩,_⟩
 ·rcases TE ⟨x.now,S,x.sides,x.master,x.masterUp,x.lease,x.places⟩ ok2 with ⟨_,h2⟩| ⟨⟨k,hk,h0⟩,_⟩
  ·have hv':=hv;unfold CC at hv' ⊢;rw[h1] at hv';rw[h2];simp only[hl];exact hv'
  ·exact absurd (hS k hk) h0
 ·exact absurd (PW ok hv k hk) h0
theorem SV.old{m:jr}{s:oU}{k:Int}(h:SV m s k)(hm:Ju 1048576 m)(hv:CP m=some (true,())):s.config.epoch<=(m.configs.length:Int):=by
 obtain⟨_,f2,f3⟩:=Lq (DW hm) hv;rcases h.cfg with h| ⟨_,h⟩
 ·rw[h];show (0:Int)<=_;omega
 ·omega
end
section
abbrev Vr(s:oU)(e:Int):oU:=⟨s.up,s.intact,s.version,e,s.config,s.first,s.log,s.commit,s.learned⟩
theorem aaA{s:oU}{id:Int}(h:C9 1048576 s)(hv:CH s id=some (true,())):s.config.epoch<=s.epoch:=by
 have hc:=CJ h.1;obtain⟨_,_,_,_,_,_,_,e0,_⟩:=HV h hv;by_cases hz:s.config=⟨0,0,[],[]⟩
 ·rw[hz];exact e0
 ·refine Int.not_lt.1 λhlt=> ?_;unfold CH at hv;simp only[Dz,al,CD,I2 s.config hc,Bq,if_neg hz,if_pos hlt] at hv;cases h1:Fr s.version 1 2 with
  |false=>rw[h1] at hv;cases hv
  |true=>
  cases h2:Fr s.epoch 0 20 with
  |false=>rw[h1,h2] at hv;cases hv
  |true=>
  rcases isLog s.log (CI h.2.1) with ⟨a1,a2,a3⟩| ⟨a1,a2⟩
  case inr=>simp only[h1,h2,a1,al,A7,Af] at hv;cases hv
  rcases isLog s.learned (CI h.2.2) with ⟨b1,b2,b3⟩| ⟨b1,b2⟩
  case inr=>simp only[h1,h2,a1,b1,al,A7,Af] at hv;cases hv
  simp only[h1,h2,a1,b1,al,A7] at hv;cases h3:Fr s.first 0 16<;>rw[h3] at hv
  ·cases hv
  ·cases h4:Fr (IntKind.wrap .i64 (s.first+(s.log.length:Int))) 0 16<;>rw[h4] at hv
   ·cases hv
   ·cases h5:Fr s.commit 0 (IntKind.wrap .i64 (s.first+(s.log.length:Int)))<;>rw[h5] at hv
    ·cases hv
    ·cases h6:s.intact<;>rw[h6] at hv<;>cases hv
abbrev ZN(x:oQ)(S:List oU):oQ:=⟨x.now,S,x.sides,x.master,x.masterUp,x.lease,x.places⟩
end
section

end
section
theorem Le.filter{l:List Int}(h:Le l)(p:Int->Bool):Le (l.filter p):=by refine MV (h.pair.filter p) λy hy=> ?_;obtain⟨k,hk,rfl⟩:=aO (Cw.1 hy).1;have:=(h k hk).1;omega
theorem Vu:Le [0,1,2,3,4] :=by refine MV (by simp[SS]) λy hy=> ?_;simp at hy;omega
end
section
theorem UK(l:sS)(e h n t:Int): ∃r b,IK l e h n t=some (r,b,())/\OF l e h n t=some (r,b,()):=by obtain⟨b,h1,h2⟩:=Ll l;obtain⟨q,q1,q2⟩:=Nd l n;unfold IK OF;simp only[h1,h2,q1,q2,Dz,Ja,al];cases (l.epoch==e)<;>cases b<;>cases Fr e 1 20<;>cases Fr h 0 4<;>cases Fr n 0 999<;>cases Fr t 1 50<;>cases (l.holder==h)<;>cases q<;>exact⟨_,_,rfl,rfl⟩
end
section
def Ov:List me->Int->Nat
 | [],_=>0
 |x::l,c=>if x.client<c then Ov l c+1 else 0
theorem YC(l:List me)(c:Int):Ov l c<=l.length:=by
 induction l with
 |nil=>exact au _
 |cons x l ih=>
  unfold Ov;split
  ·simp only[bA];omega
  ·exact bL _
theorem YD{l:List me}{c:Int}(h: ∃x∈l,x.client=c):Ov l c<l.length:=by
 induction l with
 |nil=>obtain⟨x,hx,_⟩:=h;cases hx
 |cons y l ih=>
  unfold Ov;split
  ·rename_i hy;obtain⟨x,hx,hc⟩:=h;rcases aU.1 hx with rfl|hx
   ·omega
   ·have:=ih ⟨x,hx,hc⟩;simp only[bA];omega
  ·simp
theorem aaQ(b d:Bool)(v:Int)(o:Op)(objs:List Int)(l:List me)(hl:l.length<=1000):KB (((),(),(),(),b,(),0,()),((o.client,o.seq,o.kind,o.object,o.old,o.value,()),((),(),()),(false,0,()),((),(),()),(d,v,()),()),objs,l,())=
  some (((),(),(),(),b,(),((Ov l o.client:Nat):Int),()),((o.client,o.seq,o.kind,o.object,o.old,o.value,()),((),(),()),(false,0,()),((),(),()),(d,v,()),()),objs,l,()):=by
 have ml:l.length<=maxLen:=by unfold maxLen;omega
 have eU:=Az (B:=Hl) l (λk (_:Unit)=>(((),(),(),(),b,(),(k:Int),()),((o.client,o.seq,o.kind,o.object,o.old,o.value,()),((),(),()),(false,0,()),((),(),()),(d,v,()),()),objs,l,())) (λ_ _=>True)
  (λk r _=>(((),(),(),(),b,(),((k+Ov r o.client:Nat):Int),()),((o.client,o.seq,o.kind,o.object,o.old,o.value,()),((),(),()),(false,0,()),((),(),()),(d,v,()),()),objs,l,()))
  (λ_ _=>by simp only[Hl];rw[Bq,if_neg (by omega)];rfl)
  (λk _ x hx _=>by
    have hk:=Bz hx;have c1: (k:Int)< (l.length:Int):=by omega
    have c2: (0:Int)<=(k:Int)/\(k:Int)< (l.length:Int):=by omega
    simp only[Hl,Bq,Av,if_pos c1,if_pos c2,B8,hx,al,Ad ml hk];by_cases h:x.client<o.client
    ·rw[if_pos h];refine .inl ⟨(),rfl,trivial,?_⟩;rw[Ov,if_pos h,show k+(Ov (l.drop (k+1)) o.client+1)=k+1+Ov (l.drop (k+1)) o.client by omega]
    ·rw[if_neg h];refine .inr ?_;rw[Ov,if_neg h];rfl) 0 () (bL _) trivial
 simp only[aL,ct] at eU;exact eU
theorem V2{o:Op}(h:Dl o=some (true,())):0<=o.object/\o.object<=2:=by
 unfold Dl at h;simp only[Dz,al] at h;cases h1:Fr o.client 0 2 with
 |false=>rw[h1] at h;cases h
 |true=>
  cases h2:Fr o.seq 1 99 with
  |false=>rw[h1,h2] at h;cases h
  |true=>
   cases h3:Fr o.object 0 2 with
   |false=>rw[h1,h2,h3] at h;cases h
   |true=>exact CG.1 h3
def Z7(o:Op):Bool:=match Dl o with |some (b,_)=>b|none=>false
theorem Mw(o:Op):Dl o=some (Z7 o,()):=by obtain⟨b,h,_⟩:=V6 o;unfold Z7;rw[h]
def Tg(l:List pS)(k:Nat):Bool:=match l[k]? with
 |some e=>Fr e.epoch 1 20&&(Z7 e.op&&(decide (k=0)||match l[k-1]? with |some d=> !decide (d.epoch>e.epoch)|none=>false))
 |none=>false
theorem Ww{l:List pS}{n k:Nat}(hk:k<n):Tg (l.take n) k=Tg l k:=by unfold Tg;rw[bg,if_pos hk,bg,if_pos (by omega)]
theorem J1(l:List pS)(hl:l.length<=maxLen):Dk l=some (true,())↔l.length<=16/\ ∀k,k<l.length->Tg l k=true:=by
 have eU:=J5 (B:=Hn) l.length (λk=>((l,(k:Int),()),(),())) (.inr ((l,(),()),(),())) (λ_=> .inl ((l,false,()),(),())) (λk=> !Tg l k)
  (by simp only[Hn];rw[Bq,if_neg (by omega)])
  (λk hk=>by
    have c1: (k:Int)< (l.length:Int):=by omega
    have c2: (0:Int)<=(k:Int):=by omega
    simp only[Hn,Bq,Av,if_pos c1,if_pos c2,B8,an hk,al,Mw,Dz,Ad hl hk,CD,Tg];cases Fr l[k].epoch 1 20 with
    |false=>rfl
    |true=>
     cases Z7 l[k].op with
     |false=>rfl
     |true=>
      by_cases h0:0<k
      ·have c3: (k:Int)>0:=by omega
       have c4: (0:Int)<=((k-1:Nat):Int):=by omega
       have c5: ¬k=0:=by omega
       have e2:l[k-1]? =some l[k-1] :=an (by omega);simp only[A7,if_pos c3,Aa h0 (by omega),if_pos c4,B8,e2,al,decide_eq_false c5,df,bV,Bool.not_not];by_cases hlt:l[k-1].epoch>l[k].epoch
       ·rw[if_pos hlt,decide_eq_true hlt];rfl
       ·rw[if_neg hlt,decide_eq_false hlt];rfl
      ·have c3: ¬ (k:Int)>0:=by omega
       have c5:k=0:=by omega
       simp only[A7,if_neg c3,decide_eq_true c5];rfl)
 unfold Dk;rcases eU with ⟨k1,k2⟩| ⟨k,h0,k1,k2,_⟩
 ·rw[show LZ ((l,0,()),(),())=_ from k1];simp only[al,Cq,ae,ao,and_true,decide_eq_true_eq];constructor
  ·intro h;exact⟨by omega,λk hk=>by simpa using k2 k hk⟩
  ·intro h;omega
 ·rw[show LZ ((l,0,()),(),())=_ from k1];simp only[al,Cm,ae,ao,and_true];constructor
  ·intro h;cases h
  ·rintro⟨_,h⟩
   have:=h k h0;rw[this] at k2;cases k2
theorem UM{l:List pS}(hl:l.length<=maxLen)(h:Dk l=some (true,()))(n:Nat):Dk (l.take n)=some (true,()):=by
 have hn: (l.take n).length<=l.length:=by rw[cH];omega
 obtain⟨h1,h2⟩:=(J1 l hl).1 h;refine (J1 _ (by omega)).2 ⟨by omega,λk hk=> ?_⟩;rw[Ww (by rw[cH] at hk;omega)];exact h2 k (by omega)
structure VM (m:md):Prop where
 vlen:m.objects.length=3
 vobj: ∀v∈m.objects,Fr v 0 9=true
 vses: ∀x∈m.sessions,Fr x.client 0 2=true/\Fr x.seq 1 99=true/\Fr x.result.value 0 9=true
 vasc:m.sessions.Pairwise λx y=>x.client<y.client
theorem VM.valid{m:md}(h:VM m)(hs:m.sessions.length<=1000):Ep m=some (true,()):=by
 have mo:m.objects.length<=maxLen:=by rw[h.vlen];unfold maxLen;omega
 have ms:m.sessions.length<=maxLen:=by unfold maxLen;omega
 have k1:=J5 (B:=Ek) m.objects.length (λk=>(((),(k:Int),()),((m.objects,m.sessions,()),()),())) (.inr (((),(),()),((m.objects,m.sessions,()),()),())) (λ_=> .inl (((),false,()),((m.objects,m.sessions,()),()),())) (λ_=>false)
  (by simp only[Ek];rw[Bq,if_neg (by omega)])
  (λk hk=>by
    have c1: (k:Int)< (m.objects.length:Int):=by omega
    have c2: (0:Int)<=(k:Int):=by omega
    simp only[Ek,Bq,Av,if_pos c1,if_pos c2,B8,an hk,al,Dz,h.vobj _ (Cc hk),Ad mo hk];rfl)
 have k2:=J5 (B:=El) m.sessions.length (λk=>(((),(k:Int),()),((m.objects,m.sessions,()),()),())) (.inr (((),(),()),((m.objects,m.sessions,()),()),())) (λ_=> .inl (((),false,()),((m.objects,m.sessions,()),()),())) (λ_=>false)
  (by simp only[El];rw[Bq,if_neg (by omega)])
  (λk hk=>by
    have c1: (k:Int)< (m.sessions.length:Int):=by omega
    have c2: (0:Int)<=(k:Int):=by omega
    obtain⟨h1,h2,h3⟩:=h.vses _ (Cc hk);simp only[El,Bq,Av,if_pos c1,if_pos c2,B8,an hk,al,Dz,h1,h2,h3,cS,Af,Ad ms hk];by_cases h0:0<k
    ·have c3: (k:Int)>0:=by omega
     have c4: (0:Int)<=((k-1:Nat):Int):=by omega
     have e1:m.sessions[k-1]? =some (m.sessions[k-1]'(by omega)):=an (by omega);have:=Cf.1 h.vasc (k-1) k (by omega) hk (by omega);have c5: ¬ (m.sessions[k-1]'(by omega)).client≥m.sessions[k].client:=by omega
     simp only[if_pos c3,Aa h0 (by unfold maxLen at ms ⊢;omega),if_pos c4,B8,e1,al,if_neg c5];rfl
    ·have c3: ¬ (k:Int)>0:=by omega
     simp only[if_neg c3];rfl)
 unfold Ep;rcases k1 with ⟨g1,_⟩| ⟨k,_,_,hf,_⟩
 ·rcases k2 with ⟨g2,_⟩| ⟨k,_,_,hf,_⟩
  ·rw[show KW (((),0,()),((m.objects,m.sessions,()),()),())=_ from g1];simp only[al,Cq,show Ib (((),0,()),((m.objects,m.sessions,()),()),())=_ from g2,h.vlen];rfl
  ·cases hf
 ·cases hf
theorem Z9{o:Op}(h:Z7 o=true):Fr o.client 0 2=true/\Fr o.seq 1 99=true/\Fr o.value 0 9=true:=by
 have h0:Dl o=some (true,()):=by rw[Mw,h]
 unfold Dl at h0;simp only[Dz,al] at h0;cases h1:Fr o.client 0 2 with
 |false=>rw[h1] at h0;cases h0
 |true=>
  cases h2:Fr o.seq 1 99 with
  |false=>rw[h1,h2] at h0;cases h0
  |true=>
   cases h3:Fr o.object 0 2 with
   |false=>rw[h1,h2,h3] at h0;cases h0
   |true=>
    cases h4:Fr o.value 0 9 with
    |false=>rw[h1,h2,h3,h4] at h0;cases h0
    |true=>exact⟨rfl,rfl,rfl⟩
end
section
theorem NJ(x:oQ)(ok:C0 1048576 x)(id:Int): ∃b,EX x id=some (b,())/\Ei x id=some (b,())/\(b=true->CC x=some (true,())/\0<=id/\id<5/\ ∀s,x.servers[id.toNat]? =some s->CT s id=some (true,())):=by
 obtain⟨v,v1,v2⟩:=Ea x ok;cases v with
 |false=>
  refine⟨false,?_,?_,nofun⟩
  ·unfold EX;simp only[v1,al,Af]
  ·unfold Ei Er;simp only[v2,al,Af]
 |true=>
  cases hw:Fr id 0 4 with
  |false=>
   refine⟨false,?_,?_,nofun⟩
   ·unfold EX;simp only[v1,Dz,hw,al,A7,Af]
   ·unfold Ei Er;simp only[v2,Ja,hw,al,A7,Af]
  |true=>
   have hid:=CG.1 hw;obtain⟨s,s1,s2,s3⟩:=Of ok (DK ok v1) (a:=id) (by omega);obtain⟨b,b1,b2⟩:=Jv s id s2;refine⟨b,?_,?_,λhb=>⟨v1,hid.1,by omega,λs' hs=> ?_⟩⟩
   ·unfold EX;simp only[v1,Dz,hw,al,A7,Av,if_pos hid.1,s1,b1]
   ·unfold Ei Er;simp only[v2,Ja,hw,al,A7,Av,if_pos hid.1,s1,b2]
   ·rw[s1] at hs;obtain rfl:=Option.some.inj hs;rw[b1,hb]
theorem aax{c:mt}{id:Int}(h:Eg maxLen c)(hr:Dm c id=some (1,())):CE c=some (true,())/\id=c.primary:=by
 obtain⟨v,v1,v2⟩:=Fk c h;unfold Dm at hr;simp only[v1,al,(C8 c.replicas id h.1).1,(C8 c.witnesses id h.2).1,CD,E8] at hr;cases v with
 |false=>simp only[Af] at hr;simp at hr
 |true=>
  refine⟨v1,?_⟩;by_cases he:id=c.primary
  ·exact he
  ·simp only[A7,if_neg he] at hr;cases h1:decide (id∈c.replicas)<;>cases h2:decide (id∈c.witnesses)<;>rw[h1,h2] at hr<;>simp[A7,Af] at hr
theorem O8{s:oU}{id:Int}(ok:C9 1048576 s)(h:CT s id=some (true,())):CE s.config=some (true,())/\id=s.config.primary:=by
 obtain⟨v,v1,v2⟩:=Ir s id ok;obtain⟨n,n1,n2,_⟩:=Kg s.config id (CJ ok.1);unfold CT at h;simp only[v1,n1,al,E8] at h;cases v with
 |false=>simp[Af] at h
 |true=>
  cases hu:s.up with
  |false=>rw[hu] at h;simp[A7,Af] at h
  |true=>
   rw[hu] at h;simp only[A7] at h;by_cases hn:n=1
   ·subst hn;exact aax (CJ ok.1) n1
   ·rw[if_neg hn] at h;simp at h
theorem XS(c:mt)(y:Int)(h:Eg maxLen c)(hv:CE c=some (true,())): ∃n,Dm c y=some (n,())/\IH c y=some (n,())/\(n=0↔ ¬ (y∈c.replicas\/y∈c.witnesses))/\(n=3->y≠c.primary):=by
 obtain⟨v,v1,v2⟩:=Fk c h;rw[hv] at v1;simp only[ae,ao,and_true] at v1;subst v1;have hp:=(FO h hv).2.2.1;unfold Dm IH;simp only[hv,v2,al,(C8 c.replicas y h.1).1,(C8 c.replicas y h.1).2,(C8 c.witnesses y h.2).1,(C8 c.witnesses y h.2).2,CD,E8,A7,Bq];by_cases he:y=c.primary
 ·simp only[if_pos he];exact⟨1,rfl,rfl,⟨λh=>(by cases h),λh=>absurd (.inl (he ▸ hp)) h⟩,λh=>(by cases h)⟩
 ·simp only[if_neg he];by_cases h1:y∈c.replicas
  ·simp only[if_pos h1];exact⟨2,rfl,rfl,⟨λh=>(by cases h),λh=>absurd (.inl h1) h⟩,λh=>(by cases h)⟩
  ·simp only[if_neg h1];by_cases h2:y∈c.witnesses
   ·simp only[if_pos h2];exact⟨3,rfl,rfl,⟨λh=>(by cases h),λh=>absurd (.inr h2) h⟩,λ_=>he⟩
   ·simp only[if_neg h2];exact⟨0,rfl,rfl,⟨λ_ h=>h.elim h1 h2,λ_=>rfl⟩,λh=>(by cases h)⟩
theorem XT(l:List pS)(hl:l.length<=1048576)(hv:Dk l=some (true,())):M6 l=some (((cutAt l:Nat):Int),l.drop (cutAt l),()):=by
 unfold M6 NC;have hc:cutAt l<=l.length:=by unfold cutAt;omega
 have c1: (0:Int)<=((cutAt l:Nat):Int)/\((cutAt l:Nat):Int)<=(l.length:Int)/\(l.length:Int)<=(l.length:Int):=by omega
 have ht: ((l.drop (cutAt l)).take (l.length-cutAt l))=l.drop (cutAt l):=bS (by simp);simp only[hv,al,cS,Af,Qw l hl,Av,if_pos c1,B8,ht,(IC (l.drop (cutAt l)) (by simp;omega)).1]
end
section
def Tt{α:Type}(Q:α->Prop)(r:Option α):Prop:=∃a,r=some a/\Q a
section
variable {α β σ ε:Type} {Q:α->Prop} {Q':β->Prop}
theorem Tt.ret{a:α}(h:Q a):Tt Q (some a):=⟨a,rfl,h⟩
theorem Tt.bind{r:Option α}{k:α->Option β}(h:Tt Q r)(hk: ∀a,Q a->Tt Q' (k a)):Tt Q' (r.bind k):=by obtain⟨a,rfl,h⟩:=h;exact hk a h
theorem Tt.mono{Q2:α->Prop}{r:Option α}(h:Tt Q r)(hq: ∀a,Q a->Q2 a):Tt Q2 r:=h.imp λ_ h=>⟨h.1,hq _ h.2⟩
theorem Tt.ip{p:Prop}{d:Decidable p}{x y:Option α}(hp:p)(h:Tt Q x):Tt Q (@iteP _ p d x y):=by rw[Ax hp];exact h
theorem Tt.br{b:Bool}{x y:Option α}(h1:b=true->Tt Q x)(h2:b=false->Tt Q y):Tt Q (br b x y):=by
 cases b with
 |true=>exact h1 rfl
 |false=>exact h2 rfl
theorem Tt.get{γ:Type}{l:List γ}{i:Nat}{k:γ->Option α}(hi:i<l.length)(h: ∀x,l[i]? =some x->x∈l->Tt Q (k x)):Tt Q ((l[i]?).bind k):=by rw[an hi];exact h _ (an hi) (Cc hi)
theorem Tt.loop{B:σ->Option (σ⊕ε)}{E:ε->Prop}(I:σ->Prop)(μ:σ->Nat)(h: ∀s,I s->Tt (Sum.elim (λs'=>I s'/\μ s'<μ s) E) (B s)){s:σ}(hs:I s):Tt E (mh B s):=
 Bd I μ E (λs hs=>by
  obtain⟨r,h1,h2⟩:=h s hs;cases r with
  |inl s'=>exact .inl ⟨s',h1,h2.1,h2.2⟩
  |inr e=>exact .inr ⟨e,h1,h2⟩) hs
theorem Tt.go{p:Prop}[Decidable p]{x y:Option α}(hp:p)(h:Tt Q x):Tt Q (Go.Proofs.YtkghndikalnipabGreat.En.br (decide p) x y):=by rw[Bq,if_pos hp];exact h
theorem Tt.end{p:Prop}[Decidable p]{x y:Option α}(hp: ¬p)(h:Tt Q y):Tt Q (Go.Proofs.YtkghndikalnipabGreat.En.br (decide p) x y):=by rw[Bq,if_neg hp];exact h
theorem Tt.count{B:σ->Option (σ⊕ε)}{E:ε->Prop}(n:Nat)(m:Nat->β->σ)(J:Nat->β->Prop)(h0: ∀b,J n b->Tt (Sum.elim (λ_=>False) E) (B (m n b)))
  (h1: ∀k b,k<n->J k b->Tt (Sum.elim (λs=> ∃b',s=m (k+1) b'/\J (k+1) b') E) (B (m k b))) (b:β) (hb:J 0 b):Tt E (mh B (m 0 b)):=by
 have go: ∀ (d k:Nat) (b:β),k+d=n->J k b->Tt E (mh B (m k b)):=by
  intro d
  induction d with
  |zero=>
   intro k b hk hb;obtain rfl:k=n:=hk;obtain⟨r,e1,e2⟩:=h0 b hb;cases r with
   |inl s=>exact e2.elim
   |inr e=>exact⟨e,by rw[jg,e1];rfl,e2⟩
  |succ d ih=>
   intro k b hk hb;obtain⟨r,e1,e2⟩:=h1 k b (by omega) hb;cases r with
   |inl s=>obtain⟨b',rfl,hb'⟩:=e2;rw[jg,e1];exact ih (k+1) b' (by omega) hb'
   |inr e=>exact⟨e,by rw[jg,e1];rfl,e2⟩
 exact go n 0 b (aL n) hb
end
abbrev T1{α:Type}(_:α):Prop:=True
theorem Jx{l:List Int}(ha:Le l): ∀y∈l,0<=y/\y<5:=by intro y hy;obtain⟨k,hk,rfl⟩:=aO hy;have:=(ha k hk).1;omega
theorem Ma(c:mt)(h:Eg maxLen c):Tt (λy=>y.1.length<=10/\ ∀z∈y.1,0<=z/\z<5) (C5 c):=by obtain⟨v,v1,_⟩:=Fk c h;unfold C5;rw[v1,al,CD];refine .br (λe=> ?_) λ_=> .ret ⟨bL _,nofun⟩;subst e;obtain⟨a1,a2,_⟩:=FO h v1;have l1:=a1.len;have l2:=a2.len;obtain⟨r,r1,_,r4,r5⟩:=Vo c.replicas c.witnesses (by omega) (by omega);rw[r1];exact .ret ⟨by show r.length<=10;omega,λz hz=>((r4 z).1 hz).elim (Jx a1 z) (Jx a2 z)⟩
theorem Ux{x:oQ}(ok:C0 1048576 x)(vc:VC x)(a b:Int):Tt T1 (Ez x.sides a b):=by have h5:=HU (CI ok.2.1) vc.sides;unfold Ez;simp only[vc.sides,Dz,al,A7];refine .br (λha=> .br (λhb=> ?_) λ_=> .ret trivial) λ_=> .ret trivial;have ha:=CG.1 ha;have hb:=CG.1 hb;exact .ip ha.1 (.get (by omega) λ_ _ _=> .ip hb.1 (.get (by omega) λ_ _ _=> .ret trivial))
theorem Tt.srv{α:Type}{Q:α->Prop}{x:oQ}(ok:C0 1048576 x)(vc:VC x){a:Int}(ha:0<=a/\a<5){k:oU->Option α}(h: ∀s,x.servers[a.toNat]? =some s->C9 1048576 s->CH s a=some (true,())->Tt Q (k s)):Tt Q (iteP (0<=a) ((x.servers[a.toNat]?).bind k) none):=by obtain⟨s,s1,s2,s3⟩:=Of ok vc ha;refine .ip ha.1 ?_;rw[s1];exact h s s1 s2 s3
theorem WY{x:oQ}(ok:C0 1048576 x)(vc:VC x){a b:Int}(ha:0<=a/\a<5)(hb:0<=b/\b<5):Tt T1 (ET x a b):=by unfold ET;refine .srv ok vc hb λm m1 m2 _=> .bind (Ux ok vc a b) λ_ _=> .br (λ_=> .br (λ_=> .srv ok vc ha λp p1 p2 _=> .br (λ_=> .srv ok vc ha λ_ _ _ _=> .br (λ_=> .srv ok vc ha λq _ _ _=> ?_) λ_=> .ret trivial) λ_=> .ret trivial) λ_=> .ret trivial) λ_=> .ret trivial;rw[(Ej m.config q.config (CJ m2.1)).1];exact .ret trivial
theorem M8{l:List pS}(h:l.length<=maxLen): ∃b,Dk l=some (b,())/\(b=true->l.length<=16):=by
 rcases isLog l h with ⟨h1,_,h2⟩| ⟨h1,_⟩
 ·exact⟨true,h1,λ_=>h2⟩
 ·exact⟨false,h1,nofun⟩
theorem OE{l:List pS}(h:l.length<=1048576):DP l=some (l,()):=(IC l h).1
theorem YT(l:List pS)(c q:Int)(hl:l.length<=maxLen):Tt (λy=>y.1= -1\/0<=y.1/\y.1< (l.length:Int)) (LL l c q):=by
 unfold LL;refine .bind (.count (B:=Jd) (E:=Sum.elim (λy=>0<=y.1.1/\y.1.1< (l.length:Int)) λ_=>True) l.length (λk (_:Unit)=>((l,c,q,(k:Int),()),(),())) (λ_ _=>True) (λ_ _=> ?_) (λk _ hk _=> ?_) () trivial) λy hy=> ?_
 ·unfold Jd;simp only[Bq];rw[if_neg (by omega)];exact .ret trivial
 ·unfold Jd;simp only[Bq];rw[if_pos (by omega)];refine .ip (by omega) (.get (by omega) λ_ _ _=> .br (λ_=> .ip (by omega) (.get (by omega) λ_ _ _=> .br (λ_=> .ret ?_) λ_=> .ret ⟨(),by rw[Ad hl hk],trivial⟩)) λ_=> .ret ⟨(),by rw[Ad hl hk],trivial⟩);exact⟨by show (0:Int)<=k;omega,by show (k:Int)<_;omega⟩
 ·cases y with
  |inl y=>exact .ret (.inr hy)
  |inr y=>exact .ret (.inl rfl)
end
section
theorem Ou{l:List oU}(h:l.length<=1048576/\ ∀s∈l,C9 1048576 s){s:oU}(hs:C9 1048576 s)(i:Nat): (l.set i s).length<=1048576/\ ∀s'∈l.set i s,C9 1048576 s':=
 ⟨by rw[Cd];exact h.1,λs' hm=>(cL hm).elim (h.2 s') λe=>e ▸ hs⟩
theorem ZT(x:oQ)(ok:C0 1048576 x)(id:Int): ∃y n,HG x id=some (y,n,())/\C0 1048576 y/\y.servers.length=x.servers.length:=by
 obtain⟨b,b1,_,b2⟩:=SP x id ok;unfold HG;simp only[(Fu x ok).1,b1,al,CD];cases b with
 |false=>exact⟨x,1,rfl,ok,rfl⟩
 |true=>
  obtain⟨hv,h0,h5⟩:=b2 rfl;obtain⟨s,s1,_⟩:=Of ok (DK ok hv) ⟨h0,h5⟩;have hlt:=Bz s1;have hs:=ok.1.2 s (aw s1);simp only[A7,Av,if_pos h0,s1,al];rw[if_pos ⟨h0,by omega⟩];cases s.up with
  |false=>exact⟨x,2,rfl,ok,rfl⟩
  |true=>exact⟨_,0,rfl,⟨Ou ok.1 (show C9 1048576 ⟨false,s.intact,s.version,s.epoch,s.config,s.first,s.log,s.commit,s.learned⟩ from hs) _,ok.2⟩,Cd⟩
theorem XR(x:oQ)(ok:C0 1048576 x)(id:Int): ∃y n,GB x id=some (y,n,())/\C0 1048576 y/\y.servers.length=x.servers.length:=by
 obtain⟨b,b1,_,b2⟩:=SP x id ok;unfold GB;simp only[(Fu x ok).1,b1,al,CD];cases b with
 |false=>exact⟨x,1,rfl,ok,rfl⟩
 |true=>
  obtain⟨hv,h0,h5⟩:=b2 rfl;obtain⟨s,s1,_⟩:=Of ok (DK ok hv) ⟨h0,h5⟩;have hlt:=Bz s1;have hs:=ok.1.2 s (aw s1);simp only[A7,Av,if_pos h0,s1,al];rw[if_pos ⟨h0,by omega⟩];cases s.up with
  |true=>exact⟨x,1,rfl,ok,rfl⟩
  |false=>exact⟨_,0,rfl,⟨Ou ok.1 (show C9 1048576 ⟨true,s.intact,s.version,s.epoch,s.config,s.first,s.log,s.commit,s.learned⟩ from hs) _,ok.2⟩,Cd⟩
theorem YX(x:oQ)(ok:C0 1048576 x)(id:Int): ∃y n,H7 x id=some (y,n,())/\C0 1048576 y/\y.servers.length=x.servers.length:=by
 obtain⟨b,b1,_,b2⟩:=SP x id ok;unfold H7;simp only[(Fu x ok).1,b1,al,CD];cases b with
 |false=>exact⟨x,1,rfl,ok,rfl⟩
 |true=>obtain⟨hv,h0,h5⟩:=b2 rfl;obtain⟨s,s1,_⟩:=Of ok (DK ok hv) ⟨h0,h5⟩;have hlt:=Bz s1;simp only[A7,Av,if_pos h0,s1,al,Kv];rw[if_pos ⟨h0,by omega⟩];exact⟨_,0,rfl,⟨Ou ok.1 ⟨⟨bL _,bL _⟩,bL _,bL _⟩ _,ok.2⟩,Cd⟩
theorem XK(x:oQ)(ok:C0 1048576 x)(n:Int): ∃y k,IT x n=some (y,k,())/\C0 1048576 y/\y.servers.length=x.servers.length:=by
 obtain⟨v,v1,_⟩:=Ea x ok;unfold IT;simp only[(Fu x ok).1,v1,Dz,al,CD];cases v with
 |false=>exact⟨x,1,rfl,ok,rfl⟩
 |true=>
  simp only[A7];cases Fr n 0 3 with
  |false=>exact⟨x,1,rfl,ok,rfl⟩
  |true=>exact⟨_,0,rfl,ok,rfl⟩
theorem aas(x:oQ)(ok:C0 1048576 x)(a b:Int): ∃y k,IM x a b=some (y,k,())/\C0 1048576 y/\y.servers.length=x.servers.length:=by
 obtain⟨v,v1,_⟩:=Ea x ok;obtain⟨u,u1,_⟩:=JO x.sides (CI ok.2.1)
 have hm: ∃l t,KO x.sides a b=some (l,t,())/\l.length=x.sides.length:=by
  unfold KO;simp only[bC,Av,u1,Dz,al,CD];rw[if_pos (show x.sides.length*8<=2 ^ 40 by have:=ok.2.1;omega)];cases u with
  |false=>exact⟨_,_,rfl,rfl⟩
  |true=>
   simp only[A7];cases hw:Fr a 0 4 with
   |false=>exact⟨_,_,rfl,rfl⟩
   |true=>
    simp only[A7];cases Fr b 0 3 with
    |false=>exact⟨_,_,rfl,rfl⟩
    |true=>have hw:=CG.1 hw;have hl:=HU (CI ok.2.1) u1;simp only[A7];rw[if_pos ⟨hw.1,by omega⟩,an (by omega)];exact⟨_,_,rfl,Cd⟩
 obtain⟨l,t,l1,l2⟩:=hm;unfold IM;simp only[(Fu x ok).1,v1,l1,al,CD];cases v with
 |false=>exact⟨x,1,rfl,ok,rfl⟩
 |true=>
  cases t with
  |false=>exact⟨x,1,rfl,ok,rfl⟩
  |true=>exact⟨_,0,rfl,⟨ok.1,by show l.length<=1048576;rw[l2];exact ok.2.1,ok.2.2⟩,rfl⟩
theorem Uw(x:oQ)(ok:C0 1048576 x)(id:Int): ∃n:Int,Io x id=some (n,())/\(n=0->CC x=some (true,())/\0<=id/\id<5):=by
 obtain⟨v,v1,_⟩:=Ea x ok;unfold Io;simp only[v1,Dz,al,CD];cases v with
 |false=>exact⟨1,rfl,λh=>absurd h (by decide)⟩
 |true=>
  simp only[A7];cases hw:Fr id 0 4 with
  |false=>exact⟨1,rfl,λh=>absurd h (by decide)⟩
  |true=>
   have hw:=CG.1 hw;obtain⟨s,s1,_⟩:=Of ok (DK ok v1) ⟨hw.1,by omega⟩;simp only[A7,Av,if_pos hw.1,s1,al];cases s.up with
   |false=>exact⟨2,rfl,λh=>absurd h (by decide)⟩
   |true=>exact⟨0,rfl,λ_=>⟨trivial,hw.1,by omega⟩⟩
end
section
theorem tn{k n:Nat}(h:k<n): (k:Int).toNat<n:=h
theorem Un(m:md)(ho:m.objects.length<=1000)(hs:m.sessions.length<=1000):Tt (λy=>y.1=true->m.objects.length=3) (Ep m):=by
 have mo:m.objects.length<=maxLen:=by unfold maxLen;omega
 have ms:m.sessions.length<=maxLen:=by unfold maxLen;omega
 unfold Ep;refine .bind (.count (B:=Ek) (E:=Sum.elim (λy=>y.1.2=(false,())) λy=>y.2.1=((m.objects,m.sessions,()),())) m.objects.length (λk (_:Unit)=>(((),(k:Int),()),((m.objects,m.sessions,()),()),())) (λ_ _=>True) (λ_ _=> .end (Cb _) (.ret rfl)) (λk _ hk _=> .go (Ca.2 hk) (.ip (B9 k) (.get (tn hk) λx _ _=> ?_))) () trivial) λy hy=> ?_
 ·rw[Dz,al,CD];exact .br (λ_=> .ret ⟨(),by rw[Ad mo hk],trivial⟩) λ_=> .ret rfl
 cases y with
 |inl y=>exact .ret (by rw[show y.1.2=_ from hy];nofun)
 |inr y=>
  show Tt _ ((Ib (((),0,()),y.2.1,())).bind _);rw[show y.2.1=_ from hy];refine .bind (.count (B:=El) (E:=Sum.elim (λy=>y.1.2=(false,())) λy=>y.2.1=((m.objects,m.sessions,()),())) m.sessions.length (λk (_:Unit)=>(((),(k:Int),()),((m.objects,m.sessions,()),()),())) (λ_ _=>True) (λ_ _=> .end (Cb _) (.ret rfl)) (λk _ hk _=> .go (Ca.2 hk) (.ip (B9 k) (.get (tn hk) λx _ _=> ?_))) () trivial) λy hy=> ?_
  ·simp only[Dz,al,CD]
   have hw: (k:Int)>0->IntKind.wrap .i64 ((k:Int)-1)=(k:Int)-1:=λh=>by unfold maxLen at ms;exact uc (by omega) (by omega)
   refine .br (λ_=> .br (λ_=> .br (λ_=> .br (λh=> ?_) λ_=> .ret ⟨(),by rw[Ad ms hk],trivial⟩) λ_=> .ret rfl) λ_=> .ret rfl) λ_=> .ret rfl;have h:=of_decide_eq_true h;rw[hw h];exact .ip (by omega) (.get (by omega) λ_ _ _=> .br (λ_=> .ret rfl) λ_=> .ret ⟨(),by rw[Ad ms hk],trivial⟩)
  cases y with
  |inl y=>exact .ret (by rw[show y.1.2=_ from hy];nofun)
  |inr y=>show Tt _ (some (((y.2.1.1.1.length:Int)==3),()));rw[show y.2.1=_ from hy];exact .ret λh=>by have : (m.objects.length:Int)=3:=eq_of_beq h;omega
theorem XY(m:md)(c:Int)(hs:m.sessions.length<=1000):Tt (λy=>y.2.1=true-> ∃x∈m.sessions,x.client=c) (JW m c):=by
 have ms:m.sessions.length<=maxLen:=by unfold maxLen;omega
 unfold JW;refine .bind (.count (B:=JG) (E:=Sum.elim (λy=> ∃x∈m.sessions,x.client=c) λ_=>True) m.sessions.length (λk (_:Unit)=>((c,(),(),(k:Int),()),((m.objects,m.sessions,()),(0,0,false,0,()),()),())) (λ_ _=>True) (λ_ _=> .end (Cb _) (.ret trivial)) (λk _ hk _=> .go (Ca.2 hk) (.ip (B9 k) (.get (tn hk) λx _ hx=> .br (λe=> .ip (B9 k) (.get (tn hk) λ_ _ _=> .ret ⟨x,hx,eq_of_beq e⟩)) λ_=> .ret ⟨(),by rw[Ad ms hk],trivial⟩))) () trivial) λy hy=> ?_;cases y with
 |inl y=>exact .ret λ_=>hy
 |inr y=>exact .ret nofun
theorem UB(m:md)(o:Op)(ho:m.objects.length<=1000)(hs:m.sessions.length<=900):Tt (λy=>y.1.sessions.length<=m.sessions.length+1/\y.1.objects.length=m.objects.length) (Jf m o):=by
 obtain⟨⟨b,_⟩,v1,v2⟩:=Un m ho (by omega);unfold Jf
 have cp:M7 m=some (m,()):=by unfold M7;simp only[bC];rw[Ax (by omega),Ax (by omega)]
 rw[cp,al,v1,al,CD,Mw];refine .br (λe=> ?_) λ_=> .ret ⟨cA _,rfl⟩;have h3:=v2 e;rw[al,CD];refine .br (λeo=> .bind (XY m o.client (by omega)) λy hy=> ?_) λ_=> .ret ⟨cA _,rfl⟩;have hob:=V2 (show Dl o=some (true,()) by rw[Mw];rw[show Z7 o=true from eo]);have hle:=YC m.sessions o.client;have hlt:y.2.1=true->Ov m.sessions o.client<m.sessions.length:=λh=>YD (hy h);have hw:IntKind.wrap .i64 (((Ov m.sessions o.client:Nat):Int)+1)=((Ov m.sessions o.client:Nat):Int)+1:=uc (by omega) (by omega);generalize hp:Ov m.sessions o.client=p at hle hlt hw
 have ln: ∀ (k:Nat) (z:me),k<=m.sessions.length+1->p<=k->(m.sessions.take p++ [z] ++(m.sessions.drop k).take (m.sessions.length-k)).length=p+1+(m.sessions.length-k):=λk z h1 h2=>by simp only[bH,cH,cd,cm];omega
 have g0:0<=(p:Int):=B9 p;have g1: (p:Int)<=(m.sessions.length:Int):=Int.ofNat_le.2 hle;have g3:0<=(p:Int)+1:=by omega
 have g2:y.2.1=true->(p:Int)+1<=(m.sessions.length:Int):=λh=>by have:=hlt h;omega
 have l1: (m.sessions.take p).length<=900:=by rw[cH];omega
 extract_lets+lift j44 j45
 have h44:Tt (λy=>y.1.sessions.length<=m.sessions.length+1/\y.1.objects.length=m.objects.length) j44:=by
  unfold j44;refine .ip hob.1 (.get (by show o.object.toNat<_;omega) λx _ _=> .br (λ_=> .ip (by show 0<=o.object/\o.object< (m.objects.length:Int);omega) (.get (by show o.object.toNat<m.objects.length;omega) λ_ _ _=> ?_)) λ_=> .br (λ_=> .ip (by show 0<=o.object/\o.object< (m.objects.length:Int);omega) (.get (by show o.object.toNat<m.objects.length;omega) λ_ _ _=> ?_)) λ_=> ?_)
  all_goals
   show Tt _ ((KB (((),(),(),(),y.2.1,(),0,()),((o.client,o.seq,o.kind,o.object,o.old,o.value,()),((),(),()),(false,0,()),((),(),()),(_,_,()),()),_,m.sessions,())).bind _);rw[aaQ _ _ _ _ _ _ (by omega),hp,al];simp only[hw,bC,aL,ct,B8,show (0:Int).toNat=0 from rfl,Cv,show ((p:Int)+1).toNat=p+1 from rfl];refine .ip ⟨g0,g1,cJ _⟩ (.br (λe=> ?_) λ_=> ?_)
   ·have:=hlt e;refine .ip ⟨g3,g2 e,cJ _⟩ (.ip ⟨cJ _,g0,g1⟩ (.ip hle (.ip (by omega) (.ip (by rw[bH,cm];omega) (.ip (by omega) (.ip (by rw[ln _ _ (by omega) (by omega)];omega) (.ret ⟨?_,by first |rfl|exact Cd⟩)))))));show List.length _<=_;rw[ln _ _ (by omega) (by omega)];omega
   ·refine .ip ⟨cJ _,g0,g1⟩ (.ip hle (.ip (by omega) (.ip (by rw[bH,cm];omega) (.ip (by omega) (.ip (by rw[ln _ _ (by omega) (by omega)];omega) (.ret ⟨?_,by first |rfl|exact Cd⟩))))));show List.length _<=_;rw[ln _ _ (by omega) (by omega)];omega
 have h45:Tt (λy=>y.1.sessions.length<=m.sessions.length+1/\y.1.objects.length=m.objects.length) j45:=.br (λ_=> .br (λ_=> .ret ⟨cA _,rfl⟩) λ_=>h44) λ_=>h44;exact .br (λ_=> .br (λ_=> .ret ⟨cA _,rfl⟩) λ_=>h45) λ_=>h45
theorem TA(l:List pS)(hl:l.length<=maxLen):Tt (λy=>y.1.objects.length<=3/\y.1.sessions.length<=16) (G6 l):=by obtain⟨b,b1,b2⟩:=M8 hl;unfold G6 Ku;rw[al,b1,al,CD];refine .br (λe=> ?_) λ_=> .ret ⟨bL _,bL _⟩;have h16:=b2 e;refine .bind (.count (B:=JE) (E:=λy=>y.2.2.1.length<=3/\y.2.2.2.1.length<=16) l.length (λk (b:List Int×List me)=>((l,(),(),(k:Int),()),(((),(),()),((),(),()),()),b.1,b.2,())) (λk b=>b.1.length<=3/\b.2.length<=k) (λb hb=> .end (Cb _) (.ret ⟨hb.1,aR hb.2 h16⟩)) (λk b hk hb=> .go (Ca.2 hk) (.ip (B9 k) (.get (tn hk) λx _ _=> .bind (UB ⟨b.1,b.2⟩ x.op (aR hb.1 (by omega)) (aR hb.2 (by omega))) λy hy=> .ret ⟨(y.1.objects,y.1.sessions),by rw[Ad hl hk],by rw[hy.2];exact hb.1,aR hy.1 (Nat.succ_le_succ hb.2)⟩))) ([0,0,0],[]) ⟨au _,au _⟩) λy hy=> .ret hy
theorem V4(l:List pS)(i:Int)(hl:l.length<=maxLen):Tt T1 (Ji l i):=by obtain⟨b,b1,b2⟩:=M8 hl;unfold Ji;rw[b1,al,CD];refine .br (λe=> ?_) λ_=> .ret trivial;have h16:=b2 e;rw[uc (n:=(l.length:Int)-1) (by omega) (by omega),Dz,al,CD];refine .br (λh=> ?_) λ_=> .ret trivial;have h:=CG.1 h;refine .ip (by omega) (.bind (TA _ ?_) λy hy=> .ip h.1 (.get (by omega) λx _ _=> .bind (UB _ _ (by omega) (by omega)) λz _=> .ret trivial));refine aR ?_ hl;rw[cH,cd];omega
theorem Og(s:oU)(h:C9 1048576 s)(hf:0<=s.first/\s.first<=16/\s.log.length<=16):Tt (λy=>y.1.length<=16) (Df s):=by
 unfold Df;rw[uc (n:=s.first+(s.log.length:Int)) (by omega) (by omega)];simp only[Dz,al,CD];refine .br (λh1=> ?_) λ_=> .ret (bL _);have h1:=CG.1 h1;refine .br (λ_=> .ret (bL _)) λ_=> ?_;rw[uc (n:=s.commit-s.first) (by omega) (by omega)]
 have hlen: ((s.log.drop (0:Int).toNat).take ((s.commit-s.first).toNat-(0:Int).toNat)).length<=16:=by rw[cH,cd];omega
 refine .ip (by omega) ?_;rw[OE (by omega)];exact .ret hlen
theorem aaw(m:md)(i:Int)(ho:m.objects.length<=1000)(hs:m.sessions.length<=1000):Tt T1 (IR m i):=by obtain⟨⟨b,_⟩,b1,b2⟩:=Un m ho hs;unfold IR;rw[b1,al,CD];refine .br (λe=> ?_) λ_=> .ret trivial;have h3:=b2 e;rw[Dz,al,CD];refine .br (λh=> ?_) λ_=> .ret trivial;have h:=CG.1 h;exact .ip h.1 (.get (by omega) λ_ _ _=> .ret trivial)
theorem TC{s:oU}{id:Int}(h:C9 1048576 s)(hv:CH s id=some (true,())):0<=s.first/\s.first<=16/\s.log.length<=16:=by obtain⟨h1,h2,h3,_⟩:=HV h hv;exact⟨h1,h2,h3⟩
theorem aac(s:oU)(i:Int)(h:C9 1048576 s)(hf:0<=s.first/\s.first<=16/\s.log.length<=16):Tt T1 (KR s i):=by unfold KR;exact .bind (Og s h hf) λy hy=> .bind (TA _ (by unfold maxLen;omega)) λz hz=> .bind (aaw _ _ (by omega) (by omega)) λ_ _=> .ret trivial
theorem ZZ(l:sS)(a b c:Int):Tt T1 (IL l a b c):=by obtain⟨v,v1,_⟩:=Ll l;unfold IL;rw[v1,al,Dz,al];exact .br (λ_=> .br (λ_=> .br (λ_=> .br (λ_=> .br (λ_=> .ret trivial) λ_=> .ret trivial) λ_=> .ret trivial) λ_=> .ret trivial) λ_=> .ret trivial) λ_=> .ret trivial
theorem WL(x:oQ)(ok:C0 1048576 x)(id:Int):Tt T1 (Gf x id):=by obtain⟨b,b1,_,b2⟩:=NJ x ok id;unfold Gf;rw[b1,al];refine .br (λe=> ?_) λ_=> .ret trivial;obtain⟨hv,h0,h5,_⟩:=b2 e;exact .srv ok (DK ok hv) ⟨h0,h5⟩ λs _ _ _=> .bind (ZZ _ _ _ _) λ_ _=> .ret trivial
theorem U3(x:oQ)(ok:C0 1048576 x)(id i:Int):Tt T1 (JT x id i):=by obtain⟨n,n1,n2⟩:=Uw x ok id;unfold JT;rw[n1,al,CD];refine .br (λe=> ?_) λ_=> .ret trivial;obtain⟨hv,h0,h5⟩:=n2 (eq_of_beq e);have vc:=DK ok hv;rw[Dz,al,CD];refine .br (λ_=> .srv ok vc ⟨h0,h5⟩ λs _ s2 _=> ?_) λ_=> .ret trivial;obtain⟨b,b1,_⟩:=Jv s id s2;rw[b1,al,CD];refine .br (λ_=> .bind (WL x ok id) λy _=> ?_) λ_=> .ret trivial;rw[CD];exact .br (λ_=> .srv ok vc ⟨h0,h5⟩ λs _ s2 s3=> .bind (aac s i s2 (TC s2 s3)) λ_ _=> .ret trivial) λ_=> .ret trivial
end
section
def Kp(x y:oQ):Prop:=C0 1048576 y/\y.servers.length=x.servers.length
theorem Kp.self{x:oQ}(ok:C0 1048576 x):Kp x x:=⟨ok,rfl⟩
theorem Kp.trans{x y z:oQ}(h:Kp x y)(k:Kp y z):Kp x z:=⟨k.1,k.2.trans h.2⟩
theorem Kp.srvs{x y:oQ}(h:Kp x y){S:List oU}(hl:S.length=y.servers.length)(hs: ∀s∈S,C9 1048576 s):Kp x ⟨y.now,S,y.sides,y.master,y.masterUp,y.lease,y.places⟩:=
 ⟨⟨⟨by rw[hl];exact h.1.1.1,hs⟩,h.1.2⟩,hl.trans h.2⟩
theorem Kp.set{x y:oQ}(h:Kp x y){s:oU}(hs:C9 1048576 s)(i:Nat):Kp x ⟨y.now,y.servers.set i s,y.sides,y.master,y.masterUp,y.lease,y.places⟩:=
 h.srvs Cd (Ou h.1.1 hs i).2
theorem Tt.at{α:Type}{Q:α->Prop}{l:List oU}(h5:l.length=5){a:Int}(ha:0<=a/\a<5){k:oU->Option α}(h: ∀s,l[a.toNat]? =some s->s∈l->Tt Q (k s)):Tt Q (iteP (0<=a/\a< (l.length:Int)) ((l[a.toNat]?).bind k) none):=
 .ip (by rw[h5];exact ha) (.get (by omega) h)
theorem ZY(x:oQ)(ok:C0 1048576 x)(id:Int):Tt T1 (HH x id):=by obtain⟨b,b1,_,b2⟩:=NJ x ok id;unfold HH;rw[b1,al,CD];refine .br (λe=> ?_) λ_=> .ret trivial;obtain⟨hv,h0,h5,_⟩:=b2 e;have vc:=DK ok hv;refine .srv ok vc ⟨h0,h5⟩ λs _ s2 _=> .bind (Ma _ (CJ s2.1)) λy hy=> .bind (.count (B:=HW) (E:=λ_=>True) y.1.length (λk (b:Int)=>(((),b,(),(k:Int),()),(fx x,()),y.1,())) (λ_ _=>True) (λ_ _=> .end (Cb _) (.ret trivial)) (λk b hk _=> .go (Ca.2 hk) (.ip ⟨B9 k,Ca.2 hk⟩ (.get (tn hk) λz _ hz=> .srv ok vc (hy.2 z hz) λt _ _ _=> .ret ⟨_,by rw[Ad (by have:=hy.1;unfold maxLen;omega) hk],trivial⟩))) 2 trivial) λ_ _=> .ret trivial
theorem X9(x:oQ)(ok:C0 1048576 x)(id:Int)(o:Op):Tt (λy=>Kp x y.1/\(y.2.1=0->y.1.servers.length=5/\0<=id/\id<5)) (FR x id o):=by
 obtain⟨v,v1,_⟩:=Ea x ok;unfold FR;rw[(Fu x ok).1,al,v1,al,CD];have bad: ∀n:Int,n≠0->Tt (λy:oQ×Int×Unit=>Kp x y.1/\(y.2.1=0->y.1.servers.length=5/\0<=id/\id<5)) (some (x,n,())):=λn hn=> .ret ⟨.self ok,λh=>absurd h hn⟩;refine .br (λe=> ?_) λ_=>bad 1 (by decide);subst e;have vc:=DK ok v1;rw[Dz,al,CD];refine .br (λh=> ?_) λ_=>bad 1 (by decide);have h:=CG.1 h;have hid:0<=id/\id<5:=by omega
 rw[Mw,al,CD];refine .br (λ_=> .srv ok vc hid λs s1 s2 s3=> ?_) λ_=>bad 1 (by decide);rw[CD];refine .br (λ_=> ?_) λ_=>bad 2 (by decide);obtain⟨b,b1,_⟩:=Jv s id s2;rw[b1,al,CD];refine .br (λ_=> .bind (YT s.log _ _ (CI s2.2.1)) λy hy=> ?_) λ_=>bad 3 (by decide);have good: ∀n:Int,Tt (λy:oQ×Int×Unit=>Kp x y.1/\(y.2.1=0->y.1.servers.length=5/\0<=id/\id<5)) (some (x,n,())):=λn=> .ret ⟨.self ok,λ_=>⟨vc.len,hid⟩⟩
 extract_lets+lift j17 j18
 have h17:Tt (λy=>Kp x y.1/\(y.2.1=0->y.1.servers.length=5/\0<=id/\id<5)) j17:=by
  unfold j17;refine .at vc.len hid λs' e' hs'=> ?_;show Tt _ ((x.servers[id.toNat]?).bind _);rw[e',al];have hs:=ok.1.2 s' hs';have hs3:=hs.2.1;obtain rfl:s'=s:=by rw[s1] at e';exact (Option.some.inj e').symm
  have hl:=(TC s2 s3).2.2;refine .ip rfl ?_;have e1: ∀X Y:Option (oQ×Int×Unit),iteP (s'.log.length<s'.log.length) X Y=Y:=λX Y=>by rw[Av,if_neg (dg _)]
  rw[e1]
  have hl2: (s'.log.take s'.log.length++([(⟨s'.epoch,o⟩:pS)]:List pS)).length<=17:=by rw[bH,cH,cm];omega
  refine .ip (by omega) (.ip (by show 0<=id/\id< (x.servers.length:Int);rw[vc.len];exact hid) (.ip rfl (.ret ⟨(Kp.self ok).set (s:=⟨s'.up,s'.intact,s'.version,s'.epoch,s'.config,s'.first,s'.log.take s'.log.length++ [⟨s'.epoch,o⟩],s'.commit,s'.learned⟩) ⟨hs.1,aR hl2 (by omega),hs.2.2⟩ _,λ_=>⟨by show (x.servers.set _ _).length=5;rw[Cd];exact vc.len,hid⟩⟩)))
 have h18:Tt (λy=>Kp x y.1/\(y.2.1=0->y.1.servers.length=5/\0<=id/\id<5)) j18:=by unfold j18;refine .bind (TA s.log (CI s2.2.1)) λm hm=> .bind (UB m.1 o (by omega) (by omega)) λz _=> ?_;rw[CD];refine .br (λ_=> .bind (Q:=T1) (by unfold Ff;exact .ret trivial) λw _=> ?_) λ_=>good 11;exact .br (λ_=> .bind (ZY x ok id) λ_ _=> .br (λ_=>good 6) λ_=> .br (λ_=>good 5) λ_=>h17) λ_=> .br (λ_=>good 5) λ_=>h17
 refine .br (λh=> .ip (of_decide_eq_true h) (.get ?_ λe _ _=> ?_)) λ_=> .br (λ_=>good 0) λ_=>h18
 ·have h:=of_decide_eq_true h;omega
 ·rw[CD];exact .br (λ_=> .br (λ_=>good 0) λ_=>h18) λ_=>good 11
theorem aav(x:oQ)(ok:C0 1048576 x)(id m:Int):Tt (λy=>Kp x y.1/\(y.2.1=true->0<=m/\m<5)) (G5 x id m):=by
 obtain⟨b,b1,_,b2⟩:=NJ x ok id;have bad:Tt (λy:oQ×Bool×Unit=>Kp x y.1/\(y.2.1=true->0<=m/\m<5)) (some (x,false,())):=.ret ⟨.self ok,nofun⟩;unfold G5;rw[(Fu x ok).1,al,b1,al,CD];refine .br (λe=> ?_) λ_=>bad;obtain⟨hv,h0,h5,hp⟩:=b2 e;have vc:=DK ok hv;refine .srv ok vc ⟨h0,h5⟩ λs s1 s2 s3=> .bind (Ma _ (CJ s2.1)) λy hy=> ?_;rw[(C8 y.1 m (by have:=hy.1;unfold maxLen;omega)).1,al,CD];refine .br (λhm=> ?_) λ_=>bad;have hm:=hy.2 m (of_decide_eq_true hm);refine .bind (WY ok vc ⟨h0,h5⟩ hm) λz _=> ?_;rw[CD];refine .br (λ_=> .srv ok vc ⟨h0,h5⟩ λt t1 t2 t3=> .srv ok vc ⟨h0,h5⟩ λu _ u2 _=> ?_) λ_=>bad;obtain⟨n,n1,_⟩:=Kg u.config m (CJ u2.1);rw[n1,al];have five: ∀ (i:Nat) (s:oU),(x.servers.set i s).length=5:=λi s=>by rw[Cd];exact vc.len
 refine .br (λ_=> ?_) λ_=> ?_
 ·rw[XT t.log t2.2.1 (HV t2 t3).2.2.2.2.2.1,al];refine .ip (by show 0<=m/\m< (x.servers.length:Int);rw[vc.len];exact hm) (.at vc.len hm λw _ hw=> ?_);have hw:=ok.1.2 w hw;refine .get (by rw[five];omega) λw' _ hw'=> .ret ⟨.srvs (.self ok) (by rw[Cd,Cd]) λs hs=> ?_,λ_=>hm⟩;have all:=(Ou ok.1 (s:=⟨w.up,w.intact,w.version,w.epoch,w.config,((cutAt t.log:Nat):Int),w.log,w.commit,w.learned⟩) hw m.toNat)
  have hw':=all.2 w' hw';exact (Ou all (s:=⟨w'.up,w'.intact,w'.version,w'.epoch,w'.config,w'.first,t.log.drop (cutAt t.log),w'.commit,w'.learned⟩) ⟨hw'.1,by show List.length _<=_;rw[cd];have:=t2.2.1;omega,hw'.2.2⟩ m.toNat).2 s hs
 ·rw[OE t2.2.1,al];exact .at vc.len hm λw _ hw=> .ret ⟨(Kp.self ok).set (s:=⟨w.up,w.intact,w.version,w.epoch,w.config,w.first,t.log,w.commit,w.learned⟩) ⟨(ok.1.2 w hw).1,t2.2.1,(ok.1.2 w hw).2.2⟩ _,λ_=>hm⟩
theorem Vp{l:List oU}(h:l.length=5/\ ∀s∈l,C9 1048576 s){s:oU}(hs:C9 1048576 s)(i:Nat): (l.set i s).length=5/\ ∀t∈l.set i s,C9 1048576 t:=⟨by rw[Cd];exact h.1,λt ht=>(cL ht).elim (h.2 t) λe=>e ▸ hs⟩
abbrev fz:Int×Unit×Unit×Unit×Int×Int×Int×Int×Int×Unit×Unit:=(0,(),(),(),0,0,0,0,0,(),())
abbrev fc(x:oQ):Int×Unit×Unit×Unit×Int×Int×Int×Int×Int×Unit×Unit:=(x.now,(),(),(),x.master.activated,x.masterUp,x.lease.epoch,x.lease.holder,x.lease.ends,(),())
theorem Vw(x:oQ)(ok:C0 1048576 x)(id:Int):Tt (λy=>Kp x y.1) (FJ x id):=by
 obtain⟨b,b1,_,b2⟩:=NJ x ok id;unfold FJ;rw[(Fu x ok).1,al,b1,al,CD];refine .br (λe=> ?_) λ_=> .ret (.self ok);obtain⟨hv,h0,h5,hp⟩:=b2 e;have vc:=DK ok hv;refine .srv ok vc ⟨h0,h5⟩ λs s1 s2 s3=> .bind (Ma _ (CJ s2.1)) λy hy=> ?_;have hl:y.1.length<=maxLen:=by have:=hy.1;unfold maxLen;omega
 refine .bind (.count (B:=GU) (E:=λe=> ∃ (c:oQ) (a:Bool),Kp x c/\e=((id,(),(),(),a,()),(fz,fc c,()),y.1,c.servers,c.sides,c.master.configs,c.places,())) y.1.length (λk (b:oQ×Bool)=>((id,(),(),(),b.2,(k:Int),()),(fz,fc b.1,()),y.1,b.1.servers,b.1.sides,b.1.master.configs,b.1.places,())) (λ_ b=>Kp x b.1) (λb hb=> .end (Cb _) (.ret ⟨b.1,b.2,hb,rfl⟩)) (λk b hk hb=> .go (Ca.2 hk) (.ip ⟨B9 k,Ca.2 hk⟩ (.get (tn hk) λz _ hz=> .bind (aav b.1 hb.1 id z) λw hw=> .br (λ_=> .ret ⟨(w.1,w.2.1),by rw[Ad hl hk],hb.trans hw.1⟩) λ_=> .ret ⟨(w.1,false),by rw[Ad hl hk],hb.trans hw.1⟩))) (x,true) (.self ok)) ?_
 rintro _ ⟨c,a,hc,rfl⟩
 refine .bind (.count (B:=Gm) (E:=λe=> ∃ (c:oQ) (a:Bool),Kp x c/\e=(((),(),a,()),(fz,fc c,()),c.servers,c.sides,c.master.configs,c.places,())) y.1.length (λk (b:List oU)=>((id,(),(),(),a,(k:Int),()),(fz,fc c,()),y.1,b,c.sides,c.master.configs,c.places,())) (λ_ b=>b.length=5/\ ∀s∈b,C9 1048576 s) (λb hb=> .end (Cb _) (.ret ⟨⟨c.now,b,c.sides,c.master,c.masterUp,c.lease,c.places⟩,a,hc.srvs (by rw[hb.1,hc.2,vc.len]) hb.2,rfl⟩)) (λk b hk hb=> .go (Ca.2 hk) (.br (λ_=> .ip ⟨B9 k,Ca.2 hk⟩ (.get (tn hk) λz _ hz=> .at hb.1 ⟨h0,h5⟩ λp _ _=> .at hb.1 (hy.2 z hz) λq _ hq=> .ret ⟨b.set z.toNat ⟨q.up,q.intact,q.version,q.epoch,q.config,q.first,q.log,((p.log.length:Nat):Int),q.learned⟩,by rw[Ad hl hk],Vp hb (s:=⟨q.up,q.intact,q.version,q.epoch,q.config,q.first,q.log,((p.log.length:Nat):Int),q.learned⟩) (hb.2 q hq) _⟩)) λ_=> .ret ⟨⟨c.now,b,c.sides,c.master,c.masterUp,c.lease,c.places⟩,a,hc.srvs (by rw[hb.1,hc.2,vc.len]) hb.2,rfl⟩)) c.servers ⟨hc.2.trans vc.len,hc.1.1.2⟩) ?_
 rintro _ ⟨d,a',hd,rfl⟩
 exact .ret hd
theorem Yb(x:oQ)(ok:C0 1048576 x)(id:Int)(o:Op):Tt (λy=>Kp x y.1) (KL x id o):=by
 unfold KL;refine .bind (X9 x ok id o) λy hy=> ?_;rw[CD];refine .br (λe=> ?_) λ_=> .ret hy.1;obtain⟨h5,hid⟩:=hy.2 (eq_of_beq e)
 have same: ∀ {α:Type} {Q:α->Prop} {l:List oU} {k:oU->oU->Option α},l.length=5->(∀s∈l,C9 1048576 s)->(∀s,C9 1048576 s->Tt Q (k s s))->Tt Q (iteP (0<=id/\id< (l.length:Int)) ((l[id.toNat]?).bind λa=>(l[id.toNat]?).bind λb=>k a b) none):=λh5 hs h=> .at h5 hid λs e1 e2=>by rw[e1,al];exact h s (hs s e2)
 have yH: ∀s:oU,(s.log.drop 0).take s.log.length=s.log:=λs=>by rw[ct,Ce]
 refine same h5 hy.1.1.1.2 λs hs=> .ip (by omega) ?_;rw[yH];refine .bind (YT _ _ _ (CI hs.2.1)) λi _=> .at h5 hid λt _ _=> .br (λ_=> .bind (Vw y.1 hy.1.1 id) λz hz=> ?_) λ_=>same h5 hy.1.1.1.2 λs hs=> .ip (by omega) ?_
 ·rw[CD];refine .br (λ_=>same (hz.2.trans h5) hz.1.1.2 λs hs=> .ip (by omega) ?_) λ_=> .ret (hy.1.trans hz);rw[yH];exact .bind (V4 _ _ (CI hs.2.1)) λ_ _=> .ret (hy.1.trans hz)
 ·rw[yH];exact .bind (V4 _ _ (CI hs.2.1)) λ_ _=> .ret hy.1
end
end Go.Proofs.YtkghndikalnipabGreat.En
