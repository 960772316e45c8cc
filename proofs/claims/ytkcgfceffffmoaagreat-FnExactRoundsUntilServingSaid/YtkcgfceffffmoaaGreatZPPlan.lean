/- Placement: racks, a spare server, the members planned, the next configuration. -/
import Derived.Test.YtkcgfceffffmoaaGreatZPServe
import Derived.Test.YtkcgfceffffmoaaGreatZPCan
import Derived.Test.YtkcgfceffffmoaaGreatZPUpg
namespace Go.Proofs.YtkcgfceffffmoaaGreat.En
open Go
theorem Hn {σ1 ε1 σ2 ε2 β:Type} {B1:σ1->Option (σ1⊕ε1)} {B2:σ2->Option (σ2⊕ε2)} (n:Nat) (m1:Nat->β->σ1) (m2:Nat->β->σ2) (J:Nat->β->Prop) (E1:β->ε1) (E2:β->ε2)
  (h0: ∀ b,J n b->B1 (m1 n b)=some (.inr (E1 b))/\B2 (m2 n b)=some (.inr (E2 b)))
  (h1: ∀ k b,k < n->J k b-> ∃ b',B1 (m1 k b)=some (.inl (m1 (k+1) b'))/\B2 (m2 k b)=some (.inl (m2 (k+1) b'))/\J (k+1) b')
  (b:β) (hb:J 0 b): ∃ b',J n b'/\mw B1 (m1 0 b)=some (E1 b')/\mw B2 (m2 0 b)=some (E2 b'):=by
 have go: ∀ (d k:Nat) (b:β),k+d=n->J k b-> ∃ b',J n b'/\mw B1 (m1 k b)=some (E1 b')/\mw B2 (m2 k b)=some (E2 b'):=by
  intro d
  induction d with
  | zero=>
    intro k b hk hj;have :k=n:=by omega
    subst this;exact⟨b,hj,kF (h0 b hj).1,kF (h0 b hj).2⟩
  | succ d ih=>
    intro k b hk hj;obtain⟨b',p1,p2,p3⟩:=h1 k b (by omega) hj;obtain⟨c,q1,q2,q3⟩:=ih (k+1) b' (by omega) p3;exact⟨c,q1,by rw [rd p1]; exact q2,by rw [rd p2]; exact q3⟩
 exact go n 0 b (by omega) hb
theorem aqw (l:List ey) (hl:l.length<=maxLen) (hv:kB l=some (true,())) (m:List Int) (hm:MH m) (h1:jw m=some (true,())) (h2:jx m=some (true,())): ∃ r,Df l m=some (r,())/\Dm l m=some (r,())/\r.length<=5:=by
 have h5:=Vg hl hv
 have hp2:mA l=some (true,()):=by
  obtain⟨b,a1,a2⟩:=Ds l hl;rw [hv] at a1;simp only [af,aq,and_true] at a1;subst a1;exact a2
 have ml:=hm.len;have mm:m.length<=maxLen:=by unfold maxLen; omega
 let R:List Int:=m.map fun id=>match l[id.toNat]? with | some p=>p.rack | none=>0
 have hR:R.length=m.length:=by simp [R]
 have at_: ∀ k,(hk:k < m.length)-> ∃ p,l[m[k].toNat]? =some p/\0<=m[k] /\R[k]? =some p.rack:=by
  intro k hk;have hr:=(hm k hk).1;have hlt:m[k].toNat < l.length:=by omega
  refine⟨_,ai hlt,hr.1,?_⟩;simp only [R,ar,ai hk,aH,ai hlt]
 obtain⟨r,r1,r2,r3,r4⟩:=aoY (B:=pu) (mk:=fun k v=>((l,m,(),(k:Int),()),(),(v,()))) (E:=fun v=>(((),()),(),(v,()))) R (by omega)
  (fun v=>by simp only [pu,BZ,Ff]; rw [ec,if_neg (by omega)])
  (fun k v x hx=>by
    have hk:k < m.length:=by
     have:=nG hx;omega
    have c1: (k:Int) < (m.length:Int):=by omega
    have c2: (0:Int)<=(k:Int):=by omega
    obtain⟨p,p1,p2,p3⟩:=at_ k hk;rw [hx] at p3;have p3:=Option.some.inj p3;simp only [pu,BZ,Ff,ec,ew,ez,if_pos c1,if_pos c2,aw,ai hk,ae,hv,h1,if_pos p2,p1,eB mm hk,p3])
  [] List.Pairwise.nil (aK _)
 have kI:=mU (B:=pI) m (fun k (v:List Int)=>((l,(),m,(m.length:Int),(k:Int),()),(),(v,()))) (fun k v=>v=R.take k) (fun _ _ _=>(((),()),(),(R,())))
  (fun v h=>by
    simp only [pI,CA,Ft];rw [ec,if_neg (by omega),h,bi (by omega)])
  (fun k v x hx h=>by
    have hk:=nG hx;have c1: (k:Int) < (m.length:Int):=by omega
    have c2: (0:Int)<=(k:Int):=by omega
    obtain⟨p,p1,p2,p3⟩:=at_ k hk;have h40: (v++ [p.rack]).length*8<=2 ^ 40:=qA (by rw [h]; simp; omega);simp only [pI,CA,Ft,ec,ez,if_pos c1,if_pos c2,aw,ai hk,ae,if_pos p2,p1,eB mm hk,if_pos h40];refine .inl ⟨v++ [p.rack],rfl,?_,trivial⟩;rw [h,lG p3])
  0 [] (aK _) rfl
 obtain⟨s,s1,s2,s3,s4⟩:=adY R (by omega);have hrs:r=s:=r2.uniq s2 fun y=>by rw [r3,s3]; simp
 subst hrs;unfold Df Ji Dm JE;rw [show GW ((l,m,(),0,()),(),([],()))=_ from r1];simp only [hp2,h2,ae,bw,fA];rw [show Ha ((l,(),m,(m.length:Int),0,()),(),([],()))=_ from kI];simp only [ae,s1];exact⟨r,rfl,rfl,by omega⟩
theorem akK {l:List Int} (h:SS l) (hr: ∀ y∈l,0<=y/\y < 5):MH l:=by
 intro k hk;have:=hr _ (bc hk);exact⟨by omega,fun h0=>bI.1 h _ _ (by omega) hk (by omega)⟩
theorem ags {l:List Int} (h:MH l):jw l=some (true,())/\jx l=some (true,()):=by
 have hl:=h.len;have hm:l.length<=maxLen:=by unfold maxLen; omega
 obtain⟨_,_,h1,h2⟩:=Hn (B1:=jE) (B2:=jL) l.length (fun k (_:Unit)=>((l,(k:Int),()),(),())) (fun k _=>((l,l,(l.length:Int),(k:Int),()),(),())) (fun _ _=>True) (fun _=> .inr (((),()),(),())) (fun _=> .inr (((),()),(),()))
  (fun _ _=>by
    simp only [jE,oX,qH,jL,o5,qQ,ec];exact⟨if_neg (by omega),if_neg (by omega)⟩)
  (fun k _ hk _=>by
    have c1: (k:Int) < (l.length:Int):=by omega
    have c2: (0:Int)<=(k:Int):=by omega
    obtain⟨r1,r2⟩:=h k hk;have w:sP l[k] 0 4=true:=jD.2 r1;refine⟨(),?_⟩;simp only [jE,oX,qH,jL,o5,qQ,ec,ez,if_pos c1,if_pos c2,aw,ai hk,ae,vk,z6,w,bw,fA,eB hm hk];by_cases h0:0 < k
    ·have c3: (k:Int) > 0:=by omega
     have c4: (0:Int)<=((k - 1:Nat):Int):=by omega
     have e2:l[k - 1]? =some l[k - 1] :=ai (by omega);have:=r2 h0;simp only [if_pos c3,vm h0 (by omega),if_pos c4,aw,e2,ae,if_neg (show ¬ l[k - 1] ≥l[k] by omega),if_neg (show ¬ l[k] <=l[k - 1] by omega),and_self]
    ·simp only [if_neg (show ¬ (k:Int) > 0 by omega),and_self])
  () trivial
 unfold jw zm jx zC;rw [show sV ((l,0,()),(),())=_ from h1,show tw ((l,l,(l.length:Int),0,()),(),())=_ from h2];exact⟨rfl,rfl⟩
theorem adZ (l:List ey) (hl:l.length<=maxLen) (hv:kB l=some (true,())) (m a:List Int) (hm:MH m) (ha:a.length<=maxLen): ∃ n,pv l m a=some (n,())/\pJ l m a=some (n,())/\(n= -1\/(0<=n/\n < 5/\n∉m)):=by
 have h5:=Vg hl hv;obtain⟨h1,h2⟩:=ags hm;obtain⟨r,r1,r2,r3⟩:=aqw l hl hv m hm h1 h2;have ml:=hm.len;have mm:m.length<=maxLen:=by unfold maxLen; omega
 have rm:r.length<=maxLen:=by unfold maxLen; omega
 obtain⟨n,n1,n2,n3⟩:=Hn (B1:=mM) (B2:=mQ) 5 (fun k (b:Int)=>((l,m,a,b,(),(k:Int),()),(),(r,()))) (fun k b=>((l,m,a,b,(),(k:Int),()),(),(r,()))) (fun _ b=>b= -1\/(0<=b/\b < 5/\b∉m)) (fun b=>((b,()),(),())) (fun b=>((b,()),(),()))
  (fun b hb=>by
    simp only [mM,w8,B0,mQ,xG,CB,ec];exact⟨if_neg (by omega),if_neg (by omega)⟩)
  (fun k b hk hb=>by
    have c1: (k:Int) < 5:=by omega
    have c2: (0:Int)<=(k:Int):=by omega
    have hlt:k < l.length:=by omega
    obtain⟨q1,q2⟩:=aqv l hl hv k hk;obtain⟨t1,t2⟩:=kP m (k:Int) mm;obtain⟨u1,u2⟩:=kP a (k:Int) ha;obtain⟨w1,w2⟩:=kP r l[k].rack rm;have sw:=eB (n:=5) (by decide) hk;simp only [mM,w8,B0,mQ,xG,CB,ec,iq,if_pos c1,h1,ew,ae,q1,q2,t1,t2,u1,u2,sw];cases agr l k with
    | false=>exact⟨b,rfl,rfl,hb⟩
    | true=>
      by_cases hmem: (k:Int)∈m
      ·simp only [ew,if_pos hmem];exact⟨b,rfl,rfl,hb⟩
      ·have hk': (k:Int)= -1\/(0<=(k:Int)/\(k:Int) < 5/\(k:Int)∉m):= .inr ⟨c2,c1,hmem⟩;by_cases hav: (k:Int)∈a
       ·simp only [ew,if_neg hmem,if_pos hav];exact⟨b,rfl,rfl,hb⟩
       ·simp only [ew,if_neg hmem,if_neg hav];rcases hb with rfl | ⟨b0,b5,bm⟩
        ·simp only [if_pos (show (-1:Int) < 0 by omega)];exact⟨k,rfl,rfl,hk'⟩
        ·have hbl:b.toNat < l.length:=by omega
         obtain⟨z1,z2⟩:=kP r l[b.toNat].rack rm;simp only [if_neg (show ¬ b < 0 by omega),Dh,GX,ez,if_pos c2,if_pos b0,aw,ai hlt,ai hbl,ae,w1,w2,z1,z2,iq];by_cases e1:l[k].rack∈r <;> by_cases e2:l[b.toNat].rack∈r <;> by_cases e3:l[k].load < l[b.toNat].load <;> simp only [e1,e2,e3,decide_true,decide_false,beq_self_eq_true,ew,fA,if_true,if_false,bw,dJ,beq_iff_eq]
         all_goals first | exact⟨k,rfl,rfl,hk'⟩ | exact⟨b,rfl,rfl, .inr ⟨b0,b5,bm⟩⟩)
  (-1) (.inl rfl)
 unfold pv Fg pJ Fu;simp only [r1,r2,h2,ae,bw,fA];rw [show DA ((l,m,a,(-1),(),0,()),(),(r,()))=_ from n2,show DS ((l,m,a,(-1),(),0,()),(),(r,()))=_ from n3];exact⟨n,rfl,rfl,n1⟩
end Go.Proofs.YtkcgfceffffmoaaGreat.En
