/- Plain laws. -/
import Derived.Test.YtkghndikalnipacGreatZBX
set_option linter.unusedSimpArgs false
set_option linter.unusedVariables false
namespace Go.Proofs.YtkghndikalnipacGreat.En
open Go
section
def Ik[dE](c:qh):Prop:=∃l,kN c.b=some l/\l.length<=maxLen/\(∀m∈l,0<=m/\m<=255)/\0<=c.i/\c.i<=c.b.n
def Dn[dE]{α:Type}(Q:α->Prop)(r:Option (List qh×α)):Prop:=∃c a,r=some ([c],a)/\Ik c/\Q a
section
variable [dE] {α β:Type} {Q:α->Prop} {Q':β->Prop}
theorem Dn.ret{c:qh}{a:α}(hc:Ik c)(h:Q a):Dn Q (some ([c],a)):=⟨c,a,rfl,hc,h⟩
theorem Dn.bind{r:Option (List qh×α)}{k:List qh×α->Option (List qh×β)}(h:Dn Q r)(hk: ∀c a,Ik c->Q a->Dn Q' (k ([c],a))):Dn Q' (r.bind k):=by obtain⟨c,a,rfl,h1,h2⟩:=h;exact hk c a h1 h2
theorem Dn.mono{Q2:α->Prop}{r:Option (List qh×α)}(h:Dn Q r)(hq: ∀a,Q a->Q2 a):Dn Q2 r:=by obtain⟨c,a,h1,h2,h3⟩:=h;exact⟨c,a,h1,h2,hq a h3⟩
theorem Dn.iteP{p:Prop}[Decidable p]{x y:Option (List qh×α)}(hp:p)(h:Dn Q x):Dn Q (iteP p x y):=by rw[B0 hp];exact h
theorem Dn.br{b:Bool}{x y:Option (List qh×α)}(h1:b=true->Dn Q x)(h2:b=false->Dn Q y):Dn Q (br b x y):=by
 cases b with
 |true=>exact h1 rfl
 |false=>exact h2 rfl
theorem Dn.get{γ:Type}{l:List γ}{i:Nat}{k:γ->Option (List qh×α)}(hi:i<l.length)(h: ∀x∈l,Dn Q (k x)):Dn Q ((l[i]?).bind k):=by rw[aq hi];exact h _ (DF hi)
end
theorem TF(x:Int):0<=bits .and .i64 x 255/\bits .and .i64 x 255<=255:=by
 have h: (BitVec.ofInt 64 x&&& BitVec.ofInt 64 255).toNat<=255:=by rw[BitVec.toNat_and];exact Nat.and_le_right
 show 0<=IntKind.wrap .i64 _/\IntKind.wrap .i64 _<=255;have e:IntKind.wrap .i64 ((BitVec.ofInt 64 x&&& BitVec.ofInt 64 255).toNat:Int)=((BitVec.ofInt 64 x&&& BitVec.ofInt 64 255).toNat:Int):=vM (by omega) (by omega);have e2:bits .and .i64 x 255=IntKind.wrap .i64 ((BitVec.ofInt 64 x&&& BitVec.ofInt 64 255).toNat:Int):=rfl;rw[<-e2] at e;constructor
 ·show 0<=bits .and .i64 x 255;omega
 ·show bits .and .i64 x 255<=255;omega
theorem VQ{x n:Int}(hx:0<=x)(hn:0<n):0<=x.tmod n/\x.tmod n<n:=⟨Int.tmod_nonneg _ hx,Int.tmod_lt_of_pos _ hn⟩
section
variable [dE]
theorem ZI{x:Hd}{l:List Int}(h:kN x=some l)(hl:l.length<=maxLen)(hb: ∀m∈l,0<=m/\m<=255):Dn (λ_:Unit=>True) (SN x):=by unfold SN C2;rw[h];exact⟨_,(),rfl,⟨l,h,hl,hb,cU _,DD _⟩,trivial⟩
theorem OX{c:qh}(h:Ik c):Dn (λy:Int×Unit=>0<=y.1/\y.1<=255) (MB [c]):=by
 obtain⟨l,h1,h2,h3,h4,h5⟩:=h;show Dn _ ((CH c).map λy=>([y.1],y.2,()));unfold CH;have hlen:=(Ba h1).1;by_cases hi:c.i< (c.b.n:Int)
 ·rw[if_pos hi,if_pos h4,h1,ao,aq (by omega)];refine⟨_,_,rfl,⟨l,h1,h2,h3,?_,?_⟩,TF _⟩
  ·show 0<=RowKit.wrap64 (c.i+1);unfold RowKit.wrap64;simp only[maxLen] at h2;omega
  ·show RowKit.wrap64 (c.i+1)<=c.b.n;unfold RowKit.wrap64;simp only[maxLen] at h2;omega
 ·rw[if_neg hi];exact⟨_,_,rfl,⟨l,h1,h2,h3,h4,h5⟩,TF _⟩
theorem Mx{c:qh}(h:Ik c)(n:Int):Dn (λy:Int×Unit=>0<=y.1/\(y.1<n\/n<=0/\y.1=0)) (EA [c] n):=by
 unfold EA;refine .br (λhn=> .ret h ⟨cU _,.inr ⟨of_decide_eq_true hn,rfl⟩⟩) λhn=> ?_;have hn:=of_decide_eq_false hn;refine .br (λ_=> .bind (OX h) λc1 y h1 hy=> .iteP rfl ?_) λ_=> .bind (OX h) λc1 y h1 hy=> .iteP rfl (.bind (OX h1) λc2 y2 h2 hy2=> .iteP rfl (.bind (OX h2) λc3 y3 h3 hy3=> .iteP rfl (.bind (OX h3) λc4 y4 h4 hy4=> .iteP rfl ?_)))
 ·rw[BZ (by omega)];have:=VQ hy.1 (show 0<n by omega);exact .ret h1 ⟨this.1,.inl this.2⟩
 ·rw[BZ (by omega)];simp only;rw[vM (n:=y.1*16777216) (by omega) (by omega),vM (n:=y2.1*65536) (by omega) (by omega),vM (n:=y3.1*256) (by omega) (by omega),vM (n:=y.1*16777216+y2.1*65536) (by omega) (by omega),vM (n:=y.1*16777216+y2.1*65536+y3.1*256) (by omega) (by omega),vM (n:=y.1*16777216+y2.1*65536+y3.1*256+y4.1) (by omega) (by omega)];have:=VQ (show 0<=y.1*16777216+y2.1*65536+y3.1*256+y4.1 by omega) (show 0<n by omega);exact .ret h4 ⟨this.1,.inl this.2⟩
theorem Ob{c:qh}(h:Ik c){n:Int}(hn:0<n):Dn (λy:Int×Unit=>0<=y.1/\y.1<n) (EA [c] n):=(Mx h n).mono λy hy=>⟨hy.1,by omega⟩
theorem QC{c:qh}(h:Ik c)(n:Int):Dn (λ_:Bool×Unit=>True) (KD [c] n):=by unfold KD;exact .bind (Mx h n) λc1 y h1 hy=> .iteP rfl (.ret h1 trivial)
theorem To{c:qh}(h:Ik c){l:List Int}(hl:l≠ []):Dn (λy:Int×Unit=>y.1∈l) (It [c] l):=by unfold It;have h0:0<l.length:=List.length_pos_iff.2 hl;refine .bind (Ob h (show 0< (l.length:Int) by omega)) λc1 y h1 hy=> .iteP rfl (.iteP hy.1 (.get (by show y.1.toNat<l.length;have:=hy.1;have:=hy.2;omega) λx hx=> .ret h1 hx))
theorem aam{c:qh}(h:Ik c):Dn (λ_:Op×Unit=>True) (Pp [c]):=by
 unfold Pp
 repeat first |exact .ret (by assumption) trivial|refine .iteP rfl ?_|refine .br (λ_=> ?_) λ_=> ?_|refine .bind (Mx (by assumption) _) λ_ _ _ _=> ?_|refine .bind (QC (by assumption) _) λ_ _ _ _=> ?_|refine .bind (To (by assumption) (by simp)) λ_ _ _ _=> ?_
theorem WH{c:qh}(h:Ik c):Dn (λ_:wN×Unit=>True) (Lw [c]):=by
 unfold Lw;dsimp only
 repeat first |exact .ret (by assumption) trivial|refine .iteP rfl ?_|refine .br (λ_=> ?_) λ_=> ?_|refine .bind (Mx (by assumption) _) λ_ _ _ _=> ?_|refine .bind (QC (by assumption) _) λ_ _ _ _=> ?_|refine .bind (To (by assumption) (by simp)) λ_ _ _ _=> ?_|refine .bind (aam (by assumption)) λ_ _ _ _=> ?_
def Ro{σ ε:Type}(I:σ->Prop)(E:ε->Prop)(r:Option (σ⊕ε)):Prop:=(∃s,r=some (.inl s)/\I s)\/ ∃e,r=some (.inr e)/\E e
section
variable {σ ε α:Type} {I:σ->Prop} {E:ε->Prop} {Q:α->Prop}
omit [dE] in
theorem Ro.again{s:σ}(h:I s):Ro I E (some (.inl s)):=.inl ⟨s,rfl,h⟩
omit [dE] in
theorem Ro.done{e:ε}(h:E e):Ro I E (some (.inr e)):=.inr ⟨e,rfl,h⟩
omit [dE] in
theorem Ro.iteP{p:Prop}[Decidable p]{x y:Option (σ⊕ε)}(hp:p)(h:Ro I E x):Ro I E (iteP p x y):=by rw[B0 hp];exact h
omit [dE] in
theorem Ro.br{b:Bool}{x y:Option (σ⊕ε)}(h1:b=true->Ro I E x)(h2:b=false->Ro I E y):Ro I E (br b x y):=by
 cases b with
 |true=>exact h1 rfl
 |false=>exact h2 rfl
theorem Ro.draw{r:Option (List qh×α)}{k:List qh×α->Option (σ⊕ε)}(h:Dn Q r)(hk: ∀c a,Ik c->Q a->Ro I E (k ([c],a))):Ro I E (r.bind k):=by obtain⟨c,a,rfl,h1,h2⟩:=h;exact hk c a h1 h2
omit [dE] in
theorem ZA{B:σ->Option (σ⊕ε)}(μ:σ->Nat)(h: ∀s,I s->Ro (λs'=>I s'/\μ s'<μ s) E (B s)){s:σ}(hs:I s): ∃e,nw B s=some e/\E e:=
 CM I μ E (λs hs=>(h s hs).imp (λ⟨s',a,b,c⟩=>⟨s',a,b,c⟩) id) hs
end
theorem TJ{c:qh}(h:Ik c){n:Int}(h0:0<=n){evs:List wN}{M:Nat}(hM:evs.length+n.toNat<=M)(hM2:M<=1000):Dn (λy:List wN×Unit=>y.1.length<=M) ((Kq (((),(),n,()),(()),[c],evs,())).bind λe=>some e.2.2):=by
 unfold Kq
 obtain⟨⟨_,_,l,ps,_⟩,h1,c2,rfl,h2,h3⟩:=ZA (B:=IP) (I:=λs=> ∃c,s.2.2.1= [c] /\Ik c/\0<=s.1.2.2.1/\s.2.2.2.1.length+s.1.2.2.1.toNat<=M) (E:=λe=> ∃c,e.2.2.1= [c] /\Ik c/\e.2.2.2.1.length<=M) (λs=>s.1.2.2.1.toNat) (by
  rintro⟨⟨_,_,k,_⟩,_,l,ps,_⟩ ⟨c,rfl,hc,h0,h1⟩
  simp only at h0 h1;unfold IP;refine .br (λhk=> ?_) λhk=> .done ⟨c,rfl,hc,by show ps.length<=M;omega⟩;have hk:k>0:=of_decide_eq_true hk;have e:IntKind.wrap .i64 (k-1)=k-1:=vM (by omega) (by omega)
  have fA: ∀ (c:qh) (x:wN),Ik c->Ro (λs': (Unit×Unit×Int×Unit)×Unit×List qh×List wN×Unit=>(∃c,s'.2.2.1= [c] /\Ik c/\0<=s'.1.2.2.1/\s'.2.2.2.1.length+s'.1.2.2.1.toNat<=M)/\s'.1.2.2.1.toNat<k.toNat) (λe: (Unit×Unit)×Unit×List qh×List wN×Unit=> ∃c,e.2.2.1= [c] /\Ik c/\e.2.2.2.1.length<=M) (iteP ((ps++ [x]).length*80<=2 ^ 40) (some (.inl (((),(),IntKind.wrap .i64 (k-1),()),(()),[c],ps++ [x],()))) none):=λc x hc=>by refine .iteP (by simp only[bJ,cy];omega) (.again ?_);simp only[e];exact⟨⟨c,rfl,hc,by omega,by simp only[bJ,cy];omega⟩,by omega⟩
  refine .draw (WH hc) λc1 _ h1 _=> .iteP rfl (.br (λ_=> .draw (QC h1 _) λc2 _ h2 _=> .iteP rfl (.br (λ_=> .draw (To h2 (by simp)) λc3 _ h3 _=> .iteP rfl (fA _ _ h3)) λ_=>fA _ _ h2)) λ_=>fA _ _ h1)) (s:=(((),(),n,()),(()),[c],evs,())) ⟨c,rfl,h,h0,hM⟩
 rw[h1];exact⟨c2,_,rfl,h2,h3⟩
theorem V2{c:qh}(h:Ik c){n:Int}(h0:0<=n)(hn:n<=100):Dn (λy:List wN×Unit=>y.1.length<=200) (KE [c] n):=by
 unfold KE;rw[vM (n:=n+1) (by omega) (by omega)];refine .bind (Mx h _) λc1 _ h1 _=> .iteP rfl (.bind (Mx h1 _) λc2 _ h2 _=> .iteP rfl (.bind (QC h2 _) λc3 _ h3 _=> .iteP rfl (.br (λ_=> ?_) λ_=> ?_)))
 ·exact .bind (Ob h3 (by omega)) λc4 y h4 hy=> .iteP rfl (TJ h4 hy.1 (by have:=hy.2;simp only[bD,bU];omega) (by omega))
 ·exact .bind (Ob h3 (by omega)) λc4 y h4 hy=> .iteP rfl (TJ h4 hy.1 (by have:=hy.2;simp only[bD,bU];omega) (by omega))
end
end
section
def Gc(M:Nat)(c:nE):Prop:=c.replicas.length<=M/\c.witnesses.length<=M
def ED(M:Nat)(s:qj):Prop:=Gc M s.config/\s.log.length<=M/\s.learned.length<=M
def NZ(M:Nat)(m:jY):Prop:=m.configs.length<=M/\ ∀c∈m.configs,Gc M c
def Ew(M:Nat)(c:qg):Prop:=(c.servers.length<=M/\ ∀s∈c.servers,ED M s)/\c.sides.length<=M/\NZ M c.master/\c.places.length<=M
theorem Em{n:Nat}(h:n<=1048576):n<=maxLen:=by unfold maxLen;omega
end
section
theorem G2{ρ:Type}(a b:Int)(x y:ρ):br (a==b) x y=if a=b then x else y:=by rw[CZ];by_cases h:a=b<;>simp[h]
theorem Eb{ρ:Type}(b:Bool)(x y:ρ):br (!b) x y=br b y x:=by cases b<;>rfl
def Gp(x a b:Int):Bool:=decide (a<=x)&&decide (x<=b)
theorem EF(x a b:Int):Ei x a b=some (Gp x a b,()):=by unfold Ei Gp;rw[CY];split<;>rename_i h<;>simp[h]
theorem IU(x a b:Int):Ep x a b=some (Gp x a b,()):=by unfold Ep Gp;rw[CY];split<;>rename_i h<;>simp[h]
theorem Ec{x a b:Int}:Gp x a b=true↔a<=x/\x<=b:=by simp[Gp]
def MY(l:List Int):Prop:=∀k (h:k<l.length),(0<=l[k] /\l[k] <=4)/\ ∀_:0<k,l[k-1]'(by omega)<l[k]
theorem MZ(l:List Int)(hl:l.length<=maxLen): (Fz l=some (true,())/\GJ l=some (true,())/\MY l)\/(Fz l=some (false,())/\GJ l=some (false,())):=by
 have fA:=CN (B1:=FT) (B2:=FS) l.length (λk=>((l,(k:Int),()),(),())) (λk=>((l,l,(l.length:Int),(k:Int),()),(),())) (.inr (((),()),(),())) (.inr (((),()),(),())) (λ_=> .inl ((false,()),(),())) (λ_=> .inl ((false,()),(),()))
  (λk=> ∀h:k<l.length,(0<=l[k] /\l[k] <=4)/\ ∀_:0<k,l[k-1]'(by omega)<l[k]) (λ_=>True)
  (by simp only[FT];rw[CY,if_neg (by omega)])
  (by simp only[FS];rw[CY,if_neg (by omega)])
  (λk hk=>by
    have c1: (k:Int)< (l.length:Int):=by omega
    have c2: (0:Int)<=(k:Int):=by omega
    have e1:l[k]? =some l[k] :=aq hk;simp only[FT,FS,CY,BX,if_pos c1,if_pos c2,DC,e1,ao,EF,IU];cases hw:Gp l[k] 0 4 with
    |false=>exact .inr ⟨rfl,rfl,trivial⟩
    |true=>
     simp only[df,BI];have hw:=Ec.1 hw;by_cases h0:0<k
     ·have c3: (k:Int)>0:=by omega
      have c4: (0:Int)<=((k-1:Nat):Int):=by omega
      have e2:l[k-1]? =some l[k-1] :=aq (by omega);simp only[if_pos c3,BF h0 (by omega),if_pos c4,DC,e2,ao];by_cases hlt:l[k-1]<l[k]
      ·rw[if_neg (by omega),if_neg (by omega),BG hl hk];exact .inl ⟨rfl,rfl,λ_=>⟨hw,λ_=>hlt⟩⟩
      ·rw[if_pos (by omega),if_pos (by omega)];exact .inr ⟨rfl,rfl,trivial⟩
     ·rw[if_neg (by omega),if_neg (by omega),BG hl hk];exact .inl ⟨rfl,rfl,λ_=>⟨hw,λh=>absurd h h0⟩⟩)
 unfold Fz GJ;rcases fA with ⟨k1,k2,k3⟩| ⟨k,_,k1,k2,_⟩
 ·rw[show JJ ((l,0,()),(),())=_ from k1,show JH ((l,l,(l.length:Int),0,()),(),())=_ from k2];exact .inl ⟨rfl,rfl,λk hk=>k3 k hk hk⟩
 ·rw[show JJ ((l,0,()),(),())=_ from k1,show JH ((l,l,(l.length:Int),0,()),(),())=_ from k2];exact .inr ⟨rfl,rfl⟩
theorem MY.lt{l:List Int}(h:MY l): ∀ (d i:Nat) (h2:i+d+1<l.length),l[i]'(by omega)<l[i+d+1] :=by
 intro d
 induction d with
 |zero=>intro i h2;exact (h (i+1) h2).2 (by omega)
 |succ d ih=>intro i h2;have h1:=ih i (by omega);have h3:=(h (i+d+1+1) h2).2 (by omega);exact Int.lt_trans h1 h3
theorem MY.pair{l:List Int}(h:MY l):l.Pairwise (· < ·):=by rw[DL];intro i j hi hj hij;have:=h.lt (j-i-1) i (by omega);simpa [show i+(j-i-1)+1=j by omega] using this
theorem MY.len{l:List Int}(h:MY l):l.length<=5:=by
 have ge: ∀k (hk:k<l.length),(k:Int)<=l[k] :=by
  intro k
  induction k with
  |zero=>intro hk;exact (h 0 hk).1.1
  |succ k ih=>intro hk;have h1:=ih (by omega);have h2:=(h (k+1) hk).2 (by omega);simp only[bK] at h2;omega
 rcases cY 5 l.length with hlt|hge
 ·have h1:=ge 5 hlt;have h2:=(h 5 hlt).1.2;omega
 ·exact hge
theorem Ey(l:List Int)(x:Int)(hl:l.length<=maxLen):EZ l x=some (decide (x∈l),())/\Hg l x=some (decide (x∈l),()):=by
 have fA:=CN (B1:=H5) (B2:=Hy) l.length (λk=>((l,x,(k:Int),()),(),())) (λk=>((l,x,(l.length:Int),(k:Int),()),(),())) (.inr (((),()),(),())) (.inr (((),()),(),())) (λ_=> .inl ((true,()),(),())) (λk=> .inl (((k:Int),()),(),()))
  (λk=>l[k]? ≠some x) (λk=>l[k]? =some x)
  (by simp only[H5];rw[CY,if_neg (by omega)])
  (by simp only[Hy];rw[CY,if_neg (by omega)])
  (λk hk=>by
    have c1: (k:Int)< (l.length:Int):=by omega
    have c2: (0:Int)<=(k:Int):=by omega
    have e1:l[k]? =some l[k] :=aq hk;simp only[H5,Hy,CY,BX,if_pos c1,if_pos c2,DC,e1,ao,BG hl hk,G2];by_cases he:l[k] =x
    ·rw[if_pos he,if_pos he.symm,he];exact .inr ⟨rfl,rfl,rfl⟩
    ·rw[if_neg he,if_neg (λh=>he h.symm)];exact .inl ⟨rfl,rfl,λh=>he (Option.some.inj h)⟩)
 unfold EZ Hg I3 Lb;rcases fA with ⟨k1,k2,k3⟩| ⟨k,hk,k1,k2,k3⟩
 ·rw[show Mm ((l,x,0,()),(),())=_ from k1,show LK ((l,x,(l.length:Int),0,()),(),())=_ from k2]
  have hn:x∉l:=λh=>by obtain⟨k,hk,he⟩:=aU h;exact k3 k hk (by rw[aq hk,he])
  rw[decide_eq_false hn];exact⟨rfl,rfl⟩
 ·rw[show Mm ((l,x,0,()),(),())=_ from k1,show LK ((l,x,(l.length:Int),0,()),(),())=_ from k2];rw[decide_eq_true (aA k3)];refine⟨rfl,?_⟩;simp only[ao,DV];rw[decide_eq_true (by omega)]
end
section
theorem HW{n:Nat}(h:n<=1048576):n*8<=2 ^ 40:=by
 have : (2:Nat) ^ 40=1099511627776:=by decide
 omega
theorem Tq(l:List Int)(x:Int)(hl:l.length<=1000)(h: ∀y∈l,y<x):Ig l x=some (l++ [x],()):=by
 have hm:l.length<=maxLen:=by unfold maxLen;omega
 have fA:=B4 (B:=IB) l (λk (_:Unit)=>((l,x,(k:Int),()),(),())) (λ_ _=>True) (λk r _=>((l,x,((k+r.length:Nat):Int),()),(),()))
  (λb hb=>by simp only[IB];rw[CY,if_neg (by omega)];rfl)
  (λk b y hy hb=>by
    have hk:=C5 hy;have c1: (k:Int)< (l.length:Int):=by omega
    have c2: (0:Int)<=(k:Int):=by omega
    refine .inl ⟨(),?_,trivial,?_⟩
    ·simp only[IB,CY,BX,if_pos c1,if_pos c2,DC,hy,ao,if_pos (h y (aA hy)),BG hm hk]
    ·rw[bD,show k+((l.drop (k+1)).length+1)=k+1+(l.drop (k+1)).length by omega])
  0 () (bM _) trivial
 unfold Ig;rw[show PD ((l,x,0,()),(),())=_ from fA];simp only[ao,cE,aP];have c0: ¬ ((l.length:Int)< (l.length:Int)):=by omega
 have d1: (0:Int)<=0/\(0:Int)<=(l.length:Int)/\(l.length:Int)<=(l.length:Int):=by omega
 have d2: (0:Int)<=(l.length:Int)/\(l.length:Int)<=(l.length:Int)/\(l.length:Int)<=(l.length:Int):=by omega
 simp only[CY,if_neg c0,BX,if_pos d1,if_pos d2,DC,D3,cE,DU,cZ,dw,bP,DK,bF];rw[if_pos (HW (by omega)),if_pos (HW (by simp;omega))];exact if_pos (HW (by simp;omega))
theorem QD(a b:List Int)(ha:MY a)(hb:b.length<=maxLen):GD a b=some (a.filter λx=>decide (x∈b),()):=by
 have hl:=ha.len;have hm:a.length<=maxLen:=by unfold maxLen;omega
 have hp:=ha.pair
 have fA:=B4 (B:=Gv) a (λk (out:List Int)=>((a,b,(),(k:Int),()),(),(out,()))) (λk out=>out=(a.take k).filter λx=>decide (x∈b)) (λk r out=>(((),()),(),(out++r.filter λx=>decide (x∈b),())))
  (λout hb=>by simp only[Gv];rw[CY,if_neg (by omega)];simp)
  (λk out x hx hout=>by
    have hk:=C5 hx;have c1: (k:Int)< (a.length:Int):=by omega
    have c2: (0:Int)<=(k:Int):=by omega
    have hxe:a[k] =x:=by rw[aq hk] at hx;exact Option.some.inj hx
    simp only[Gv,CY,BX,if_pos c1,if_pos c2,DC,hx,ao,(Ey b x hb).1,BG hm hk];by_cases hin:x∈b
    ·have hlt: ∀y∈out,y<x:=by
      intro y hy;rw[hout,D0] at hy;obtain⟨i,hi,he⟩:=aU hy.1;have hi':i<k:=by simp at hi;omega
      rw[DY] at he;rw[<-he,<-hxe];exact DL.1 hp i k (by omega) hk hi'
     have hol:out.length<=1000:=by rw[hout];have:=D4 (λx=>decide (x∈b)) (a.take k);simp at this;omega
     simp only[if_pos hin,Tq out x hol hlt,ao];refine .inl ⟨out++ [x],rfl,?_,?_⟩
     ·rw[hout,DM,hx,DR];simp[hin]
     ·simp[hin]
    ·simp only[if_neg hin];refine .inl ⟨out,rfl,?_,?_⟩
     ·rw[hout,DM,hx,DR];simp[hin]
     ·simp[hin])
  0 [] (bM _) rfl
 unfold GD;rw[show L8 ((a,b,(),0,()),(),([],()))=_ from fA];rfl
theorem QG{n:Nat}(hn:n<=5): ∃m,Ns (IntKind.wrap .u64 (n:Int))=some (m,()):=by
 have :n=0\/n=1\/n=2\/n=3\/n=4\/n=5:=by omega
 rcases this with rfl|rfl|rfl|rfl|rfl|rfl
 ·exact⟨0,by kernel_rfl⟩
 ·exact⟨1,by kernel_rfl⟩
 ·exact⟨2,by kernel_rfl⟩
 ·exact⟨2,by kernel_rfl⟩
 ·exact⟨3,by kernel_rfl⟩
 ·exact⟨3,by kernel_rfl⟩
theorem V9(l:List Int)(ha:MY l):EB l 0 (l.length:Int)=some (l,()):=by
 have hl:=ha.len;have hm:l.length<=maxLen:=by unfold maxLen;omega
 have inner: ∀k (hk:k<l.length),0<k->Fr (((),0,(l.length:Int),(k:Int),(k:Int),()),(),(l,()))=some (((),0,(l.length:Int),(k:Int),()),(),(l,())):=by
  intro k hk h0;refine lK ?_;have c1: (k:Int)>0:=by omega
  have c2: (0:Int)<=(k:Int)/\(k:Int)< (l.length:Int):=by omega
  have c3: (0:Int)<=((k-1:Nat):Int)/\((k-1:Nat):Int)< (l.length:Int):=by omega
  have e1:l[k]? =some l[k] :=aq hk;have e2:l[k-1]? =some l[k-1] :=aq (by omega);have hlt:=(ha k hk).2 h0
  have less:HM l[k] l[k-1] =some (false,()):=by unfold HM H7;simp only[beq_self_eq_true,df,ao,BI];rw[decide_eq_false (by omega)]
  simp only[Eu,CY,BX,if_pos c1,if_pos c2,BF h0 (by omega),if_pos c3,DC,e1,e2,ao,less,BI]
 have outer:=CM (B:=Ej) (λs=> ∃k:Nat,0<k/\s=(((),0,(l.length:Int),(k:Int),()),(),(l,()))) (λs=>l.length-s.1.2.2.2.1.toNat) (λe=>e=((()),(),(l,())))
  (λs hs=>by
    obtain⟨k,h0,rfl⟩:=hs;by_cases hk:k<l.length
    ·have c1: (k:Int)< (l.length:Int):=by omega
     refine .inl ⟨(((),0,(l.length:Int),((k+1:Nat):Int),()),(),(l,())),?_,⟨k+1,by omega,rfl⟩,?_⟩
     ·simp only[Ej,CY,if_pos c1,inner k hk h0,ao,BG hm hk]
     ·simp only[DC];omega
    ·have c1: ¬ (k:Int)< (l.length:Int):=by omega
     exact .inr ⟨_,by simp only[Ej,CY,if_neg c1],rfl⟩)
  (s:=(((),0,(l.length:Int),((1:Nat):Int),()),(),(l,()))) ⟨1,by omega,rfl⟩
 obtain⟨e,h1,rfl⟩:=outer;unfold EB;rw[show IntKind.wrap .i64 ((0:Int)+1)=((1:Nat):Int) from by rw[vM (by omega) (by omega)];rfl,show Fq (((),0,(l.length:Int),((1:Nat):Int),()),(),(l,()))=_ from h1];rfl
theorem XH(l:List Int)(ha:MY l):GX l=some (l,()):=by
 have hl:=ha.len;obtain⟨m,hm⟩:=QG hl
 have hp:Fa l 0 (l.length:Int) m=some (l,()):=by
  unfold Fa
  have :GZ (((),0,(l.length:Int),m,true,true,()),(),(l,()))=some ((()),(),(l,())):=by refine lK ?_;simp only[Fu];rw[vM (by omega) (by omega),CY,if_pos (by omega),V9 l ha,ao,B0 rfl]
  rw[this];rfl
 unfold GX;simp only[hm,ao,hp];exact B0 trivial _ _
theorem TH(l:List Int)(ha:MY l):F3 l=some (l,()):=by
 have hl:=ha.len;have hm:l.length<=maxLen:=by unfold maxLen;omega
 unfold F3;rw[CY];split
 ·rfl
 ·have fA:=CM (B:=ET) (λs=> ∃k:Nat,0<k/\k<=l.length/\s=(((),(k:Int),()),(),(l,()))) (λs=>l.length-s.1.2.1.toNat) (λe=>e= .inr (((),(),()),(),(l,())))
   (λs hs=>by
     obtain⟨k,h0,hkl,rfl⟩:=hs;by_cases hk:k<l.length
     ·have c1: (k:Int)< (l.length:Int):=by omega
      have c2: (0:Int)<=(k:Int)/\(k:Int)< (l.length:Int):=by omega
      have c3: (0:Int)<=((k-1:Nat):Int)/\((k-1:Nat):Int)< (l.length:Int):=by omega
      have e1:l[k]? =some l[k] :=aq hk;have e2:l[k-1]? =some l[k-1] :=aq (by omega);have hlt:=(ha k hk).2 h0;refine .inl ⟨(((),((k+1:Nat):Int),()),(),(l,())),?_,⟨k+1,by omega,by omega,rfl⟩,?_⟩
      ·simp only[ET,CY,BX,if_pos c1,if_pos c2,BF h0 (by omega),if_pos c3,DC,e1,e2,ao,G2,BG hm hk];rw[if_neg (by omega)]
      ·simp only[DC];omega
     ·have c1: ¬ (k:Int)< (l.length:Int):=by omega
      exact .inr ⟨_,by simp only[ET,CY,if_neg c1],rfl⟩)
   (s:=(((),((1:Nat):Int),()),(),(l,()))) ⟨1,by omega,by omega,rfl⟩
  obtain⟨e,h1,rfl⟩:=fA;rw[show IK (((),1,()),(),(l,()))=_ from h1];rfl
theorem VW(l:List Int)(ha:MY l):HJ l=some (l,()):=by have hl:=ha.len;unfold HJ HV;rw[B0 (HW (by omega)),ao,XH l ha,ao,B0 rfl,TH l ha];rfl
end
section
theorem JI{σ ε:Type}{B:σ->Option (σ⊕ε)}(n:Nat)(m:Nat->σ)(t:ε)(f:Nat->ε)(p:Nat->Bool)(h0:B (m n)=some (.inr t))(h: ∀k,k<n->B (m k)=some (if p k=true then .inr (f k) else .inl (m (k+1)))):
  (nw B (m 0)=some t/\ ∀k,k<n->p k=false)\/ ∃k,k<n/\nw B (m 0)=some (f k)/\p k=true/\ ∀j,j<k->p j=false:=by
 have fA: ∀d j,j+d=n->(nw B (m j)=some t/\ ∀k,j<=k->k<n->p k=false)\/ ∃k,k<n/\nw B (m j)=some (f k)/\p k=true/\ ∀i,j<=i->i<k->p i=false:=by
  intro d
  induction d with
  |zero=>
   intro j hj;have :j=n:=by omega
   subst this;exact .inl ⟨lK h0,λk a b=>by omega⟩
  |succ d ih=>
   intro j hj;have h1:=h j (by omega);cases hp:p j with
   |true=>rw[hp,if_pos rfl] at h1;exact .inr ⟨j,by omega,lK h1,hp,λi a b=>by omega⟩
   |false=>
    rw[hp,if_neg (by simp)] at h1;rw[sq h1];rcases ih (j+1) (by omega) with ⟨k1,k2⟩| ⟨k,k0,k1,k2,k3⟩
    ·refine .inl ⟨k1,λk a b=> ?_⟩;rcases Nat.eq_or_lt_of_le a with rfl|a
     ·exact hp
     ·exact k2 k a b
    ·refine .inr ⟨k,k0,k1,k2,λi a b=> ?_⟩;rcases Nat.eq_or_lt_of_le a with rfl|a
     ·exact hp
     ·exact k3 i a b
 rcases fA n 0 (by omega) with ⟨a,b⟩| ⟨k,a,b,c,d⟩
 ·exact .inl ⟨a,λk hk=>b k (bM _) hk⟩
 ·exact .inr ⟨k,a,b,c,λj hj=>d j (bM _) hj⟩
theorem M6{σ1 ε1 σ2 ε2 β:Type}{B1:σ1->Option (σ1⊕ε1)}{B2:σ2->Option (σ2⊕ε2)}(n:Nat)(m1:Nat->β->σ1)(m2:Nat->β->σ2)(J:Nat->β->Prop)(E1:β->ε1)(E2:β->ε2)
  (h0: ∀b,J n b->B1 (m1 n b)=some (.inr (E1 b))/\B2 (m2 n b)=some (.inr (E2 b)))
  (h1: ∀k b,k<n->J k b-> ∃b',B1 (m1 k b)=some (.inl (m1 (k+1) b'))/\B2 (m2 k b)=some (.inl (m2 (k+1) b'))/\J (k+1) b')
  (b:β) (hb:J 0 b): ∃b',J n b'/\nw B1 (m1 0 b)=some (E1 b')/\nw B2 (m2 0 b)=some (E2 b'):=by
 have go: ∀ (d k:Nat) (b:β),k+d=n->J k b-> ∃b',J n b'/\nw B1 (m1 k b)=some (E1 b')/\nw B2 (m2 k b)=some (E2 b'):=by
  intro d
  induction d with
  |zero=>
   intro k b hk hj;have :k=n:=by omega
   subst this;exact⟨b,hj,lK (h0 b hj).1,lK (h0 b hj).2⟩
  |succ d ih=>intro k b hk hj;obtain⟨b',p1,p2,p3⟩:=h1 k b (by omega) hj;obtain⟨c,q1,q2,q3⟩:=ih (k+1) b' (by omega) p3;exact⟨c,q1,by rw[sq p1];exact q2,by rw[sq p2];exact q3⟩
 exact go n 0 b (by omega) hb
theorem PU{l:List Int}{p:Int->Bool}(h: ∀x∈l,p x=true):l.filter p=l:=List.filter_eq_self.2 h
theorem UK(a b:List Int)(ha:a.length<=1000)(hb:b.length<=maxLen):EC a b=some (a.filter λx=> !decide (x∈b),()):=by
 have hm:a.length<=maxLen:=by unfold maxLen;omega
 have hm':a.length<=9223372036854775807:=hm
 have has: ∀x,F5 x b=some (decide (x∈b),()):=by intro x;unfold F5;rw[(Ey b x hb).2];rfl
 have find:=JI (B:=Et) a.length (λk=>((a,(b,()),(a.length:Int),(k:Int),()),(),())) (.inr (((),()),(),())) (λk=> .inl (((k:Int),()),(),())) (λk=>match a[k]? with |some x=>decide (x∈b)|none=>false)
  (by simp only[Et];rw[CY,if_neg (by omega)])
  (λk hk=>by
    have c1: (k:Int)< (a.length:Int):=by omega
    have c2: (0:Int)<=(k:Int):=by omega
    simp only[Et,CY,BX,if_pos c1,if_pos c2,DC,aq hk,ao,has,BG hm hk];by_cases hin:a[k] ∈b<;>simp[hin])
 unfold EC Fh;rcases find with ⟨k1,k2⟩| ⟨i,hi,k1,k2,k3⟩
 ·rw[show FB ((a,(b,()),(a.length:Int),0,()),(),())=_ from k1];simp only[ao,DX,beq_self_eq_true,CG];rw[PU λx hx=> ?_];obtain⟨k,hk,rfl⟩:=aU hx;have:=k2 k hk;rw[aq hk] at this;simpa using this
 ·rw[show FB ((a,(b,()),(a.length:Int),0,()),(),())=_ from k1]
  have hne: ((i:Int)== -1)=false:=by simp only[beq_eq_false_iff_ne,ne_eq];omega
  simp only[ao,DV,hne,BI,BG hm hi];rw[aq hi] at k2
  have loop:=CM (B:=Es) (λs=> ∃ (i j:Nat) (v:List Int),s=(((),(b,()),(i:Int),(j:Int),()),(),(v,()))/\i<=j/\j<=a.length/\v.length=a.length/\v.take i=(a.take j).filter (λx=> !decide (x∈b))/\v.drop j=a.drop j) (λs=>a.length-s.1.2.2.2.1.toNat)
   (λe=> ∃ (i:Nat) (v:List Int),e=(((),(i:Int),()),(),(v,()))/\i<=a.length/\v.length=a.length/\v.take i=a.filter (λx=> !decide (x∈b)))
   (λs hs=>by
     obtain⟨i,j,v,rfl,hij,hj,hv,ht,hd⟩:=hs;by_cases hlt:j<a.length
     ·have c1: (j:Int)< (v.length:Int):=by omega
      have c2: (0:Int)<=(j:Int)/\(j:Int)< (v.length:Int):=by omega
      have c3: (0:Int)<=(i:Int)/\(i:Int)< (v.length:Int):=by omega
      have e1:v[j]? =some a[j] :=by have:=congrArg (λl:List Int=>l[0]?) hd;simpa [bf,aq hlt] using this
      have e2:v[i]? =some (v[i]'(by omega)):=aq _;have hta:a.take (j+1)=a.take j++ [a[j]] :=by rw[DM,aq hlt];rfl
      have hdd:v.drop (j+1)=a.drop (j+1):=by have:=congrArg (List.drop 1) hd;simpa [cn,bX] using this
      left;simp only[Es,CY,BX,if_pos c1,if_pos c2,DC,e1,ao,has,if_pos c3,e2,BG hm hlt,Eb,BG hm (show i<a.length by omega)];by_cases hin:a[j] ∈b
      ·rw[if_pos hin];refine⟨_,rfl,⟨i,j+1,v,rfl,by omega,by omega,hv,?_,hdd⟩,?_⟩
       ·rw[ht,hta,DR];simp[hin]
       ·simp only[DC];omega
      ·rw[if_neg hin];refine⟨_,rfl,⟨i+1,j+1,v.set i a[j],rfl,by omega,by omega,by simp[hv],?_,?_⟩,?_⟩
       ·rw[yH _ (by omega),ht,hta,DR];simp[hin]
       ·rw[List.drop_set_of_lt (by omega),hdd]
       ·simp only[DC];omega
     ·have :j=a.length:=by omega
      subst this;right;refine⟨_,by simp only[Es];rw[CY,if_neg (by omega)],⟨i,v,rfl,hij,hv,?_⟩⟩;rw[ht,DK])
   (s:=(((),(b,()),(i:Int),((i+1:Nat):Int),()),(),(a,()))) ⟨i,i+1,a,rfl,by omega,by omega,rfl,by
     have hta:a.take (i+1)=a.take i++ [a[i]] :=by rw[DM,aq hi];rfl
     rw[hta,DR,PU (l:=a.take i) λx hx=> ?_]
     ·simp only[decide_eq_true_eq] at k2;simp[k2]
     ·obtain⟨j,hj,rfl⟩:=aU hx;have hj':j<i:=by simp at hj;omega
      have:=k3 j hj';rw[aq (by omega)] at this;rw[DY];simpa using this,rfl⟩
  obtain⟨e,h1,i',v,rfl,h2,h3,h4⟩:=loop;rw[show Ga (((),(b,()),(i:Int),((i+1:Nat):Int),()),(),(a,()))=_ from h1];have d1: (0:Int)<=(i':Int)/\(i':Int)<=(v.length:Int)/\(v.length:Int)<=((v.length:Nat):Int):=by omega
  have d2:i'+(v.length-i')<=v.length:=by omega
  have d3: (0:Int)<=0/\(0:Int)<=(i':Int)/\(i':Int)<=((v.length:Nat):Int):=by omega
  simp only[ao,DC,D3,aP,DU,BX,if_pos d1,if_pos d2,if_pos d3];rw[if_pos ⟨trivial,by simp;omega⟩];rw[bi,List.take_append_of_le_length (by simp;omega),List.take_take,Nat.min_self,h4]
theorem TK(a b:List Int)(ha:MY a)(hb:b.length<=maxLen):GR a b=some (a.filter λx=> !decide (x∈b),()):=by have hl:=ha.len;unfold GR;rw[VW a ha,ao,UK a b (by omega) hb];rfl
theorem X5(a b:List Int)(ha:MY a)(hb:b.length<=maxLen):HY a b=some (a.filter λx=>decide (x∈b),()):=by
 have hl:=ha.len;unfold HY;rw[TK a b ha hb];simp only[ao]
 rw[TK a (a.filter λx=> !decide (x∈b)) ha (by have:=D4 (λx=> !decide (x∈b)) a;unfold maxLen;omega)]
 simp only[ao]
 congr 2
 apply List.filter_congr;intro x hx;simp[D0,hx]
theorem Gu(c:nE)(h:Gc maxLen c):Dg (Eg c) (GB c):=by
 unfold Eg GB;simp only[EF,IU,ao];cases Gp c.epoch 1 20 with
 |false=>exact⟨_,rfl,rfl⟩
 |true=>
  rcases MZ c.replicas h.1 with ⟨a1,a2,a3⟩| ⟨a1,a2⟩
  ·rcases MZ c.witnesses h.2 with ⟨b1,b2,b3⟩| ⟨b1,b2⟩
   ·simp only[a1,a2,b1,b2,ao,CG,(Ey c.replicas c.primary h.1).1,(Ey c.replicas c.primary h.1).2,QD _ _ a3 h.2,X5 _ _ a3 h.2];cases decide (c.primary∈c.replicas)<;>exact⟨_,rfl,rfl⟩
   ·simp only[a1,a2,b1,b2,ao,CG,BI];exact⟨_,rfl,rfl⟩
  ·simp only[a1,a2,ao,CG,BI];exact⟨_,rfl,rfl⟩
end
section
theorem Kr(l:List Int)(hl:l.length<=maxLen):Dg (Fj l) (I7 l):=by
 have fA:=CN (B1:=He) (B2:=EM) l.length (λk=>((l,(k:Int),()),(),())) (λk=>((l,(),(l.length:Int),(k:Int),()),(),())) (.inr ((l,(),()),(),())) (.inr (((),()),(),())) (λ_=> .inl ((l,false,()),(),())) (λk=> .inl (((k:Int),()),(),()))
  (λ_=>True) (λ_=>True)
  (by simp only[He];rw[CY,if_neg (by omega)])
  (by simp only[EM];rw[CY,if_neg (by omega)])
  (λk hk=>by
    have c1: (k:Int)< (l.length:Int):=by omega
    have c2: (0:Int)<=(k:Int):=by omega
    simp only[He,EM,CY,BX,if_pos c1,if_pos c2,DC,aq hk,ao,Kj,EF,IU,BG hl hk];cases Gp l[k] 0 3 with
    |false=>exact .inr ⟨rfl,rfl,trivial⟩
    |true=>exact .inl ⟨rfl,rfl,trivial⟩)
 unfold Fj I7 Fo FE;rcases fA with ⟨k1,k2,_⟩| ⟨k,_,k1,k2,_⟩
 ·rw[show M7 ((l,0,()),(),())=_ from k1,show Gd ((l,(),(l.length:Int),0,()),(),())=_ from k2];simp only[ao,DX];cases ((l.length:Int)==5)<;>exact⟨_,rfl,rfl⟩
 ·rw[show M7 ((l,0,()),(),())=_ from k1,show Gd ((l,(),(l.length:Int),0,()),(),())=_ from k2];simp only[ao,DV];rw[decide_eq_true (by omega)];cases ((l.length:Int)==5)<;>exact⟨_,rfl,rfl⟩
theorem masterLog(m:jY)(h:NZ maxLen m): ∃b,Eo m=some (b,())/\H8 m=some (b,()):=by
 obtain⟨hl,hc⟩:=h
 have fA:=CN (B1:=EW) (B2:=G4) m.configs.length (λk=>(((),(k:Int),()),((m.configs,m.activated,()),()),())) (λk=>(((),m.configs,(m.configs.length:Int),(k:Int),()),((m.configs,m.activated,()),()),())) (.inr (((),(),()),((m.configs,m.activated,()),()),())) (.inr (((),(),()),((m.configs,m.activated,()),()),())) (λ_=> .inl (((),false,()),((m.configs,m.activated,()),()),())) (λ_=> .inl (((),false,()),((m.configs,m.activated,()),()),()))
  (λ_=>True) (λ_=>True)
  (by simp only[EW];rw[CY,if_neg (by omega)])
  (by simp only[G4];rw[CY,if_neg (by omega)])
  (λk hk=>by
    have c1: (k:Int)< (m.configs.length:Int):=by omega
    have c2: (0:Int)<=(k:Int):=by omega
    obtain⟨b,v1,v2⟩:=Gu m.configs[k] (hc _ (DF hk));simp only[EW,G4,CY,BX,if_pos c1,if_pos c2,DC,aq hk,ao,v1,v2,BG hl hk,Eb];cases b with
    |false=>exact .inr ⟨rfl,rfl,trivial⟩
    |true=>
     cases (m.configs[k].epoch==((k+1:Nat):Int)) with
     |false=>exact .inr ⟨rfl,rfl,trivial⟩
     |true=>exact .inl ⟨rfl,rfl,trivial⟩)
 unfold Eo H8;rcases fA with ⟨k1,k2,_⟩| ⟨k,_,k1,k2,_⟩
 ·rw[show H0 (((),0,()),((m.configs,m.activated,()),()),())=_ from k1,show KO (((),m.configs,(m.configs.length:Int),0,()),((m.configs,m.activated,()),()),())=_ from k2];simp only[ao,DX,EF,IU];exact⟨_,rfl,rfl⟩
 ·rw[show H0 (((),0,()),((m.configs,m.activated,()),()),())=_ from k1,show KO (((),m.configs,(m.configs.length:Int),0,()),((m.configs,m.activated,()),()),())=_ from k2];exact⟨_,rfl,rfl⟩
theorem L6(x:uK):Dg (FF x) (Gx x):=by unfold FF Gx;simp only[EF,IU,ao];cases ((x.epoch==0)&&((x.holder==0)&&((x.ends==0)&&true)))<;>cases Gp x.epoch 1 20<;>cases Gp x.holder 0 4<;>exact⟨_,rfl,rfl⟩
theorem JU(l:List uN)(hl:l.length<=maxLen):Dg (ES l) (Jh l):=by
 have fA:=CN (B1:=Hl) (B2:=Ez) l.length (λk=>((l,(k:Int),()),(),())) (λk=>((l,(),(l.length:Int),(k:Int),()),(),())) (.inr ((l,(),()),(),())) (.inr (((),()),(),())) (λ_=> .inl ((l,false,()),(),())) (λk=> .inl (((k:Int),()),(),()))
  (λ_=>True) (λ_=>True)
  (by simp only[Hl];rw[CY,if_neg (by omega)])
  (by simp only[Ez];rw[CY,if_neg (by omega)])
  (λk hk=>by
    have c1: (k:Int)< (l.length:Int):=by omega
    have c2: (0:Int)<=(k:Int):=by omega
    simp only[Hl,Ez,CY,BX,if_pos c1,if_pos c2,DC,aq hk,ao,Jx,EF,IU,BG hl hk];cases Gp l[k].rack 0 9 with
    |false=>exact .inr ⟨rfl,rfl,trivial⟩
    |true=>
     cases Gp l[k].capacity 0 9 with
     |false=>exact .inr ⟨rfl,rfl,trivial⟩
     |true=>
      cases Gp l[k].load 0 99 with
      |false=>exact .inr ⟨rfl,rfl,trivial⟩
      |true=>exact .inl ⟨rfl,rfl,trivial⟩)
 unfold ES Jh Fg Fp;rcases fA with ⟨k1,k2,_⟩| ⟨k,_,k1,k2,_⟩
 ·rw[show Ml ((l,0,()),(),())=_ from k1,show FL ((l,(),(l.length:Int),0,()),(),())=_ from k2];simp only[ao,DX];cases ((l.length:Int)==5)<;>exact⟨_,rfl,rfl⟩
 ·rw[show Ml ((l,0,()),(),())=_ from k1,show FL ((l,(),(l.length:Int),0,()),(),())=_ from k2];simp only[ao,DV];rw[decide_eq_true (by omega)];cases ((l.length:Int)==5)<;>exact⟨_,rfl,rfl⟩
theorem VS(x:Op):Dg (EH x) (Ji x):=by unfold EH Ji;simp only[EF,IU,ao];cases Gp x.client 0 2<;>cases Gp x.seq 1 99<;>cases Gp x.object 0 2<;>cases Gp x.value 0 9<;>cases (x.kind==1)<;>cases (x.kind==2)<;>cases (x.old==0)<;>exact⟨_,rfl,rfl⟩
theorem isLog(l:List rj)(hl:l.length<=maxLen): (EL l=some (true,())/\Jy l=some (true,())/\l.length<=16)\/(EL l=some (false,())/\Jy l=some (false,())):=by
 have fA:=CN (B1:=Iz) (B2:=Li) l.length (λk=>((l,(k:Int),()),(),())) (λk=>((l,l,(l.length:Int),(k:Int),()),(),())) (.inr ((l,(),()),(),())) (.inr ((l,(),()),(),())) (λ_=> .inl ((l,false,()),(),())) (λ_=> .inl ((l,false,()),(),()))
  (λ_=>True) (λ_=>True)
  (by simp only[Iz];rw[CY,if_neg (by omega)])
  (by simp only[Li];rw[CY,if_neg (by omega)])
  (λk hk=>by
    have c1: (k:Int)< (l.length:Int):=by omega
    have c2: (0:Int)<=(k:Int):=by omega
    obtain⟨b,v1,v2⟩:=VS l[k].op;simp only[Iz,Li,CY,BX,if_pos c1,if_pos c2,DC,aq hk,ao,v1,v2,EF,IU,BG hl hk,Eb];cases Gp l[k].epoch 1 20 with
    |false=>exact .inr ⟨rfl,rfl,trivial⟩
    |true=>
     simp only[CG];by_cases h0:0<k
     ·have c3: (k:Int)>0:=by omega
      have c4: (0:Int)<=((k-1:Nat):Int):=by omega
      have e2:l[k-1]? =some l[k-1] :=aq (by omega);simp only[if_pos c3,BF h0 (by omega),if_pos c4,DC,e2,ao];by_cases hlt:l[k].epoch<l[k-1].epoch
      ·rw[if_pos hlt,if_pos (show l[k-1].epoch>l[k].epoch from hlt)];cases b<;>exact .inr ⟨rfl,rfl,trivial⟩
      ·rw[if_neg hlt,if_neg (show ¬l[k-1].epoch>l[k].epoch from hlt)];cases b with
       |false=>exact .inr ⟨rfl,rfl,trivial⟩
       |true=>exact .inl ⟨rfl,rfl,trivial⟩
     ·have c3: ¬ (k:Int)>0:=by omega
      simp only[if_neg c3];cases b with
      |false=>exact .inr ⟨rfl,rfl,trivial⟩
      |true=>exact .inl ⟨rfl,rfl,trivial⟩)
 unfold EL Jy;rcases fA with ⟨k1,k2,_⟩| ⟨k,_,k1,k2,_⟩
 ·rw[show MI ((l,0,()),(),())=_ from k1,show PB ((l,l,(l.length:Int),0,()),(),())=_ from k2];simp only[ao,DX];by_cases h: (l.length:Int)<=16
  ·rw[decide_eq_true h];exact .inl ⟨rfl,rfl,by omega⟩
  ·rw[decide_eq_false h];exact .inr ⟨rfl,rfl⟩
 ·rw[show MI ((l,0,()),(),())=_ from k1,show PB ((l,l,(l.length:Int),0,()),(),())=_ from k2];exact .inr ⟨rfl,rfl⟩
theorem K6(a b:List Int)(ha:a.length<=maxLen):HC a b=some (decide (a=b),())/\HA a b=some (decide (a=b),()):=by
 unfold HC HA La;by_cases hlen:a.length=b.length
 ·have hbe: (!((a.length:Int)==(b.length:Int)))=false:=by simp[hlen]
  have fA:=CN (B1:=GN) (B2:=Hx) a.length (λk=>((a,b,(k:Int),()),(),())) (λk=>((a,b,(a.length:Int),(k:Int),()),(),())) (.inr (((),()),(),())) (.inr (((),()),(),())) (λ_=> .inl ((false,()),(),())) (λ_=> .inl ((false,()),(),()))
   (λk=>a[k]? =b[k]?) (λk=>a[k]? ≠b[k]?)
   (by simp only[GN];rw[CY,if_neg (by omega)])
   (by simp only[Hx];rw[CY,if_neg (by omega)])
   (λk hk=>by
     have c1: (k:Int)< (a.length:Int):=by omega
     have c2: (0:Int)<=(k:Int):=by omega
     simp only[GN,Hx,CY,BX,if_pos c1,if_pos c2,DC,aq hk,aq (show k<b.length by omega),ao,BG ha hk,Eb,G2];by_cases he:a[k] =b[k]'(by omega)
     ·simp only[if_pos he];exact .inl ⟨trivial,trivial,by rw[he]⟩
     ·simp only[if_neg he];exact .inr ⟨trivial,trivial,λh=>he (Option.some.inj h)⟩)
  rw[hbe,BI,BI];rcases fA with ⟨k1,k2,k3⟩| ⟨k,hk,k1,k2,k3⟩
  ·rw[show J7 ((a,b,0,()),(),())=_ from k1,show LJ ((a,b,(a.length:Int),0,()),(),())=_ from k2]
   have :a=b:=bz λk=>by
    rcases cY k a.length with h|h
    ·exact k3 k h
    ·rw[cx h,cx (by omega)]
   rw[decide_eq_true this];exact⟨rfl,rfl⟩
  ·rw[show J7 ((a,b,0,()),(),())=_ from k1,show LJ ((a,b,(a.length:Int),0,()),(),())=_ from k2];have :a≠b:=λh=>k3 (by rw[h]);rw[decide_eq_false this];exact⟨rfl,rfl⟩
 ·have hbe: (!((a.length:Int)==(b.length:Int)))=true:=by
   simp only[bN,beq_eq_false_iff_ne,ne_eq];omega
  rw[hbe,CG,CG,decide_eq_false (λh=>hlen (by rw[h]))];exact⟨rfl,rfl⟩
theorem FV(a b:nE)(ha:Gc maxLen a):FY a b=some (decide (a=b),())/\Gs a b=some (decide (a=b),()):=by unfold FY Gs;simp only[(K6 a.replicas b.replicas ha.1).1,(K6 a.replicas b.replicas ha.1).2,(K6 a.witnesses b.witnesses ha.2).1,(K6 a.witnesses b.witnesses ha.2).2,ao,G2,CY];obtain⟨a1,a2,a3,a4⟩:=a;obtain⟨b1,b2,b3,b4⟩:=b;simp only[nE.mk.injEq];by_cases h1:a1=b1<;>by_cases h2:a2=b2<;>by_cases h3:a3=b3<;>by_cases h4:a4=b4<;>simp[h1,h2,h3,h4]
theorem GU(l:List rj)(hl:l.length<=maxLen): ∃n,GS l=some (n,())/\Jj l=some (n,()):=by
 unfold GS Jj;rcases bn l.length with h|h
 ·have : ((l.length:Int)==0)=true:=by simp[h]
  rw[this];exact⟨_,rfl,rfl⟩
 ·have : ((l.length:Int)==0)=false:=by
   simp only[beq_eq_false_iff_ne,ne_eq];omega
  rw[this,BI,BF h hl,B0 (by omega),DC,aq (show l.length-1<l.length by omega)];exact⟨_,rfl,rfl⟩
theorem KU(c:nE)(x:Int)(h:Gc maxLen c): ∃n,EJ c x=some (n,())/\Ks c x=some (n,())/\(n=0\/n=1\/n=2\/n=3):=by unfold EJ Ks;obtain⟨b,v1,v2⟩:=Gu c h;simp only[v1,v2,ao,(Ey c.replicas x h.1).1,(Ey c.replicas x h.1).2,(Ey c.witnesses x h.2).1,(Ey c.witnesses x h.2).2];cases b<;>cases (x==c.primary)<;>cases decide (x∈c.replicas)<;>cases decide (x∈c.witnesses)<;>exact⟨_,rfl,rfl,by decide⟩
end
section
theorem Ee{c:nE}(h:Gc 1048576 c):Gc maxLen c:=⟨Em h.1,Em h.2⟩
theorem Ff{m:jY}(h:NZ 1048576 m):NZ maxLen m:=⟨Em h.1,λc hc=>Ee (h.2 c hc)⟩
theorem Ih(c:nE)(h:Gc maxLen c):Ic c=some (decide (c=⟨0,0,[],[]⟩),()):=by unfold Ic;rw[(FV c _ h).1];rfl
theorem Jp(s:qj)(id:Int)(h:ED 1048576 s):Dg (Ed s id) (G6 s id):=by
 have hc:=Ee h.1;unfold Ed G6;simp only[EF,IU,ao,Eb];cases Gp s.version 1 2 with
 |false=>exact⟨_,rfl,rfl⟩
 |true=>
 cases Gp s.epoch 0 20 with
 |false=>exact⟨_,rfl,rfl⟩
 |true=>
 rcases isLog s.log (Em h.2.1) with ⟨a1,a2,a3⟩| ⟨a1,a2⟩
 case inr=>simp only[a1,a2,ao,CG,BI];exact⟨_,rfl,rfl⟩
 rcases isLog s.learned (Em h.2.2) with ⟨b1,b2,b3⟩| ⟨b1,b2⟩
 case inr=>simp only[a1,a2,b1,b2,ao,CG,BI];exact⟨_,rfl,rfl⟩
 simp only[a1,a2,b1,b2,ao,CG];cases hw:Gp s.first 0 16 with
 |false=>exact⟨_,rfl,rfl⟩
 |true=>
 have hf:=Ec.1 hw;rw[vM (n:=s.first+(s.log.length:Int)) (by omega) (by omega)];by_cases h16:s.first+(s.log.length:Int)<=16
 case neg=>
  have e1:Gp (s.first+(s.log.length:Int)) 0 16=false:=by unfold Gp;simp;omega
  simp only[e1,CG,BI,CY,if_pos (show s.first+(s.log.length:Int)>16 by omega)];exact⟨_,rfl,rfl⟩
 have e1:Gp (s.first+(s.log.length:Int)) 0 16=true:=Ec.2 ⟨by omega,h16⟩;simp only[e1,CG,CY,if_neg (show ¬s.first+(s.log.length:Int)>16 by omega),Ih s.config hc,(FV s.config ⟨0,0,[],[]⟩ hc).2,ao];cases Gp s.commit 0 (s.first+(s.log.length:Int)) with
 |false=>exact⟨_,rfl,rfl⟩
 |true=>
 simp only[CG];by_cases hz:s.config=⟨0,0,[],[]⟩
 ·simp only[if_pos hz];cases (s.first==0)<;>cases (s.commit==0)<;>cases ((s.log.length:Int)==0)<;>exact⟨_,rfl,rfl⟩
 ·simp only[if_neg hz];cases s.intact with
  |false=>exact⟨_,rfl,rfl⟩
  |true=>
  simp only[CG];by_cases he:s.epoch<s.config.epoch
  ·simp only[if_pos he];exact⟨_,rfl,rfl⟩
  ·simp only[if_neg he];obtain⟨n,n1,n2⟩:=GU s.log (Em h.2.1);simp only[n1,n2,ao];by_cases hn:n>s.config.epoch
   ·simp only[if_pos hn];exact⟨_,rfl,rfl⟩
   ·simp only[if_neg hn];obtain⟨r,r1,r2,r3⟩:=KU s.config id hc;simp only[r1,r2,ao];rcases r3 with rfl|rfl|rfl|rfl
    ·exact⟨_,rfl,rfl⟩
    ·exact⟨_,rfl,rfl⟩
    ·exact⟨_,rfl,rfl⟩
    ·have ht:Lq s.first s.log=some (decide ((s.log.length:Int)<=3)&&((s.first==0)||((s.log.length:Int)==3)),()):=by
      unfold Lq;simp only[a2,IU,ao,CG,CY];rw[vM (by omega) (by omega),show Gp s.first 0 (16-(s.log.length:Int))=true from Ec.2 ⟨by omega,by omega⟩];by_cases h3: (s.log.length:Int)<=3
      ·rw[if_pos h3,decide_eq_true h3];cases (s.first==0)<;>cases ((s.log.length:Int)==3)<;>rfl
      ·rw[if_neg h3,decide_eq_false h3];rfl
     rw[ht];by_cases h3: (s.log.length:Int)<=3
     ·rw[if_pos h3,decide_eq_true h3];cases (s.first==0)<;>cases ((s.log.length:Int)==3)<;>exact⟨_,rfl,rfl⟩
     ·rw[if_neg h3,decide_eq_false h3];exact⟨_,rfl,rfl⟩
theorem My(m:jY)(e:Int)(h:NZ 1048576 m): ∃c b,Fm m e=some (c,b,())/\Io m e=some (c,b,())/\Gc maxLen c:=by
 obtain⟨b,m1,m2⟩:=masterLog m (Ff h);have zero:Gc maxLen ⟨0,0,[],[]⟩:=⟨bM _,bM _⟩
 have hl:=h.1;unfold Fm Io;simp only[m1,m2,EF,IU,ao,Eb];cases b with
 |false=>exact⟨_,_,rfl,rfl,zero⟩
 |true=>
  cases hw:Gp e 1 (m.configs.length:Int) with
  |false=>exact⟨_,_,rfl,rfl,zero⟩
  |true=>
   have hw:=Ec.1 hw;simp only[CG];rw[vM (n:=e-1) (by omega) (by omega)];have hlt: (e-1).toNat<m.configs.length:=by omega
   have hk:=h.2 _ (DF hlt)
   have copy: ∀c:nE,Gc 1048576 c->GW c=some (c,())/\FW c=some (c,()):=by intro c hc;unfold GW FW;simp only[bF];rw[B0 (HW hc.1),B0 (HW hc.2)];exact⟨rfl,rfl⟩
   rw[B0 (by omega),B0 (by omega),aq hlt];simp only[ao,(copy _ hk).1,(copy _ hk).2];exact⟨_,_,rfl,rfl,Ee hk⟩
theorem Fd(x:qg)(h:Ew 1048576 x):Dg (Ea x) (Fy x):=by
 obtain⟨⟨hs1,hs2⟩,hsd,hml,hpl⟩:=h;have hm:=Em hs1
 have fA:=CN (B1:=Eh) (B2:=Gg) x.servers.length (λk=>(((),(k:Int),()),((x.now,x.servers,x.sides,x.master.configs,x.master.activated,x.masterUp,x.lease.epoch,x.lease.holder,x.lease.ends,x.places,()),()),())) (λk=>(((),x.servers,(x.servers.length:Int),(k:Int),()),((x.now,x.servers,x.sides,x.master.configs,x.master.activated,x.masterUp,x.lease.epoch,x.lease.holder,x.lease.ends,x.places,()),()),())) (.inr (((),()),(),())) (.inr (((),()),(),())) (λ_=> .inl ((false,()),(),())) (λ_=> .inl ((false,()),(),()))
  (λ_=>True) (λ_=>True)
  (by simp only[Eh];rw[CY,if_neg (by omega)])
  (by simp only[Gg];rw[CY,if_neg (by omega)])
  (λk hk=>by
    have c1: (k:Int)< (x.servers.length:Int):=by omega
    have c2: (0:Int)<=(k:Int):=by omega
    have hsk:=hs2 _ (DF hk);obtain⟨b,v1,v2⟩:=Jp x.servers[k] (k:Int) hsk;obtain⟨n,n1,n2⟩:=GU x.servers[k].learned (Em hsk.2.2);obtain⟨c,d,d1,d2,d3⟩:=My x.master x.servers[k].config.epoch hml;have hcfg:=Ee hsk.1
    simp only[Eh,Gg,CY,BX,if_pos c1,if_pos c2,DC,aq hk,ao,v1,v2,n1,n2,BG hm hk,Eb,
     show (⟨x.master.configs,x.master.activated⟩:jY)=x.master from rfl,d1,d2,Ih _ hcfg,(FV _ (⟨0,0,[],[]⟩:nE) hcfg).2,(FV c x.servers[k].config d3).1,(FV c x.servers[k].config d3).2]
    cases b with
    |false=>exact .inr ⟨rfl,rfl,trivial⟩
    |true=>
     simp only[CG];by_cases h1:x.servers[k].epoch>(x.master.configs.length:Int)
     ·simp only[if_pos h1];exact .inr ⟨trivial,trivial,trivial⟩
     ·simp only[if_neg h1];by_cases h2:n>x.master.activated
      ·simp only[if_pos h2];exact .inr ⟨trivial,trivial,trivial⟩
      ·simp only[if_neg h2];by_cases h3:x.servers[k].config=⟨0,0,[],[]⟩
       ·simp only[if_pos h3];exact .inl ⟨trivial,trivial,trivial⟩
       ·simp only[if_neg h3];cases d with
        |false=>exact .inr ⟨rfl,rfl,trivial⟩
        |true=>
         simp only[CG];by_cases h4:c=x.servers[k].config
         ·simp only[if_pos h4];by_cases h5:x.servers[k].config.epoch>x.master.activated
          ·simp only[if_pos h5];exact .inr ⟨trivial,trivial,trivial⟩
          ·simp only[if_neg h5];exact .inl ⟨trivial,trivial,trivial⟩
         ·simp only[if_neg h4];exact .inr ⟨trivial,trivial,trivial⟩)
 unfold Ea Fy;obtain⟨b1,a1,a2⟩:=Kr x.sides (Em hsd);obtain⟨b2,m1,m2⟩:=masterLog x.master (Ff hml);obtain⟨b3,l1,l2⟩:=L6 x.lease;obtain⟨b4,p1,p2⟩:=JU x.places (Em hpl);simp only[EF,IU,a1,a2,m1,m2,l1,l2,p1,p2,ao,Eb,CY];cases Gp x.now 0 999 with
 |false=>exact⟨_,rfl,rfl⟩
 |true=>
 cases ((x.servers.length:Int)==5) with
 |false=>exact⟨_,rfl,rfl⟩
 |true=>
 cases b1 with
 |false=>exact⟨_,rfl,rfl⟩
 |true=>
 cases b2 with
 |false=>exact⟨_,rfl,rfl⟩
 |true=>
 cases Gp x.masterUp 0 3 with
 |false=>cases b3<;>cases b4<;>exact⟨_,rfl,rfl⟩
 |true=>
 cases b3 with
 |false=>exact⟨_,rfl,rfl⟩
 |true=>
 cases b4 with
 |false=>exact⟨_,rfl,rfl⟩
 |true=>
 simp only[CG];by_cases h1:x.lease.epoch>x.master.activated
 ·simp only[if_pos h1];exact⟨_,rfl,rfl⟩
 ·simp only[if_neg h1];rcases fA with ⟨k1,k2,_⟩| ⟨k,_,k1,k2,_⟩
  ·rw[show Gl (((),0,()),((x.now,x.servers,x.sides,x.master.configs,x.master.activated,x.masterUp,x.lease.epoch,x.lease.holder,x.lease.ends,x.places,()),()),())=_ from k1,show Jc (((),x.servers,(x.servers.length:Int),0,()),((x.now,x.servers,x.sides,x.master.configs,x.master.activated,x.masterUp,x.lease.epoch,x.lease.holder,x.lease.ends,x.places,()),()),())=_ from k2];exact⟨_,rfl,rfl⟩
  ·rw[show Gl (((),0,()),((x.now,x.servers,x.sides,x.master.configs,x.master.activated,x.masterUp,x.lease.epoch,x.lease.holder,x.lease.ends,x.places,()),()),())=_ from k1,show Jc (((),x.servers,(x.servers.length:Int),0,()),((x.now,x.servers,x.sides,x.master.configs,x.master.activated,x.masterUp,x.lease.epoch,x.lease.holder,x.lease.ends,x.places,()),()),())=_ from k2];exact⟨_,rfl,rfl⟩
end
section
theorem Fc{c:nE}(h:Gc maxLen c)(hv:Eg c=some (true,())):MY c.replicas/\MY c.witnesses/\c.primary∈c.replicas/\1<=c.epoch/\c.epoch<=20/\ ∀x∈c.replicas,x∉c.witnesses:=by
 unfold Eg at hv;simp only[EF,ao] at hv;cases hw:Gp c.epoch 1 20 with
 |false=>rw[hw] at hv;cases hv
 |true=>
  rw[hw] at hv;rcases MZ c.replicas h.1 with ⟨a1,a2,a3⟩| ⟨a1,a2⟩
  ·rcases MZ c.witnesses h.2 with ⟨b1,b2,b3⟩| ⟨b1,b2⟩
   ·simp only[a1,b1,ao,CG,(Ey c.replicas c.primary h.1).1,QD _ _ a3 h.2,CY] at hv;by_cases hp:c.primary∈c.replicas
    ·rw[if_pos hp] at hv;refine⟨a3,b3,hp,(Ec.1 hw).1,(Ec.1 hw).2,λx hx hxw=> ?_⟩
     have hz: ((((c.replicas.filter λx=>decide (x∈c.witnesses)).length:Nat):Int)==0)=true:=by simpa using hv
     have hz: (c.replicas.filter λx=>decide (x∈c.witnesses)).length=0:=by simp only[beq_iff_eq] at hz;omega
     have:=ba hz;have hm:x∈c.replicas.filter λx=>decide (x∈c.witnesses):=by simp[D0,hx,hxw]
     rw[this] at hm;cases hm
    ·rw[if_neg hp] at hv;cases hv
   ·simp only[a1,b1,ao,CG,BI] at hv;cases hv
  ·simp only[a1,ao,CG,BI] at hv;cases hv
theorem II{m:jY}(h:NZ maxLen m)(hv:Eo m=some (true,())): (∀k (hk:k<m.configs.length),Eg m.configs[k] =some (true,())/\m.configs[k].epoch=(k:Int)+1)/\0<=m.activated/\m.activated<=(m.configs.length:Int):=by
 obtain⟨hl,hc⟩:=h
 have fA:=CN (B1:=EW) (B2:=EW) m.configs.length (λk=>(((),(k:Int),()),((m.configs,m.activated,()),()),())) (λk=>(((),(k:Int),()),((m.configs,m.activated,()),()),())) (.inr (((),(),()),((m.configs,m.activated,()),()),())) (.inr (((),(),()),((m.configs,m.activated,()),()),())) (λ_=> .inl (((),false,()),((m.configs,m.activated,()),()),())) (λ_=> .inl (((),false,()),((m.configs,m.activated,()),()),()))
  (λk=> ∀hk:k<m.configs.length,Eg m.configs[k] =some (true,())/\m.configs[k].epoch=(k:Int)+1) (λ_=>True)
  (by simp only[EW];rw[CY,if_neg (by omega)])
  (by simp only[EW];rw[CY,if_neg (by omega)])
  (λk hk=>by
    have c1: (k:Int)< (m.configs.length:Int):=by omega
    have c2: (0:Int)<=(k:Int):=by omega
    obtain⟨b,v1,v2⟩:=Gu m.configs[k] (hc _ (DF hk))
    have step:EW (((),(k:Int),()),((m.configs,m.activated,()),()),())=br b (br (m.configs[k].epoch==((k+1:Nat):Int)) (some (.inl (((),((k+1:Nat):Int),()),((m.configs,m.activated,()),()),()))) (some (.inr (.inl (((),false,()),((m.configs,m.activated,()),()),()))))) (some (.inr (.inl (((),false,()),((m.configs,m.activated,()),()),())))):=by simp only[EW,CY,BX,if_pos c1,if_pos c2,DC,aq hk,ao,v1,BG hl hk,Eb]
    rw[step];cases b with
    |false=>exact .inr ⟨rfl,rfl,trivial⟩
    |true=>
     rw[CG,G2];by_cases he:m.configs[k].epoch=((k+1:Nat):Int)
     ·rw[if_pos he];exact .inl ⟨rfl,rfl,λ_=>⟨v1,by omega⟩⟩
     ·rw[if_neg he];exact .inr ⟨rfl,rfl,trivial⟩)
 unfold Eo at hv;rcases fA with ⟨k1,_,k3⟩| ⟨k,_,k1,_,_⟩
 ·rw[show H0 (((),0,()),((m.configs,m.activated,()),()),())=_ from k1] at hv;simp only[ao,DX,EF,af,au,and_true] at hv;exact⟨λk hk=>k3 k hk hk,(Ec.1 hv).1,(Ec.1 hv).2⟩
 ·rw[show H0 (((),0,()),((m.configs,m.activated,()),()),())=_ from k1] at hv;cases hv
theorem FO{s:qj}{id:Int}(h:ED 1048576 s)(hv:Ed s id=some (true,())):0<=s.first/\s.first<=16/\s.log.length<=16/\0<=s.commit/\s.commit<=s.first+(s.log.length:Int)/\EL s.log=some (true,())/\EL s.learned=some (true,())/\0<=s.epoch/\s.epoch<=20:=by
 unfold Ed at hv;simp only[EF,ao,Eb] at hv;cases h1:Gp s.version 1 2 with
 |false=>rw[h1] at hv;cases hv
 |true=>
 cases h2:Gp s.epoch 0 20 with
 |false=>rw[h1,h2] at hv;cases hv
 |true=>
 rw[h1,h2] at hv;rcases isLog s.log (Em h.2.1) with ⟨a1,a2,a3⟩| ⟨a1,a2⟩
 case inr=>simp only[a1,ao,CG,BI] at hv;cases hv
 rcases isLog s.learned (Em h.2.2) with ⟨b1,b2,b3⟩| ⟨b1,b2⟩
 case inr=>simp only[a1,b1,ao,CG,BI] at hv;cases hv
 simp only[a1,b1,ao,CG] at hv;cases hw:Gp s.first 0 16 with
 |false=>rw[hw] at hv;cases hv
 |true=>
 have hf:=Ec.1 hw;rw[hw,vM (n:=s.first+(s.log.length:Int)) (by omega) (by omega)] at hv;simp only[CG] at hv;cases h3:Gp (s.first+(s.log.length:Int)) 0 16 with
 |false=>rw[h3] at hv;cases hv
 |true=>
 cases h4:Gp s.commit 0 (s.first+(s.log.length:Int)) with
 |false=>rw[h3,h4] at hv;cases hv
 |true=>
 exact⟨hf.1,hf.2,a3,(Ec.1 h4).1,(Ec.1 h4).2,a1,b1,(Ec.1 h2).1,(Ec.1 h2).2⟩
structure VC (x:qg):Prop where
 len:x.servers.length=5
 ml:Eo x.master=some (true,())
 sides:Fj x.sides=some (true,())
 places:ES x.places=some (true,())
 lease:FF x.lease=some (true,())
 now:0<=x.now/\x.now<=999
 up:0<=x.masterUp/\x.masterUp<=3
 srv: ∀k (hk:k<x.servers.length),Ed x.servers[k] (k:Int)=some (true,())
theorem El{x:qg}(h:Ew 1048576 x)(hv:Ea x=some (true,())):VC x:=by
 obtain⟨⟨hs1,hs2⟩,hsd,hml,hpl⟩:=h;have hm:=Em hs1
 have fA:=CN (B1:=Eh) (B2:=Eh) x.servers.length (λk=>(((),(k:Int),()),((x.now,x.servers,x.sides,x.master.configs,x.master.activated,x.masterUp,x.lease.epoch,x.lease.holder,x.lease.ends,x.places,()),()),())) (λk=>(((),(k:Int),()),((x.now,x.servers,x.sides,x.master.configs,x.master.activated,x.masterUp,x.lease.epoch,x.lease.holder,x.lease.ends,x.places,()),()),())) (.inr (((),()),(),())) (.inr (((),()),(),())) (λ_=> .inl ((false,()),(),())) (λ_=> .inl ((false,()),(),()))
  (λk=> ∀hk:k<x.servers.length,Ed x.servers[k] (k:Int)=some (true,())) (λ_=>True)
  (by simp only[Eh];rw[CY,if_neg (by omega)])
  (by simp only[Eh];rw[CY,if_neg (by omega)])
  (λk hk=>by
    have c1: (k:Int)< (x.servers.length:Int):=by omega
    have c2: (0:Int)<=(k:Int):=by omega
    have hsk:=hs2 _ (DF hk);obtain⟨b,v1,v2⟩:=Jp x.servers[k] (k:Int) hsk;obtain⟨n,n1,n2⟩:=GU x.servers[k].learned (Em hsk.2.2);obtain⟨c,d,d1,d2,d3⟩:=My x.master x.servers[k].config.epoch hml;have hcfg:=Ee hsk.1
    have step:Eh (((),(k:Int),()),((x.now,x.servers,x.sides,x.master.configs,x.master.activated,x.masterUp,x.lease.epoch,x.lease.holder,x.lease.ends,x.places,()),()),())=some (.inr (.inl ((false,()),(),())))\/(b=true/\Eh (((),(k:Int),()),((x.now,x.servers,x.sides,x.master.configs,x.master.activated,x.masterUp,x.lease.epoch,x.lease.holder,x.lease.ends,x.places,()),()),())=some (.inl (((),((k+1:Nat):Int),()),((x.now,x.servers,x.sides,x.master.configs,x.master.activated,x.masterUp,x.lease.epoch,x.lease.holder,x.lease.ends,x.places,()),()),()))):=by
     simp only[Eh,CY,BX,if_pos c1,if_pos c2,DC,aq hk,ao,v1,n1,BG hm hk,Eb,
      show (⟨x.master.configs,x.master.activated⟩:jY)=x.master from rfl,d1,Ih _ hcfg,(FV c x.servers[k].config d3).1]
     cases b with
     |false=>exact .inl rfl
     |true=>
      simp only[CG]
      repeat' split
      all_goals first |exact .inl trivial|exact .inr ⟨trivial,trivial⟩| (cases d<;>first |exact .inl rfl| (simp only[CG];repeat' split)<;>first |exact .inl trivial|exact .inr ⟨trivial,trivial⟩)
    rcases step with h1| ⟨rfl,h1⟩
    ·rw[h1];exact .inr ⟨rfl,rfl,trivial⟩
    ·rw[h1];exact .inl ⟨rfl,rfl,λ_=>v1⟩)
 unfold Ea at hv;obtain⟨b1,a1,a2⟩:=Kr x.sides (Em hsd);obtain⟨b2,m1,m2⟩:=masterLog x.master (Ff hml);obtain⟨b3,l1,l2⟩:=L6 x.lease;obtain⟨b4,p1,p2⟩:=JU x.places (Em hpl);simp only[EF,a1,m1,l1,p1,ao,Eb,CY] at hv;cases h1:Gp x.now 0 999 with
 |false=>rw[h1] at hv;cases hv
 |true=>
 cases h2: ((x.servers.length:Int)==5) with
 |false=>rw[h1,h2] at hv;cases hv
 |true=>
 cases b1 with
 |false=>rw[h1,h2] at hv;cases hv
 |true=>
 cases b2 with
 |false=>rw[h1,h2] at hv;cases hv
 |true=>
 cases h3:Gp x.masterUp 0 3 with
 |false=>rw[h1,h2,h3] at hv;cases hv
 |true=>
 cases b3 with
 |false=>rw[h1,h2,h3] at hv;cases hv
 |true=>
 cases b4 with
 |false=>rw[h1,h2,h3] at hv;cases hv
 |true=>
 rw[h1,h2,h3] at hv;simp only[CG] at hv;by_cases h4:x.lease.epoch>x.master.activated
 ·rw[if_pos h4] at hv;cases hv
 ·rw[if_neg h4] at hv;rcases fA with ⟨k1,_,k3⟩| ⟨k,_,k1,_,_⟩
  ·refine⟨?_,m1,a1,p1,l1,Ec.1 h1,Ec.1 h3,λk hk=>k3 k hk hk⟩;simp only[beq_iff_eq] at h2;omega
  ·rw[show Gl (((),0,()),((x.now,x.servers,x.sides,x.master.configs,x.master.activated,x.masterUp,x.lease.epoch,x.lease.holder,x.lease.ends,x.places,()),()),())=_ from k1] at hv;cases hv
end
section

end
section
section
variable {α:Type}
def V7(w:α->Int):List α->Int
 | [] =>0
 |x::l=>w x+V7 w l
def Yz(l:List α):Int:=(l.length:Int)
end
def aaJ(c:nE):Int:=Yz c.replicas+Yz c.witnesses
def aay(s:qj):Int:=aaJ s.config+Yz s.log+Yz s.learned
end
section

end
section
theorem Pm{n c:Nat}(h:n<=1048577)(hc:c<=1000):n*c<=2 ^ 40:=by
 have h1:n*c<=1048577*1000:=Nat.mul_le_mul h hc;have h2: (2:Nat) ^ 40=1099511627776:=by decide
 omega
theorem N4(c:nE)(h:Gc 1048576 c):GW c=some (c,())/\FW c=some (c,()):=by have a:=h.1;have b:=h.2;unfold GW FW;simp only[bF,BX,if_pos (Pm (DS a) (show 8<=1000 by decide)),if_pos (Pm (DS b) (show 8<=1000 by decide))];exact⟨trivial,trivial⟩
theorem Ki(l:List rj)(h:l.length<=1048576):FC l=some (l,())/\Fv l=some (l,()):=by unfold FC Fv;simp only[bF,BX,if_pos (Pm (DS h) (show 56<=1000 by decide))];exact⟨trivial,trivial⟩
theorem X2(l:List Int)(h:l.length<=1048576):HV l=some (l,()):=by unfold HV;simp only[BX,if_pos (Pm (DS h) (show 8<=1000 by decide))]
theorem UH(l:List uN)(h:l.length<=1048576):Lz l=some (l,()):=by unfold Lz;simp only[BX,if_pos (Pm (DS h) (show 24<=1000 by decide))]
theorem L5(s:qj)(h:ED 1048576 s):G8 s=some (s,())/\K7 s=some (s,()):=by unfold G8 K7;simp only[(N4 _ h.1).1,(N4 _ h.1).2,(Ki _ h.2.1).1,(Ki _ h.2.1).2,(Ki _ h.2.2).1,(Ki _ h.2.2).2,ao];exact⟨trivial,trivial⟩
theorem FR{α:Type}{l:List α}{k:Nat}{x:α}(h:l[k]? =some x):l.take (k+1)=l.take k++ [x] :=by rw[DM,h];rfl
theorem Lh{α:Type}(l:List α)(k:Nat)(x:α)(h:l.length<=1048576): (l.take k++ [x]).length<=1048577:=by rw[bJ,cP,cy];omega
theorem Po(m:jY)(h:NZ 1048576 m):J1 m=some (m,())/\M4 m=some (m,()):=by
 obtain⟨hl,hc⟩:=h
 have k1:=B4 (B:=Jf) m.configs (λk (b:List nE)=>(((),(),(),(k:Int),()),((m.configs,m.activated,()),((),0,()),((),m.activated,()),()),(b,()))) (λk b=>b=m.configs.take k) (λ_ _ _=>(((),(),()),(((),0,()),((),m.activated,()),()),(m.configs,())))
  (λb hb=>by simp only[Jf];rw[CY,if_neg (by omega),hb,DK])
  (λk b c hx hb=>by
    have hk:=C5 hx;have c1: (k:Int)< (m.configs.length:Int):=by omega
    have c2: (0:Int)<=(k:Int):=by omega
    subst hb;refine .inl ⟨m.configs.take (k+1),?_,rfl,rfl⟩;simp only[Jf,CY,BX,if_pos c1,if_pos c2,DC,hx,ao,(N4 c (hc c (aA hx))).1,BG (Em hl) hk,if_pos (Pm (Lh m.configs k c hl) (show 64<=1000 by decide)),FR hx])
  0 [] (bM _) rfl
 have k2:=B4 (B:=Ju) m.configs (λk (b:List nE)=>(((),(),m.configs,(m.configs.length:Int),(k:Int),()),(((),0,()),((),m.activated,()),()),(b,()))) (λk b=>b=m.configs.take k) (λ_ _ _=>(((),(),()),(((),0,()),((),m.activated,()),()),(m.configs,())))
  (λb hb=>by simp only[Ju];rw[CY,if_neg (by omega),hb,DK])
  (λk b c hx hb=>by
    have hk:=C5 hx;have c1: (k:Int)< (m.configs.length:Int):=by omega
    have c2: (0:Int)<=(k:Int):=by omega
    subst hb;refine .inl ⟨m.configs.take (k+1),?_,rfl,rfl⟩;simp only[Ju,CY,BX,if_pos c1,if_pos c2,DC,hx,ao,(N4 c (hc c (aA hx))).2,BG (Em hl) hk,if_pos (Pm (Lh m.configs k c hl) (show 64<=1000 by decide)),FR hx])
  0 [] (bM _) rfl
 unfold J1 M4;rw[show P1 (((),(),(),0,()),((m.configs,m.activated,()),((),0,()),((),m.activated,()),()),(([]:List nE),()))=_ from k1,show NG (((),(),m.configs,(m.configs.length:Int),0,()),(((),0,()),((),m.activated,()),()),(([]:List nE),()))=_ from k2];exact⟨rfl,rfl⟩
theorem EG(x:qg)(ok:Ew 1048576 x):EN x=some (x,())/\Me x=some (x,()):=by
 obtain⟨⟨hl,hs⟩,hsd,hml,hpl⟩:=ok
 have k1:=B4 (B:=Jg) x.servers (λk (b:List qj)=>(((),(),(),(k:Int),()),((x.now,x.servers,x.sides,x.master.configs,x.master.activated,x.masterUp,x.lease.epoch,x.lease.holder,x.lease.ends,x.places,()),(0,(),(),(),0,0,0,0,0,(),()),(x.now,(),x.sides,x.master.configs,x.master.activated,x.masterUp,x.lease.epoch,x.lease.holder,x.lease.ends,x.places,()),()),(b,()))) (λk b=>b=x.servers.take k) (λ_ _ _=>(((),(),(),()),((x.now,x.servers,x.sides,x.master.configs,x.master.activated,x.masterUp,x.lease.epoch,x.lease.holder,x.lease.ends,x.places,()),(0,(),(),(),0,0,0,0,0,(),()),(x.now,(),x.sides,x.master.configs,x.master.activated,x.masterUp,x.lease.epoch,x.lease.holder,x.lease.ends,x.places,()),()),(x.servers,())))
  (λb hb=>by simp only[Jg];rw[CY,if_neg (by omega),hb,DK])
  (λk b c hx hb=>by
    have hk:=C5 hx;have c1: (k:Int)< (x.servers.length:Int):=by omega
    have c2: (0:Int)<=(k:Int):=by omega
    subst hb;refine .inl ⟨x.servers.take (k+1),?_,rfl,rfl⟩;simp only[Jg,CY,BX,if_pos c1,if_pos c2,DC,hx,ao,(L5 c (hs c (aA hx))).1,BG (Em hl) hk,if_pos (Pm (Lh x.servers k c hl) (show 152<=1000 by decide)),FR hx])
  0 [] (bM _) rfl
 have k2:=B4 (B:=IY) x.servers (λk (b:List qj)=>(((),(),(),x.servers,(x.servers.length:Int),(k:Int),()),((x.now,x.servers,x.sides,x.master.configs,x.master.activated,x.masterUp,x.lease.epoch,x.lease.holder,x.lease.ends,x.places,()),(0,(),(),(),0,0,0,0,0,(),()),(x.now,(),x.sides,x.master.configs,x.master.activated,x.masterUp,x.lease.epoch,x.lease.holder,x.lease.ends,x.places,()),()),(b,()))) (λk b=>b=x.servers.take k) (λ_ _ _=>(((),(),(),()),((x.now,x.servers,x.sides,x.master.configs,x.master.activated,x.masterUp,x.lease.epoch,x.lease.holder,x.lease.ends,x.places,()),(0,(),(),(),0,0,0,0,0,(),()),(x.now,(),x.sides,x.master.configs,x.master.activated,x.masterUp,x.lease.epoch,x.lease.holder,x.lease.ends,x.places,()),()),(x.servers,())))
  (λb hb=>by simp only[IY];rw[CY,if_neg (by omega),hb,DK])
  (λk b c hx hb=>by
    have hk:=C5 hx;have c1: (k:Int)< (x.servers.length:Int):=by omega
    have c2: (0:Int)<=(k:Int):=by omega
    subst hb;refine .inl ⟨x.servers.take (k+1),?_,rfl,rfl⟩;simp only[IY,CY,BX,if_pos c1,if_pos c2,DC,hx,ao,(L5 c (hs c (aA hx))).2,BG (Em hl) hk,if_pos (Pm (Lh x.servers k c hl) (show 152<=1000 by decide)),FR hx])
  0 [] (bM _) rfl
 unfold EN Me
 rw[show P2 (((),(),(),0,()),((x.now,x.servers,x.sides,x.master.configs,x.master.activated,x.masterUp,x.lease.epoch,x.lease.holder,x.lease.ends,x.places,()),(0,(),(),(),0,0,0,0,0,(),()),(x.now,(),x.sides,x.master.configs,x.master.activated,x.masterUp,x.lease.epoch,x.lease.holder,x.lease.ends,x.places,()),()),(([]:List qj),()))=_ from k1,
  show Nj (((),(),(),x.servers,(x.servers.length:Int),0,()),((x.now,x.servers,x.sides,x.master.configs,x.master.activated,x.masterUp,x.lease.epoch,x.lease.holder,x.lease.ends,x.places,()),(0,(),(),(),0,0,0,0,0,(),()),(x.now,(),x.sides,x.master.configs,x.master.activated,x.masterUp,x.lease.epoch,x.lease.holder,x.lease.ends,x.places,()),()),(([]:List qj),()))=_ from k2]
 have em: (⟨x.master.configs,x.master.activated⟩:jY)=x.master:=rfl;simp only[ao,bF,em,(Po _ hml).1,(Po _ hml).2,X2 _ hsd,UH _ hpl,BX,if_pos (Pm (DS hsd) (show 8<=1000 by decide)),if_pos (Pm (DS hpl) (show 24<=1000 by decide))];exact⟨trivial,trivial⟩
theorem QH(x:qg)(id:Int)(ok:Ew 1048576 x): ∃b,Ha x id=some (b,())/\EU x id=some (b,())/\(b=true->Ea x=some (true,())/\0<=id/\id<5):=by
 obtain⟨v,v1,v2⟩:=Fd x ok;unfold Ha EU;simp only[v1,v2,ao,EF,IU];cases v with
 |false=>exact⟨false,rfl,rfl,nofun⟩
 |true=>refine⟨Gp id 0 4,rfl,rfl,λh=>⟨rfl,?_⟩⟩;have:=Ec.1 h;omega
end
section
theorem X4(n:Int)(h0:0<=n)(h1:n<=1000000):LA n=some ([],()):=by
 unfold LA;have e1:IntKind.wrap .i64 ((0:Int)-0)=0:=vM (by decide) (by decide);have e2:IntKind.wrap .i64 (n-0)=n:=by rw[vM (by omega) (by omega)];omega
 simp only[e1,e2,CY,if_neg (show ¬n<0 by omega)];by_cases h:n>0
 ·have e: (2:Int) ^ 40=1099511627776:=by decide
  have c1:0<n/\n*((8:Nat):Int)<=2 ^ 40:=⟨h,by omega⟩
  have c2: (0:Int)<=0/\(0:Int)<=0/\(0:Int)<=((n.toNat:Nat):Int):=by omega
  simp only[if_pos h,BX,if_pos c1,if_pos c2,and_self,if_true];simp
 ·simp only[if_neg h]
theorem VY(l:List (List Int))(hl:l.length<=10)(h: ∀a∈l,a.length<=1000):Mf l=some (l.flatten,()):=by
 have hm:l.length<=maxLen:=by unfold maxLen;omega
 have tot: ∀k,(l.take k).flatten.length<=k*1000:=by
  intro k
  induction k with
  |zero=>simp
  |succ k ih=>
   cases hx:l[k]? with
   |none=>
    have hle:l.length<=k:=by simpa using hx
    rw[bW hle] at ih;rw[bW (DS hle)];exact aX ih (bq _ (cK k))
   |some a=>rw[FR hx,DW,bJ];have:=h a (aA hx);simp only[List.flatten_cons,List.flatten_nil,bP];rw[Nat.succ_mul];exact Nat.add_le_add ih this
 have k1:=B4 (B:=I1) l (λk (n:Int)=>((l,n,l,(l.length:Int),(k:Int),()),(),())) (λk n=>n=((l.take k).flatten.length:Int)) (λ_ _ _=>((l,(l.flatten.length:Int),()),(),()))
  (λn hn=>by simp only[I1];rw[CY,if_neg (by omega),hn,DK])
  (λk n a hx hn=>by
    have hk:=C5 hx;have c1: (k:Int)< (l.length:Int):=by omega
    have c2: (0:Int)<=(k:Int):=by omega
    have t:=tot k;have ha:=h a (aA hx);have hk10:k*1000<=10000:=by omega
    refine .inl ⟨n+(a.length:Int),?_,?_,rfl⟩
    ·simp only[I1,CY,BX,if_pos c1,if_pos c2,DC,hx,ao,BG hm hk,vM (n:=n+(a.length:Int)) (by omega) (by omega),if_neg (show ¬n+(a.length:Int)<0 by omega)]
    ·rw[FR hx,DW,bJ,hn];simp)
  0 0 (bM _) (by simp)
 have t:=tot l.length;rw[DK] at t
 have k2:=B4 (B:=IC) l (λk (b:List Int)=>(((),l,(l.length:Int),(k:Int),()),(),(b,()))) (λk b=>b=(l.take k).flatten) (λ_ _ _=>(((),()),(),(l.flatten,())))
  (λb hb=>by simp only[IC];rw[CY,if_neg (by omega),hb,DK])
  (λk b a hx hb=>by
    have hk:=C5 hx;have c1: (k:Int)< (l.length:Int):=by omega
    have c2: (0:Int)<=(k:Int):=by omega
    have t:=tot k;have ha:=h a (aA hx);have hs: (b++a).length*8<=2 ^ 40:=Pm (by rw[hb,bJ];omega) (by decide);refine .inl ⟨b++a,?_,?_,rfl⟩
    ·simp only[IC,CY,BX,if_pos c1,if_pos c2,DC,hx,ao,BG hm hk,if_pos hs]
    ·rw[FR hx,DW,hb];simp)
  0 [] (bM _) (by simp)
 unfold Mf;rw[show Nk ((l,0,l,(l.length:Int),0,()),(),())=_ from k1];simp only[ao,X4 _ (show (0:Int)<=(l.flatten.length:Int) by omega) (by omega)];rw[show MM (((),l,(l.length:Int),0,()),(),([],()))=_ from k2];rfl
end
section
def SS(l:List Int):Prop:=l.Pairwise (· < ·)
theorem SS.uniq: ∀ {a b:List Int},SS a->SS b->(∀y,y∈a↔y∈b)->a=b
 | [],[],_,_,_=>rfl
 | [],b::l,_,_,h=>by have:=(h b).2 aK;cases this
 |a::l,[],_,_,h=>by have:=(h a).1 aK;cases this
 |a::l,b::m,ha,hb,h=>by
  obtain⟨a1,a2⟩:=DN.1 ha;obtain⟨b1,b2⟩:=DN.1 hb
  have hab:a=b:=by
   rcases aZ.1 ((h a).1 aK) with e|e
   ·exact e
   ·rcases aZ.1 ((h b).2 aK) with f|f
    ·exact f.symm
    ·have:=b1 a e;have:=a1 b f;omega
  subst hab
  have hlm:l=m:=SS.uniq a2 b2 λy=>by
   constructor
   ·intro hy;rcases aZ.1 ((h y).1 (aI _ hy)) with e|e
    ·have:=a1 y hy;omega
    ·exact e
   ·intro hy;rcases aZ.1 ((h y).2 (aI _ hy)) with e|e
    ·have:=b1 y hy;omega
    ·exact e
  rw[hlm]
theorem TC{A B:List Int}{x:Int}(h:SS (A++B))(ha: ∀y∈A,y<x)(hb: ∀y∈B,x<y):SS (A++ [x] ++B):=by
 obtain⟨h1,h2,h3⟩:=DT.1 h;refine DT.2 ⟨DT.2 ⟨h1,DZ _ _,λa h b hb'=> ?_⟩,h2,λa h b hb'=> ?_⟩
 ·rw[aL.1 hb'];exact ha a h
 ·rcases bC.1 h with h|h
  ·exact h3 a h b hb'
  ·rw[aL.1 h];exact hb b hb'
theorem ZN(l:List Int)(x:Int)(hl:l.length<=1000)(hs:SS l): ∃r,Ig l x=some (r,())/\SS r/\(∀y,y∈r↔y=x\/y∈l)/\r.length<=l.length+1/\(x∉l->r.length=l.length+1):=by
 have hm:l.length<=maxLen:=by unfold maxLen;omega
 rcases JI (B:=IB) l.length (λk=>((l,x,(k:Int),()),(),())) ((l,x,(l.length:Int),()),(),()) (λk=>((l,x,(k:Int),()),(),())) (λk=>match l[k]? with |some y=> !decide (y<x)|none=>false)
  (by simp only[IB];rw[CY,if_neg (by omega)])
  (λk hk=>by
    have c1: (k:Int)< (l.length:Int):=by omega
    have c2: (0:Int)<=(k:Int):=by omega
    simp only[IB,CY,BX,if_pos c1,if_pos c2,DC,aq hk,ao,BG hm hk];by_cases h:l[k]<x<;>simp[h]) with ⟨k1,k2⟩| ⟨i,hi,k1,k2,k3⟩
 ·have all: ∀y∈l,y<x:=by
   intro y hy;obtain⟨k,hk,rfl⟩:=aU hy;have:=k2 k hk;rw[aq hk] at this;simpa using this
  refine⟨l++ [x],Tq l x hl all,?_,?_,?_,λ_=>by simp⟩
  ·have:=TC (A:=l) (B:=[]) (x:=x) (by simpa using hs) all (by simp);simpa using this
  ·intro y;simp[or_comm]
  ·simp
 ·rw[aq hi] at k2;simp only[bN,decide_eq_false_iff_not,Int.not_lt] at k2
  have lt: ∀y∈l.take i,y<x:=by
   intro y hy;obtain⟨j,hj,rfl⟩:=aU hy;have hj':j<i:=by simp at hj;omega
   have:=k3 j hj';rw[aq (by omega)] at this;rw[DY];simpa using this
  have hd:l.drop i=l[i]::l.drop (i+1):=cg hi;have hsp:l.take i++l.drop i=l:=List.take_append_drop i l
  have ge: ∀y∈l.drop i,l[i] <=y:=by
   intro y hy;rw[hd] at hy;rcases aZ.1 hy with rfl|hy
   ·exact cU _
   ·have h2:SS (l.drop i):=List.Pairwise.sublist (List.drop_sublist i l) hs;rw[hd] at h2;exact Int.le_of_lt ((DN.1 h2).1 y hy)
  unfold Ig;rw[show PD ((l,x,0,()),(),())=_ from k1];have c1: (i:Int)< (l.length:Int):=by omega
  have c2: (0:Int)<=(i:Int):=by omega
  simp only[ao,CY,G2,BX,if_pos c1,if_pos c2,DC,aq hi,bF];by_cases he:l[i] =x
  ·simp only[if_pos he,if_pos (HW (show l.length<=1048576 by omega))];refine⟨l,rfl,hs,λy=>⟨.inr,?_⟩,by omega,λh=>absurd (by rw[<-he];exact DF hi) h⟩
   rintro (rfl|h)
   ·rw[<-he];exact DF hi
   ·exact h
  ·have d1: (0:Int)<=0/\(0:Int)<=(i:Int)/\(i:Int)<=(l.length:Int):=by omega
   have d2: (0:Int)<=(i:Int)/\(i:Int)<=(l.length:Int)/\(l.length:Int)<=(l.length:Int):=by omega
   have e1: (l.drop i).take (l.length-i)=l.drop i:=bW (by simp);simp only[if_neg he,if_pos d1,if_pos d2,D3,cE,DU,e1];rw[if_pos (HW (by simp;omega)),if_pos (HW (by simp;omega)),if_pos (HW (by simp;omega))];refine⟨_,rfl,TC (by rw[hsp];exact hs) lt (λy hy=> ?_),λy=> ?_,by simp;omega,λ_=>by simp;omega⟩
   ·have:=ge y hy;omega
   ·conv=>rhs;rw[<-hsp]
    simp only[bC,aL];constructor
    ·rintro ((h|h)|h)
     ·exact .inr (.inl h)
     ·exact .inl h
     ·exact .inr (.inr h)
    ·rintro (h|h|h)
     ·exact .inl (.inr h)
     ·exact .inl (.inl h)
     ·exact .inr h
theorem Zh{β:Type}(l:List Int)(hl:l.length<=500){mk:Nat->List Int->β}{ε:Type}{B:β->Option (β⊕ε)}{E:List Int->ε}
  (h0: ∀v,B (mk l.length v)=some (.inr (E v)))
  (h1: ∀k v x,l[k]? =some x->B (mk k v)=(Ig v x).bind λy=>some (.inl (mk (k+1) y.1)))
  (v:List Int) (hv:SS v) (hvl:v.length<=500): ∃r,nw B (mk 0 v)=some (E r)/\SS r/\(∀y,y∈r↔y∈v\/y∈l)/\r.length<=v.length+l.length:=by
 have go: ∀ (n k:Nat) (v:List Int),k+n=l.length->SS v->v.length+n<=1000-> ∃r,nw B (mk k v)=some (E r)/\SS r/\(∀y,y∈r↔y∈v\/y∈l.drop k)/\r.length<=v.length+n:=by
  intro n
  induction n with
  |zero=>
   intro k v hk hv _;have :k=l.length:=by omega
   subst this;exact⟨v,lK (h0 v),hv,by simp,by omega⟩
  |succ n ih=>
   intro k v hk hv hn;have hlt:k<l.length:=by omega
   obtain⟨r,r1,r2,r3,r4,_⟩:=ZN v l[k] (by omega) hv;obtain⟨s,s1,s2,s3,s4⟩:=ih (k+1) r (by omega) r2 (by omega);refine⟨s,?_,s2,λy=> ?_,by omega⟩
   ·rw[sq (by rw[h1 k v _ (aq hlt),r1];rfl)];exact s1
   ·rw[s3,r3,cg hlt,aZ];constructor
    ·rintro ((h|h)|h)
     ·exact .inr (.inl h)
     ·exact .inl h
     ·exact .inr (.inr h)
    ·rintro (h|h|h)
     ·exact .inl (.inr h)
     ·exact .inl (.inl h)
     ·exact .inr h
 obtain⟨r,h1,h2,h3,h4⟩:=go l.length 0 v (by omega) hv (by omega);rw[cE] at h3;exact⟨r,h1,h2,h3,h4⟩
theorem XD(a b:List Int)(ha:a.length<=100)(hb:b.length<=100): ∃r,HF a b=some (r,())/\SS r/\(∀y,y∈r↔y∈a\/y∈b)/\r.length<=a.length+b.length:=by
 have am:a.length<=maxLen:=by unfold maxLen;omega
 have bm:b.length<=maxLen:=by unfold maxLen;omega
 obtain⟨r,r1,r2,r3,r4⟩:=Zh (B:=GO) (mk:=λk v=>((a,b,(),(k:Int),()),(),(v,()))) (E:=λv=>((b,(),()),(),(v,()))) a (by omega)
  (λv=>by simp only[GO];rw[CY,if_neg (by omega)])
  (λk v x hx=>by
    have hk:=C5 hx;have c1: (k:Int)< (a.length:Int):=by omega
    have c2: (0:Int)<=(k:Int):=by omega
    simp only[GO,CY,BX,if_pos c1,if_pos c2,DC,hx,ao,BG am hk])
  [] List.Pairwise.nil (bM _)
 obtain⟨s,s1,s2,s3,s4⟩:=Zh (B:=GP) (mk:=λk v=>((b,(),(k:Int),()),(),(v,()))) (E:=λv=>(((),()),(),(v,()))) b (by omega)
  (λv=>by simp only[GP];rw[CY,if_neg (by omega)])
  (λk v x hx=>by
    have hk:=C5 hx;have c1: (k:Int)< (b.length:Int):=by omega
    have c2: (0:Int)<=(k:Int):=by omega
    simp only[GP,CY,BX,if_pos c1,if_pos c2,DC,hx,ao,BG bm hk])
  r r2 (by simp at r4;omega)
 unfold HF;rw[show MJ ((a,b,(),0,()),(),([],()))=_ from r1];simp only[ao];rw[show ML ((b,(),0,()),(),(r,()))=_ from s1];refine⟨s,rfl,s2,λy=> ?_,by simp at r4;omega⟩;rw[s3,r3];simp
def SL(l:List Int):Prop:=l.Pairwise (· <= ·)
theorem Yv(A R:List Int)(a x:Int): ((A++a::x::R).set (A.length+1) a).set A.length x=A++x::a::R:=by
 induction A with
 |nil=>rfl
 |cons b A ih=>simp only[cG,bD,List.set_cons_succ,ih]
theorem WN(D:List Int)(n k:Int)(x:Int)(hn:n<=12): ∀ (A C:List Int),A.length+C.length+D.length<=12->SL (A++C)->(∀c∈C,x<c)->
  ∃Q,Fr (((),0,n,k,(A.length:Int),()),(),(A++x:: (C++D),()))=some (((),0,n,k,()),(),(Q++D,()))/\SL Q/\Q.Perm (x:: (A++C)):=by
 intro A
 induction h:A.length generalizing A with
 |zero=>intro C hl hs hc;have :A= [] :=da.1 h;subst this;refine⟨x::C,lK ?_,DN.2 ⟨λc h=>Int.le_of_lt (hc c h),hs⟩,by simp⟩;simp only[Eu,CY];rw[if_neg (by simp)];rfl
 |succ m ih=>
  intro C hl hs hc;obtain⟨A',a,rfl⟩: ∃A' a,A=A'++ [a] :=⟨A.dropLast,A.getLast (by intro e;subst e;simp at h),(List.dropLast_concat_getLast _).symm⟩
  have hm:A'.length=m:=by simpa using h
  have c1: ((m+1:Nat):Int)>0:=by omega
  have hlen: ((A'++ [a])++x:: (C++D)).length=m+2+C.length+D.length:=by simp;omega
  have c2: (0:Int)<=((m+1:Nat):Int)/\((m+1:Nat):Int)< (((A'++ [a])++x:: (C++D)).length:Int):=by rw[hlen];omega
  have c3: (0:Int)<=((m+1-1:Nat):Int)/\((m+1-1:Nat):Int)< (((A'++ [a])++x:: (C++D)).length:Int):=by rw[hlen];omega
  have e1: ((A'++ [a])++x:: (C++D))[m+1]? =some x:=by rw[<-h,bc (by simp)];simp
  have e2: ((A'++ [a])++x:: (C++D))[m+1-1]? =some a:=by rw[aW (by simp;omega),bc (by omega)];simp[hm]
  have pw:IntKind.wrap .i64 (((m+1:Nat):Int)-1)=((m+1-1:Nat):Int):=BF (by omega) (by unfold maxLen;omega)
  have less:HM x a=some (decide (x<a),()):=by unfold HM H7;simp only[beq_self_eq_true,df,ao,BI]
  by_cases hxa:x<a
  ·have hsw: (((A'++ [a])++x:: (C++D)).set (m+1) a).set (m+1-1) x=A'++x:: ((a::C)++D):=by
    have:=Yv A' (C++D) a x;rw[hm] at this;simpa using this
   have c5:m+1-1< (((A'++ [a])++x:: (C++D)).set (m+1) a).length:=by rw[DI,hlen];omega
   have hz:=aq c5
   obtain⟨Q,q1,q2,q3⟩:=ih A' hm (a::C) (by simp at hl ⊢;omega) (by simpa using hs) (λc h=>by
    rcases aZ.1 h with rfl|h
    ·exact hxa
    ·exact hc c h)
   refine⟨Q,?_,q2,q3.trans (by simp)⟩;unfold Fr at q1 ⊢;rw[<-q1];refine sq ?_;simp only[Eu,CY,BX,if_pos c1,if_pos c2,pw,if_pos c3,DC,e1,e2,ao,less,if_pos hxa,hz,hsw];rfl
  ·have hall: ∀y∈A',y<=a:=by
    intro y hy;have h1:SL (A'++ [a]):=(DT.1 hs).1;exact (DT.1 h1).2.2 y hy a (by simp)
   refine⟨(A'++ [a])++x::C,?_,?_,?_⟩
   ·refine lK ?_;rw[show (A'++ [a])++x::C++D=(A'++ [a])++x:: (C++D) by simp];simp only[Eu,CY,BX,if_pos c1,if_pos c2,pw,if_pos c3,DC,e1,e2,ao,less,if_neg hxa]
   ·obtain⟨p1,p2,p3⟩:=DT.1 hs;refine DT.2 ⟨p1,DN.2 ⟨λc h=>Int.le_of_lt (hc c h),p2⟩,λy hy z hz=> ?_⟩
    have hyx:y<=x:=by
     rcases bC.1 hy with h|h
     ·have:=hall y h;omega
     ·rw[aL.1 h];omega
    rcases aZ.1 hz with rfl|hz
    ·exact hyx
    ·have:=hc z hz;omega
   ·exact List.perm_middle
theorem RK(l:List Int)(hl:l.length<=12): ∃r,EB l 0 (l.length:Int)=some (r,())/\SL r/\r.Perm l:=by
 have hm:l.length<=maxLen:=by unfold maxLen;omega
 unfold EB;cases l with
 |nil=>
  refine⟨[],?_,List.Pairwise.nil,List.Perm.refl _⟩
  rw[show Fq (((),0,(([]:List Int).length:Int),IntKind.wrap .i64 (0+1),()),(),([],()))=some ((()),(),([],())) from lK (by rw[show IntKind.wrap .i64 ((0:Int)+1)=((1:Nat):Int) from by rw[vM (by omega) (by omega)];rfl];simp only[Ej,CY];rw[if_neg (by simp)])]
  rfl
 |cons b l=>
  generalize hL:b::l=L at hl hm;have hpos:0<L.length:=by rw[<-hL];simp
  have outer:=CM (B:=Ej) (λs=> ∃ (k:Nat) (Q:List Int),0<k/\k<=L.length/\Q.length=k/\SL Q/\Q.Perm (L.take k)/\s=(((),0,(L.length:Int),(k:Int),()),(),(Q++L.drop k,()))) (λs=>L.length-s.1.2.2.2.1.toNat) (λe=> ∃Q:List Int,SL Q/\Q.Perm L/\e=((()),(),(Q,())))
   (λs hs=>by
     obtain⟨k,Q,h0,hk,hq,hq2,hq3,rfl⟩:=hs;by_cases hlt:k<L.length
     ·have c1: (k:Int)< (L.length:Int):=by omega
      obtain⟨R,r1,r2,r3⟩:=WN (L.drop (k+1)) (L.length:Int) (k:Int) L[k] (by omega) Q [] (by simp;omega) (by simpa using hq2) (by simp);have hd:L.drop k=L[k]::L.drop (k+1):=cg hlt;rw[hq,bF,<-hd] at r1;refine .inl ⟨(((),0,(L.length:Int),((k+1:Nat):Int),()),(),(R++L.drop (k+1),())),?_,⟨k+1,R,by omega,by omega,?_,r2,?_,rfl⟩,?_⟩
      ·simp only[Ej,CY,if_pos c1,r1,ao,BG hm hlt]
      ·rw[r3.length_eq];simp[hq]
      ·rw[DM,aq hlt];refine r3.trans ?_;rw[bP];refine List.Perm.trans ?_ (List.perm_append_comm);simpa using hq3
      ·simp only[DC];omega
     ·have :k=L.length:=by omega
      subst this;refine .inr ⟨_,by simp only[Ej,CY];rw[if_neg (by omega)],Q,hq2,by simpa using hq3,by simp⟩)
   (s:=(((),0,(L.length:Int),((1:Nat):Int),()),(),(L,()))) ⟨1,L.take 1,by omega,by omega,by simp;omega,by rw[<-hL];simp[SL],List.Perm.refl _,by rw[List.take_append_drop]⟩
  obtain⟨e,h1,Q,q1,q2,rfl⟩:=outer;rw[show IntKind.wrap .i64 ((0:Int)+1)=((1:Nat):Int) from by rw[vM (by omega) (by omega)];rfl,show Fq (((),0,(L.length:Int),((1:Nat):Int),()),(),(L,()))=_ from h1];exact⟨Q,rfl,q1,q2⟩
theorem Zm{n:Nat}(hn:n<=12): ∃m,Ns (IntKind.wrap .u64 (n:Int))=some (m,()):=by
 have :n<=5\/n=6\/n=7\/n=8\/n=9\/n=10\/n=11\/n=12:=by omega
 rcases this with h|rfl|rfl|rfl|rfl|rfl|rfl|rfl
 ·exact QG h
 ·exact⟨3,by kernel_rfl⟩
 ·exact⟨3,by kernel_rfl⟩
 ·exact⟨4,by kernel_rfl⟩
 ·exact⟨4,by kernel_rfl⟩
 ·exact⟨4,by kernel_rfl⟩
 ·exact⟨4,by kernel_rfl⟩
 ·exact⟨4,by kernel_rfl⟩
theorem Yr(l:List Int)(hl:l.length<=12): ∃r,GX l=some (r,())/\SL r/\r.Perm l:=by
 obtain⟨m,hm⟩:=Zm hl;obtain⟨r,r1,r2,r3⟩:=RK l hl
 have hp:Fa l 0 (l.length:Int) m=some (r,()):=by
  unfold Fa
  have :GZ (((),0,(l.length:Int),m,true,true,()),(),(l,()))=some ((()),(),(r,())):=by refine lK ?_;simp only[Fu];rw[vM (by omega) (by omega),CY,if_pos (by omega),r1,ao,B0 r3.length_eq]
  rw[this];rfl
 unfold GX;simp only[hm,ao,hp];exact⟨r,B0 r3.length_eq _ _,r2,r3⟩
theorem SJ(l:List Int)(hl:l.length<=1000)(hs:SL l)(k0:Nat)(h0:0<k0)(hk:k0<l.length)(hss:SS (l.take k0))(heq:l[k0] =l[k0-1]):
  ∃e,KY (((),(k0:Int),(k0,l.length-k0),1,()),(),(l,()))=some e/\ ∃ (kk:Nat) (v:List Int),e=(((),(kk:Int),()),(),(v,()))/\kk<=l.length/\v.length=l.length/\SS (v.take kk)/\ ∀y,y∈v.take kk↔y∈l:=by
 have hm:l.length<=maxLen:=by unfold maxLen;omega
 have mem0: ∀y,y∈l.take k0↔y∈l.take (k0+1):=by
  intro y;rw[DM,aq hk,heq];simp only[Option.toList_some,bC,aL];refine⟨.inl,?_⟩
  rintro (h|rfl)
  ·exact h
  ·rw[List.mem_take_iff_getElem];exact⟨k0-1,by omega,rfl⟩
 refine CM (B:=F4) (λs=> ∃ (kk k2:Nat) (v:List Int),s=(((),(kk:Int),(k0,l.length-k0),(k2:Int),()),(),(v,()))/\0<k2/\k0+k2<=l.length/\k0<=kk/\kk+1<=k0+k2/\v.length=l.length/\SS (v.take kk)/\(∀y,y∈v.take kk↔y∈l.take (k0+k2))/\v.drop (k0+k2-1)=l.drop (k0+k2-1)) (λs=>l.length-s.1.2.2.2.1.toNat) _
  (λs hI=> ?_) (s:=(((),(k0:Int),(k0,l.length-k0),((1:Nat):Int),()),(),(l,()))) ⟨k0,1,l,rfl,by omega,by omega,by omega,by omega,rfl,hss,mem0,rfl⟩
 obtain⟨kk,k2,v,rfl,a1,a2,a3,a4,a5,a6,a7,a8⟩:=hI;by_cases hlt:k0+k2<l.length
 ·left;have c1: (k2:Int)< ((l.length-k0:Nat):Int):=by omega
  have c2: (0:Int)<=(k2:Int)/\(k2:Int)< ((l.length-k0:Nat):Int):=by omega
  have c3: (0:Int)<=((k2-1:Nat):Int)/\((k2-1:Nat):Int)< ((l.length-k0:Nat):Int):=by omega
  have c4: (0:Int)<=(kk:Int)/\(kk:Int)< (v.length:Int):=by omega
  have g1:v[k0+(k2-1)]? =some l[k0+k2-1] :=by have:=congrArg (λz:List Int=>z[0]?) a8;simp only[bf,bH] at this;rw[show k0+(k2-1)=k0+k2-1 by omega,this];exact aq _
  have g2:v[k0+k2]? =some l[k0+k2] :=by have:=congrArg (λz:List Int=>z[1]?) a8;simp only[bf] at this;rw[show k0+k2-1+1=k0+k2 by omega] at this;rw[this];exact aq _
  have g3:v[kk]? =some (v[kk]'(by omega)):=aq _;have hle:l[k0+k2-1] <=l[k0+k2] :=DL.1 hs _ _ (by omega) hlt (by omega)
  have hdd:v.drop (k0+k2)=l.drop (k0+k2):=by have:=congrArg (List.drop 1) a8;simpa [cn,show k0+k2-1+1=k0+k2 by omega] using this
  have hta:l.take (k0+k2+1)=l.take (k0+k2)++ [l[k0+k2]] :=by rw[DM,aq hlt];rfl
  have inb: ∀y∈l.take (k0+k2),y<=l[k0+k2-1] :=by
   intro y hy;obtain⟨j,hj,rfl⟩:=aU hy;have hj':j<k0+k2:=by simp at hj;omega
   rw[DY];by_cases e:j=k0+k2-1
   ·subst e;exact cU _
   ·exact DL.1 hs _ _ (by omega) (by omega) (by omega)
  have hkm:k2<l.length:=by omega
  have hkm':kk<l.length:=by omega
  simp only[F4,CY,Eb,G2,BX,if_pos c1,if_pos c2,BF a1 (by unfold maxLen;omega),if_pos c3,DC,g1,g2,ao,BG hm hkm,BG hm hkm',if_pos c4,g3];by_cases he:l[k0+k2] =l[k0+k2-1]
  ·simp only[if_pos he];refine⟨_,rfl,⟨kk,k2+1,v,rfl,by omega,by omega,a3,by omega,a5,a6,λy=> ?_,hdd⟩,?_⟩
   ·rw[a7,show k0+(k2+1)=k0+k2+1 by omega,hta,he];simp only[bC,aL];refine⟨.inl,?_⟩
    rintro (h|rfl)
    ·exact h
    ·rw[List.mem_take_iff_getElem];exact⟨k0+k2-1,by omega,rfl⟩
   ·simp only[DC];omega
  ·simp only[if_neg he];have hts: (v.set kk l[k0+k2]).take (kk+1)=v.take kk++ [l[k0+k2]] :=yH _ (by omega);refine⟨_,rfl,⟨kk+1,k2+1,v.set kk l[k0+k2],rfl,by omega,by omega,by omega,by omega,by simp[a5],?_,λy=> ?_,?_⟩,?_⟩
   ·rw[hts]
    have:=TC (A:=v.take kk) (B:=[]) (x:=l[k0+k2]) (by simpa using a6) (λy hy=>by have:=inb y ((a7 y).1 hy);omega) (by simp)
    simpa using this
   ·rw[hts,show k0+(k2+1)=k0+k2+1 by omega,hta];simp only[bC,a7]
   ·rw[show k0+(k2+1)-1=k0+k2 by omega,List.drop_set_of_lt (by omega),hdd]
   ·simp only[DC];omega
 ·right;have hkk:k0+k2=l.length:=by omega
  refine⟨_,by simp only[F4,CY];rw[if_neg (by omega)],kk,v,rfl,by omega,a5,a6,λy=> ?_⟩;rw[a7,hkk,DK]
theorem UG(l:List Int)(hl:l.length<=1000)(hs:SL l): ∃r,F3 l=some (r,())/\SS r/\(∀y,y∈r↔y∈l)/\r.length<=l.length:=by
 have hm:l.length<=maxLen:=by unfold maxLen;omega
 unfold F3;rw[CY];split
 ·refine⟨l,rfl,?_,λ_=>Iff.rfl,ay _⟩
  match l with
  | [] =>exact List.Pairwise.nil
  | [a] =>exact DZ _ _
  |a::b::l=>simp at*;omega
 ·have fA:=CM (B:=ET) (λs=> ∃k:Nat,0<k/\k<=l.length/\SS (l.take k)/\s=(((),(k:Int),()),(),(l,()))) (λs=>l.length-s.1.2.1.toNat)
   (λe=>(e= .inr (((),(),()),(),(l,()))/\SS l)\/ ∃ (kk:Nat) (W:List Int),e= .inl (((),(0,kk),()),(),(W,()))/\kk<=W.length/\kk<=l.length/\SS (W.take kk)/\ ∀y,y∈W.take kk↔y∈l)
   (λs hI=>by
     obtain⟨k,h0,hkl,hss,rfl⟩:=hI;by_cases hk:k<l.length
     ·have c1: (k:Int)< (l.length:Int):=by omega
      have c2: (0:Int)<=(k:Int)/\(k:Int)< (l.length:Int):=by omega
      have c3: (0:Int)<=((k-1:Nat):Int)/\((k-1:Nat):Int)< (l.length:Int):=by omega
      have c4: (0:Int)<=(k:Int)/\(k:Int)<=(l.length:Int)/\(l.length:Int)<=(l.length:Int):=by omega
      have e1:l[k]? =some l[k] :=aq hk;have e2:l[k-1]? =some l[k-1] :=aq (by omega);by_cases he:l[k] =l[k-1]
      ·right;obtain⟨e,f1,kk,v,rfl,f2,f3,f4,f5⟩:=SJ l hl hs k h0 hk hss he;have d1: (0:Int)<=(kk:Int)/\(kk:Int)<=(v.length:Int)/\(v.length:Int)<=(v.length:Int):=by omega
       have d2:kk+(v.length-kk)<=v.length:=by omega
       have d3: (0:Int)<=0/\(0:Int)<=(kk:Int)/\(kk:Int)<=(v.length:Int):=by omega
       simp only[ET,CY,BX,if_pos c1,if_pos c2,BF h0 (by omega),if_pos c3,DC,e1,e2,ao,G2,if_pos he,if_pos c4,aP];rw[f1];simp only[ao,DC,if_pos d1,if_pos d2,if_pos d3,D3,DU]
       have ht: (v.take kk++List.replicate (v.length-kk) 0++v.drop (kk+(v.length-kk))).take kk=v.take kk:=by rw[bi,List.take_append_of_le_length (by simp;omega),List.take_take,Nat.min_self]
       refine⟨_,rfl,.inr ⟨kk,_,rfl,by simp;omega,f2,by rw[ht];exact f4,λy=>by rw[ht];exact f5 y⟩⟩
      ·left;have hle:l[k-1] <=l[k] :=DL.1 hs _ _ (by omega) hk (by omega);refine⟨(((),((k+1:Nat):Int),()),(),(l,())),?_,⟨k+1,by omega,by omega,?_,rfl⟩,?_⟩
       ·simp only[ET,CY,BX,if_pos c1,if_pos c2,BF h0 (by omega),if_pos c3,DC,e1,e2,ao,G2,BG hm hk,if_neg he]
       ·rw[DM,e1]
        have:=TC (A:=l.take k) (B:=[]) (x:=l[k]) (by simpa using hss) (λy hy=>by
         obtain⟨j,hj,rfl⟩:=aU hy;have hj':j<k:=by simp at hj;omega
         rw[DY]
         have :l[j] <=l[k-1] :=by
          by_cases e:j=k-1
          ·subst e;exact cU _
          ·exact DL.1 hs _ _ (by omega) (by omega) (by omega)
         omega) (by simp)
        simpa using this
       ·simp only[DC];omega
     ·have hk':k=l.length:=by omega
      subst hk';rw[DK] at hss;exact .inr ⟨_,by simp only[ET,CY];rw[if_neg (by omega)],.inl ⟨rfl,hss⟩⟩)
   (s:=(((),((1:Nat):Int),()),(),(l,()))) ⟨1,by omega,by omega,by
     cases l with
     |nil=>exact List.Pairwise.nil
     |cons a l=>exact DZ _ _,rfl⟩
  obtain⟨e,h1,h2⟩:=fA;rw[show IK (((),1,()),(),(l,()))=_ from h1];rcases h2 with ⟨rfl,h2⟩| ⟨kk,W,rfl,h3,h4,h5,h6⟩
  ·exact⟨l,rfl,h2,λ_=>Iff.rfl,ay _⟩
  ·refine⟨W.take kk,?_,h5,h6,by simp;omega⟩;simp only[ao,DV];exact B0 ⟨trivial,h3⟩ _ _
theorem VV(l:List Int)(hl:l.length<=12): ∃r,HJ l=some (r,())/\SS r/\(∀y,y∈r↔y∈l)/\r.length<=l.length:=by obtain⟨s,s1,s2,s3⟩:=Yr l hl;have sl:=s3.length_eq;obtain⟨r,r1,r2,r3,r4⟩:=UG s (by omega) s2;unfold HJ HV;rw[B0 (HW (by omega)),ao,s1,ao,B0 sl,r1];exact⟨r,rfl,r2,λy=>by rw[r3,s3.mem_iff],by omega⟩
theorem aaz(a b:List Int)(h:a.length+b.length<=12): ∃r,HF a b=some (r,())/\Lp a b=some (r,())/\SS r/\(∀y,y∈r↔y∈a\/y∈b)/\r.length<=a.length+b.length:=by
 obtain⟨r,r1,r2,r3,r4⟩:=XD a b (by omega) (by omega);obtain⟨s,s1,s2,s3,s4⟩:=VV (a++b) (by simp;omega);have hrs:r=s:=r2.uniq s2 λy=>by rw[r3,s3,bC]
 subst hrs;refine⟨r,r1,?_,r2,r3,r4⟩;unfold Lp
 have hc:=VY [a,b] (by simp) (by intro x hx;simp only[aZ,List.not_mem_nil,or_false] at hx;rcases hx with rfl|rfl<;>omega)
 rw[hc,ao,show ([a,b]:List (List Int)).flatten=a++b by simp,s1];rfl
end
section
theorem Im(m:jY)(e:Int)(h:NZ 1048576 m)(hv:Eo m=some (true,())): ∃c b,Fm m e=some (c,b,())/\Io m e=some (c,b,())/\Gc maxLen c/\(b=Gp e 1 (m.configs.length:Int))/\(b=true->Eg c=some (true,())/\c.epoch=e)/\(b=false->c=⟨0,0,[],[]⟩):=by
 obtain⟨b,m1,m2⟩:=masterLog m (Ff h);rw[hv] at m1;simp only[af,au,and_true] at m1;subst m1;obtain⟨f1,_,_⟩:=II (Ff h) hv;have zero:Gc maxLen ⟨0,0,[],[]⟩:=⟨bM _,bM _⟩
 have hl:=h.1;unfold Fm Io;simp only[hv,m2,EF,IU,ao,Eb,CG];cases hw:Gp e 1 (m.configs.length:Int) with
 |false=>exact⟨_,_,rfl,rfl,zero,rfl,nofun,λ_=>rfl⟩
 |true=>
  have hw:=Ec.1 hw;simp only[CG];rw[vM (n:=e-1) (by omega) (by omega)];have hlt: (e-1).toNat<m.configs.length:=by omega
  have hk:=h.2 _ (DF hlt)
  have copy: ∀c:nE,Gc 1048576 c->GW c=some (c,())/\FW c=some (c,()):=by intro c hc;unfold GW FW;simp only[bF];rw[B0 (HW hc.1),B0 (HW hc.2)];exact⟨rfl,rfl⟩
  rw[B0 (by omega),B0 (by omega),aq hlt];simp only[ao,(copy _ hk).1,(copy _ hk).2];refine⟨_,_,rfl,rfl,Ee hk,rfl,λ_=>⟨(f1 _ hlt).1,?_⟩,nofun⟩;rw[(f1 _ hlt).2];omega
theorem F6(x:qg)(ok:Ew 1048576 x)(hv:Ea x=some (true,())): ∃c b,Ef x.master=some (c,b,())/\EY x.master=some (c,b,())/\Gc maxLen c/\(b=decide (x.master.activated>0))/\(b=true->Eg c=some (true,())/\c.epoch=x.master.activated)/\(b=false->c=⟨0,0,[],[]⟩):=by
 have vc:=El ok hv;obtain⟨_,f2,f3⟩:=II (Ff ok.2.2.1) vc.ml;obtain⟨c,b,c1,c2,c3,c4,c5,c6⟩:=Im x.master x.master.activated ok.2.2.1 vc.ml;unfold Ef EY;rw[c1,c2];refine⟨c,b,rfl,rfl,c3,?_,c5,c6⟩;rw[c4];unfold Gp;rw[decide_eq_true f3,de];by_cases h:x.master.activated>0
 ·rw[decide_eq_true h,decide_eq_true (by omega)]
 ·rw[decide_eq_false h,decide_eq_false (by omega)]
end
section
def O0(p:Nat->Bool)(n:Nat):List Int:=((List.range n).filter p).map λ(k:Nat)=>(k:Int)
theorem TL(p:Nat->Bool)(n:Nat):O0 p (n+1)=O0 p n++if p n=true then [(n:Int)] else [] :=by
 unfold O0;rw[List.range_succ,DR,bI]
 congr 1
 cases h:p n<;>simp[h]
theorem SP(p:Nat->Bool)(n:Nat)(x:Int):x∈O0 p n↔ ∃k:Nat,k<n/\p k=true/\x=(k:Int):=by
 unfold O0;simp only[aG,D0,bw];constructor
 ·rintro⟨k,⟨h1,h2⟩,rfl⟩;exact⟨k,h1,h2,rfl⟩
 ·rintro⟨k,h1,h2,rfl⟩;exact⟨k,⟨h1,h2⟩,rfl⟩
theorem Vy(p:Nat->Bool)(n:Nat): (O0 p n).length<=n:=by unfold O0;rw[aH];exact aX (D4 _ _) (by simp)
theorem Vx(p:Nat->Bool){n:Nat}(hn:n<=5):MY (O0 p n):=by
 have hp: (O0 p n).Pairwise (· < ·):=by unfold O0;rw[List.pairwise_map];exact (List.Pairwise.filter _ List.pairwise_lt_range).imp λh=>by omega
 intro k hk;have hm: (O0 p n)[k] ∈O0 p n:=DF hk;obtain⟨j,h1,_,h2⟩:=(SP p n _).1 hm;exact⟨⟨by omega,by omega⟩,λh0=>DL.1 hp (k-1) k (by omega) hk (by omega)⟩
theorem X7(p q:Nat->Bool)(n:Nat): (O0 p n).filter (λx=>decide (x∈O0 q n))=O0 (λk=>p k&&q k) n:=by
 unfold O0;rw[List.filter_map,List.filter_filter]
 congr 1
 apply List.filter_congr;intro k hk;have hk:=bw.1 hk
 have : (((λx=>decide (x∈O0 q n))∘λ(k:Nat)=>(k:Int)) k)=q k:=by
  show decide ((k:Int)∈O0 q n)=q k;cases hq:q k with
  |true=>exact decide_eq_true ((SP q n _).2 ⟨k,hk,hq,rfl⟩)
  |false=>
   refine decide_eq_false λh=> ?_;obtain⟨j,_,h1,h2⟩:=(SP q n _).1 h;have :j=k:=by omega
   subst this;rw[hq] at h1;cases h1
 have e:decide ((k:Int)∈List.map (λ(k:Nat)=>(k:Int)) (List.filter q (List.range n)))=q k:=this;simp only[Function.comp,e,Bool.and_comm]
def UC(x:qg)(k:Nat):Bool:=match x.servers[k]? with |some s=>s.up|none=>false
def N2(l:List Int)(k:Nat):Bool:=match l[k]? with |some s=>s==0|none=>false
theorem YA{p:Nat->Bool}{k:Nat}(h:k<=1000)(y:Int): (O0 p k++ [y]).length*8<=2 ^ 40:=by have:=Vy p k;refine HW ?_;rw[bJ,cy];omega
theorem Ww(x:qg)(hl:x.servers.length=5)(hv:Ea x=some (true,())):KC x=some (O0 (UC x) 5,()):=by
 have ex: (⟨x.now,x.servers,x.sides,⟨x.master.configs,x.master.activated⟩,x.masterUp,⟨x.lease.epoch,x.lease.holder,x.lease.ends⟩,x.places⟩:qg)=x:=rfl
 have fA:=B4 (B:=H6) x.servers (λk (b:List Int)=>(((),(),(k:Int),()),((x.now,x.servers,x.sides,x.master.configs,x.master.activated,x.masterUp,x.lease.epoch,x.lease.holder,x.lease.ends,x.places,()),()),(b,()))) (λk b=>b=O0 (UC x) k) (λ_ _ _=>(((),()),(),(O0 (UC x) 5,())))
  (λb hb=>by simp only[H6];rw[CY,if_neg (by omega),hb,hl])
  (λk b s hs hb=>by
    have hk:=C5 hs;have c1: (k:Int)< (x.servers.length:Int):=by omega
    have c2: (0:Int)<=(k:Int):=by omega
    have hup:UC x k=s.up:=by unfold UC;rw[hs]
    subst hb;simp only[H6,CY,BX,if_pos c1,if_pos c2,DC,hs,ao,ex,hv,CG,BG (n:=5) (by decide) (by omega:k<5),if_pos (YA (p:=UC x) (k:=k) (by omega) (k:Int))];refine .inl ⟨O0 (UC x) (k+1),?_,rfl,trivial⟩;rw[TL,hup];cases s.up
    ·simp;rfl
    ·rfl)
  0 [] (bM _) rfl
 unfold KC;rw[show Ol (((),(),0,()),((x.now,x.servers,x.sides,x.master.configs,x.master.activated,x.masterUp,x.lease.epoch,x.lease.holder,x.lease.ends,x.places,()),()),([],()))=_ from fA];rfl
theorem JQ{l:List Int}(hl:l.length<=maxLen)(hv:Fj l=some (true,())):l.length=5:=by
 obtain⟨b,h1,h2⟩:=Kr l hl;rw[hv] at h1;simp only[af,au,and_true] at h1;subst h1;unfold I7 at h2;cases h: ((l.length:Int)==5) with
 |false=>rw[h] at h2;cases h2
 |true=>simp only[beq_iff_eq] at h;omega
theorem Vh(l:List Int)(hl:l.length=5)(hv:Fj l=some (true,())):JB l=some (O0 (N2 l) 5,()):=by
 have fA:=B4 (B:=Hw) l (λk (b:List Int)=>((l,(),(k:Int),()),(),(b,()))) (λk b=>b=O0 (N2 l) k) (λ_ _ _=>(((),()),(),(O0 (N2 l) 5,())))
  (λb hb=>by simp only[Hw];rw[CY,if_neg (by omega),hb,hl])
  (λk b s hs hb=>by
    have hk:=C5 hs;have c1: (k:Int)< (l.length:Int):=by omega
    have c2: (0:Int)<=(k:Int):=by omega
    have hup:N2 l k=(s==0):=by unfold N2;rw[hs]
    subst hb;simp only[Hw,CY,BX,if_pos c1,if_pos c2,DC,hs,ao,hv,CG,BG (n:=5) (by decide) (by omega:k<5),if_pos (YA (p:=N2 l) (k:=k) (by omega) (k:Int))];refine .inl ⟨O0 (N2 l) (k+1),?_,rfl,trivial⟩;rw[TL,hup];cases (s==0)
    ·simp;rfl
    ·rfl)
  0 [] (bM _) rfl
 unfold JB;rw[show NI ((l,(),0,()),(),([],()))=_ from fA];rfl
def SG(x:qg)(k:Nat):Bool:=UC x k&&N2 x.sides k
theorem ZZ(x:qg)(ok:Ew 1048576 x)(hv:Ea x=some (true,())):Lu x=some (O0 (SG x) 5,()):=by have vc:=El ok hv;have hsl:=JQ (Em ok.2.1) vc.sides;unfold Lu;rw[Ww x vc.len hv,Vh x.sides hsl vc.sides];simp only[ao];rw[QD _ _ (Vx _ (ay 5)) (aX (Vy _ _) (by decide)),X7];rfl
end
section
def G3(x:qg)(a:Int):Int:=(x.sides[a.toNat]?).getD 0
theorem KL(x:qg)(ok:Ew 1048576 x)(vc:VC x){a b:Int}(ha:0<=a/\a<5)(hb:0<=b/\b<5):EK x.sides a b=some (G3 x a==G3 x b,())/\Hm x.sides a b=some (G3 x a==G3 x b,()):=by
 have hl:=Em ok.2.1;have h5:=JQ hl vc.sides;obtain⟨v,s1,s2⟩:=Kr x.sides hl;rw[vc.sides] at s1;simp only[af,au,and_true] at s1;subst s1;have wa:Gp a 0 4=true:=Ec.2 (by omega);have wb:Gp b 0 4=true:=Ec.2 (by omega);have la:a.toNat<x.sides.length:=by omega
 have lb:b.toNat<x.sides.length:=by omega
 unfold EK Hm G3;simp only[vc.sides,s2,EF,IU,wa,wb,ao,CG,BX,if_pos ha.1,if_pos hb.1,aq la,aq lb,aV,and_self]
theorem HI{x:qg}(ok:Ew 1048576 x)(vc:VC x){a:Int}(ha:0<=a/\a<5): ∃s,x.servers[a.toNat]? =some s/\ED 1048576 s/\Ed s a=some (true,()):=by
 have hlt:a.toNat<x.servers.length:=by rw[vc.len];omega
 refine⟨_,aq hlt,ok.1.2 _ (DF hlt),?_⟩;have:=vc.srv _ hlt
 rwa [DP ha.1] at this
def SO(x:qg)(a b:Int):Bool:=(G3 x a==G3 x b)&&(match x.servers[b.toNat]?,x.servers[a.toNat]? with
 |some m,some p=>m.up&&(m.epoch==p.epoch)&&decide (m.commit<=(p.log.length:Int))&&decide (m.config=p.config)
 | _,_=>false)
theorem Z6(x:qg)(ok:Ew 1048576 x)(vc:VC x){a b:Int}(ha:0<=a/\a<5)(hb:0<=b/\b<5):FK x a b=some (SO x a b,())/\Vw x a b=some (SO x a b,()):=by obtain⟨p,p1,p2,_⟩:=HI ok vc ha;obtain⟨m,m1,m2,_⟩:=HI ok vc hb;obtain⟨h1,h2⟩:=KL x ok vc ha hb;obtain⟨e1,e2⟩:=FV m.config p.config (Ee m2.1);unfold FK Vw SO;simp only[p1,m1,h1,h2,e1,e2,BX,if_pos ha.1,if_pos hb.1,ao];cases (G3 x a==G3 x b)<;>cases m.up<;>cases (m.epoch==p.epoch)<;>cases (decide (m.commit<=(p.log.length:Int)))<;>cases (decide (m.config=p.config))<;>exact⟨rfl,rfl⟩
theorem L0(s:qj)(id:Int)(h:ED 1048576 s): ∃b,Er s id=some (b,())/\Ln s id=some (b,()):=by obtain⟨v,v1,v2⟩:=Jp s id h;obtain⟨n,n1,n2,_⟩:=KU s.config id (Ee h.1);unfold Er Ln;simp only[v1,v2,n1,n2,ao];cases v<;>cases s.up<;>cases (n==1)<;>exact⟨_,rfl,rfl⟩
theorem Hc(c:nE)(h:Gc maxLen c): ∃l,EI c=some (l,())/\Nt c=some (l,())/\l.length<=10/\(∀y∈l,0<=y/\y<5)/\SS l/\(Eg c=some (true,())-> ∀y,y∈l↔y∈c.replicas\/y∈c.witnesses):=by
 obtain⟨v,v1,v2⟩:=Gu c h;unfold EI Nt;simp only[v1,v2,ao,Eb];cases v with
 |false=>exact⟨[],rfl,rfl,bM _,nofun,List.Pairwise.nil,nofun⟩
 |true=>
  obtain⟨a1,a2,_⟩:=Fc h v1;have l1:=a1.len;have l2:=a2.len;obtain⟨r,r1,r2,r3,r4,r5⟩:=aaz c.replicas c.witnesses (by omega)
  have rng: ∀ {l:List Int},MY l-> ∀y∈l,0<=y/\y<5:=by intro l ha y hy;obtain⟨k,hk,rfl⟩:=aU hy;have:=(ha k hk).1;omega
  simp only[CG,r1,r2,ao];refine⟨r,rfl,rfl,by omega,λy hy=> ?_,r3,λ_=>r4⟩;rcases (r4 y).1 hy with h|h
  ·exact rng a1 y h
  ·exact rng a2 y h
end
section
def KW(s:qj):List rj:=if Gp s.commit s.first (s.first+(s.log.length:Int))=true then s.log.take (s.commit-s.first).toNat else []
theorem Ss(s:qj)(id:Int)(h:ED 1048576 s)(hv:Ed s id=some (true,())):EE s=some (KW s,())/\HX s=some (KW s,()):=by
 obtain⟨f1,f2,f3,f4,f5,_⟩:=FO h hv;unfold EE HX KW;rw[vM (n:=s.first+(s.log.length:Int)) (by omega) (by omega)];simp only[EF,IU,ao,Eb,CY,if_neg (show ¬s.first<0 by omega)];cases hw:Gp s.commit s.first (s.first+(s.log.length:Int)) with
 |false=>exact⟨rfl,rfl⟩
 |true=>
  have hw:=Ec.1 hw;have d1: (0:Int)<=0/\(0:Int)<=s.commit-s.first/\s.commit-s.first<=(s.log.length:Int):=by omega
  have hs: (s.log.take (s.commit-s.first).toNat).length*56<=2 ^ 40:=by
   have : (s.log.take (s.commit-s.first).toNat).length<=16:=by simp;omega
   have e: (2:Nat) ^ 40=1099511627776:=by decide
   omega
  simp only[CG,if_true];rw[vM (n:=s.commit-s.first) (by omega) (by omega)];simp only[BX,if_pos d1,FC,Fv,D3,cE,DU,bF,if_pos hs,ao];exact⟨trivial,trivial⟩
end
section
theorem ZU{s:qj}{id:Int}(h:ED 1048576 s)(hv:Ed s id=some (true,())):s.config=⟨0,0,[],[]⟩\/Eg s.config=some (true,()):=by
 have hc:=Ee h.1;by_cases hz:s.config=⟨0,0,[],[]⟩
 ·exact .inl hz
 ·right;obtain⟨b,v1,_⟩:=Gu s.config hc;cases b with
  |true=>exact v1
  |false=>
   exfalso
   have hr:EJ s.config id=some (0,()):=by unfold EJ;rw[v1];rfl
   unfold Ed at hv;simp only[EF,ao,Eb,Ih s.config hc,hr,CY,if_neg hz] at hv;cases h1:Gp s.version 1 2 with
   |false=>rw[h1] at hv;cases hv
   |true=>
   cases h2:Gp s.epoch 0 20 with
   |false=>rw[h1,h2] at hv;cases hv
   |true=>
   rcases isLog s.log (Em h.2.1) with ⟨a1,a2,a3⟩| ⟨a1,a2⟩
   case inr=>simp only[h1,h2,a1,ao,CG,BI] at hv;cases hv
   rcases isLog s.learned (Em h.2.2) with ⟨b1,b2,b3⟩| ⟨b1,b2⟩
   case inr=>simp only[h1,h2,a1,b1,ao,CG,BI] at hv;cases hv
   obtain⟨n,n1,n2⟩:=GU s.log (Em h.2.1);simp only[h1,h2,a1,b1,n1,ao,CG] at hv;cases h3:Gp s.first 0 16<;>rw[h3] at hv
   ·cases hv
   ·cases h4:Gp (IntKind.wrap .i64 (s.first+(s.log.length:Int))) 0 16<;>rw[h4] at hv
    ·cases hv
    ·cases h5:Gp s.commit 0 (IntKind.wrap .i64 (s.first+(s.log.length:Int)))<;>rw[h5] at hv
     ·cases hv
     ·cases h6:s.intact<;>rw[h6] at hv
      ·cases hv
      ·simp only[CG] at hv
       repeat' split at hv
       all_goals cases hv
def data(s:qj)(id:Int):List rj:=if id∈s.config.replicas then (if (KW s).length>s.learned.length then KW s else s.learned) else s.learned
theorem SM(s:qj)(id:Int)(h:ED 1048576 s)(hv:Ed s id=some (true,())):G9 s id=some (data s id,())/\G7 s id=some (data s id,()):=by
 have hc:=Ee h.1;obtain⟨p1,p2⟩:=Ss s id h hv
 have hs:s.learned.length*56<=2 ^ 40:=by
  have e: (2:Nat) ^ 40=1099511627776:=by decide
  have:=h.2.2;omega
 have cmp: ((KW s).length:Int)>(s.learned.length:Int)↔(KW s).length>s.learned.length:=by omega
 have hrep:Ku s id=some (decide (id∈s.config.replicas),()):=by unfold Ku;rw[(Ey s.config.replicas id hc.1).2];rfl
 have himpl:G7 s id=some (data s id,()):=by
  unfold G7 Fv data;simp only[p2,hrep,ao,CY,BX,if_pos hs,cmp];split
  ·split<;>rfl
  ·rfl
 refine⟨?_,himpl⟩
 have hrole: ∃r,EJ s.config id=some (r,())/\((r=1\/r=2)↔id∈s.config.replicas):=by
  rcases ZU h hv with hz|hvc
  ·refine⟨0,?_,?_⟩
   ·rw[hz];rfl
   ·rw[hz];simp
  ·obtain⟨_,_,hpr,_⟩:=Fc hc hvc;unfold EJ;simp only[hvc,ao,Eb,CG,G2,(Ey s.config.replicas id hc.1).1,(Ey s.config.witnesses id hc.2).1,CY];by_cases h1:id=s.config.primary
   ·rw[if_pos h1];exact⟨1,rfl,by simp[h1,hpr]⟩
   ·rw[if_neg h1];by_cases h2:id∈s.config.replicas
    ·rw[if_pos h2];exact⟨2,rfl,by simp[h2]⟩
    ·rw[if_neg h2];split
     ·exact⟨3,rfl,by simp[h2]⟩
     ·exact⟨0,rfl,by simp[h2]⟩
 obtain⟨r,r1,r2⟩:=hrole;unfold G9 FC data;simp only[r1,p1,bF,BX,if_pos hs,ao,G2,CY,cmp];by_cases h1:r=1
 ·rw[if_pos h1,if_pos (r2.1 (.inl h1))];split<;>rfl
 ·rw[if_neg h1];by_cases h2:r=2
  ·rw[if_pos h2,if_pos (r2.1 (.inr h2))];split<;>rfl
  ·rw[if_neg h2,if_neg (λh=>by rcases r2.2 h with h|h<;>contradiction)]
end
section
theorem WL(n:Int)(h0:0<=n)(h1:n<=1000000):HH n=some ([],()):=by
 unfold HH;have e1:IntKind.wrap .i64 ((0:Int)-0)=0:=vM (by decide) (by decide);have e2:IntKind.wrap .i64 (n-0)=n:=by rw[vM (by omega) (by omega)];omega
 simp only[e1,e2,CY,if_neg (show ¬n<0 by omega)];by_cases h:n>0
 ·have e: (2:Int) ^ 40=1099511627776:=by decide
  have c1:0<n/\n*((56:Nat):Int)<=2 ^ 40:=⟨h,by omega⟩
  have c2: (0:Int)<=0/\(0:Int)<=0/\(0:Int)<=((n.toNat:Nat):Int):=by omega
  simp only[if_pos h,BX,if_pos c1,if_pos c2,and_self,if_true];simp
 ·simp only[if_neg h]
theorem X1(l:List (List rj))(hl:l.length<=10)(h: ∀a∈l,a.length<=1000):Hb l=some (l.flatten,()):=by
 have hm:l.length<=maxLen:=by unfold maxLen;omega
 have tot: ∀k,(l.take k).flatten.length<=k*1000:=by
  intro k
  induction k with
  |zero=>simp
  |succ k ih=>
   cases hx:l[k]? with
   |none=>
    have hle:l.length<=k:=by simpa using hx
    rw[bW hle] at ih;rw[bW (DS hle)];exact aX ih (bq _ (cK k))
   |some a=>rw[FR hx,DW,bJ];have:=h a (aA hx);simp only[List.flatten_cons,List.flatten_nil,bP];rw[Nat.succ_mul];exact Nat.add_le_add ih this
 have k1:=B4 (B:=Gw) l (λk (n:Int)=>((l,n,l,(l.length:Int),(k:Int),()),(),())) (λk n=>n=((l.take k).flatten.length:Int)) (λ_ _ _=>((l,(l.flatten.length:Int),()),(),()))
  (λn hn=>by simp only[Gw];rw[CY,if_neg (by omega),hn,DK])
  (λk n a hx hn=>by
    have hk:=C5 hx;have c1: (k:Int)< (l.length:Int):=by omega
    have c2: (0:Int)<=(k:Int):=by omega
    have t:=tot k;have ha:=h a (aA hx);have hk10:k*1000<=10000:=by omega
    refine .inl ⟨n+(a.length:Int),?_,?_,rfl⟩
    ·simp only[Gw,CY,BX,if_pos c1,if_pos c2,DC,hx,ao,BG hm hk,vM (n:=n+(a.length:Int)) (by omega) (by omega),if_neg (show ¬n+(a.length:Int)<0 by omega)]
    ·rw[FR hx,DW,bJ,hn];simp)
  0 0 (bM _) (by simp)
 have t:=tot l.length;rw[DK] at t
 have k2:=B4 (B:=Gj) l (λk (b:List rj)=>(((),l,(l.length:Int),(k:Int),()),(),(b,()))) (λk b=>b=(l.take k).flatten) (λ_ _ _=>(((),()),(),(l.flatten,())))
  (λb hb=>by simp only[Gj];rw[CY,if_neg (by omega),hb,DK])
  (λk b a hx hb=>by
    have hk:=C5 hx;have c1: (k:Int)< (l.length:Int):=by omega
    have c2: (0:Int)<=(k:Int):=by omega
    have t:=tot k;have ha:=h a (aA hx);have hs: (b++a).length*56<=2 ^ 40:=Pm (by rw[hb,bJ];omega) (by decide);refine .inl ⟨b++a,?_,?_,rfl⟩
    ·simp only[Gj,CY,BX,if_pos c1,if_pos c2,DC,hx,ao,BG hm hk,if_pos hs]
    ·rw[FR hx,DW,hb];simp)
  0 [] (bM _) (by simp)
 unfold Hb;rw[show L9 ((l,0,l,(l.length:Int),0,()),(),())=_ from k1];simp only[ao,WL _ (show (0:Int)<=(l.flatten.length:Int) by omega) (by omega)];rw[show LI (((),l,(l.length:Int),0,()),(),([],()))=_ from k2];rfl
theorem WG(x y:rj): ((x.epoch==y.epoch)&&((x.op.client==y.op.client)&&((x.op.seq==y.op.seq)&&((x.op.kind==y.op.kind)&&((x.op.object==y.op.object)&&((x.op.old==y.op.old)&&((x.op.value==y.op.value)&&true)))))))=decide (x=y):=by obtain⟨a,b,c,d,e,f,g⟩:=x;obtain⟨a',b',c',d',e',f',g'⟩:=y;rw[bO];simp[and_assoc]
theorem Zs(a b:List rj)(ha:a.length<=maxLen):HG a b=some (decide (a=b),()):=by
 unfold HG;rw[Eb,G2];split
 ·rename_i hl;have hl:a.length=b.length:=by omega
  rcases JI (B:=GQ) a.length (λk=>((a,b,(a.length:Int),(k:Int),()),(),())) (.inr (((),()),(),())) (λ_=> .inl ((false,()),(),())) (λk=>decide (a[k]? ≠b[k]?))
   (by simp only[GQ];rw[CY,if_neg (by omega)])
   (λk hk=>by
     have c1: (k:Int)< (a.length:Int):=by omega
     have c2: (0:Int)<=(k:Int):=by omega
     have hk':k<b.length:=by omega
     simp only[GQ,WG,Eb,CY,BX,if_pos c1,if_pos c2,DC,aq hk,aq hk',ao,BG ha hk];by_cases h:a[k] =b[k]<;>simp[h]) with ⟨k1,k2⟩| ⟨i,hi,k1,k2,_⟩
  ·rw[show J8 ((a,b,(a.length:Int),0,()),(),())=_ from k1]
   have :a=b:=List.ext_getElem hl λk h1 h2=>by have:=k2 k h1;rw[aq h1,aq h2] at this;simpa using this
   rw[decide_eq_true this];rfl
  ·rw[show J8 ((a,b,(a.length:Int),0,()),(),())=_ from k1]
   have :a≠b:=λh=>by rw[h] at k2;simp at k2
   rw[decide_eq_false this];rfl
 ·rename_i hl;have :a≠b:=λh=>hl (by rw[h]);rw[decide_eq_false this]
theorem M1(a b:List rj)(ha:a.length<=maxLen): ∃n:Nat,Gt a b=some ((n:Int),())/\n<=a.length/\n<=b.length/\a.take n=b.take n/\(n<a.length->n<b.length->a[n]? ≠b[n]?):=by
 rcases JI (B:=Gh) a.length (λk=>((a,b,(k:Int),()),(),())) ((((a.length:Nat):Int),()),(),()) (λk=>(((k:Int),()),(),())) (λk=>decide (a[k]? ≠b[k]?))
  (by simp only[Gh];rw[CY,if_neg (by omega)])
  (λk hk=>by
    have c1: (k:Int)< (a.length:Int):=by omega
    have c2: (0:Int)<=(k:Int):=by omega
    by_cases hk':k<b.length
    ·have c3: (k:Int)< (b.length:Int):=by omega
     simp only[Gh,WG,CY,BX,if_pos c1,if_pos c2,if_pos c3,DC,aq hk,aq hk',ao,BG ha hk];by_cases h:a[k] =b[k]<;>simp[h]
    ·have c3: ¬ (k:Int)< (b.length:Int):=by omega
     simp only[Gh,CY,if_pos c1,if_neg c3,aq hk,cx (show b.length<=k by omega)];simp) with ⟨k1,k2⟩| ⟨i,hi,k1,k2,k3⟩
 ·have eq: ∀k,k<a.length->a[k]? =b[k]? :=λk hk=>by simpa using k2 k hk
  have hl:a.length<=b.length:=by
   rcases bn a.length with h|h
   ·omega
   ·have:=eq (a.length-1) (by omega);rw[aq (by omega)] at this;have:=C5 this.symm;omega
  refine⟨a.length,?_,ay _,hl,?_,λh=>absurd h (dA _)⟩
  ·unfold Gt;rw[show J6 ((a,b,0,()),(),())=_ from k1];rfl
  ·refine bz λk=> ?_;rw[bk,bk];split
   ·exact eq k (by assumption)
   ·rfl
 ·have eq: ∀k,k<i->a[k]? =b[k]? :=λk hk=>by simpa using k3 k hk
  have hl:i<=b.length:=by
   rcases bn i with h|h
   ·omega
   ·have:=eq (i-1) (by omega);rw[aq (by omega)] at this;have:=C5 this.symm;omega
  refine⟨i,?_,by omega,hl,?_,λ_ _=>by simpa using k2⟩
  ·unfold Gt;rw[show J6 ((a,b,0,()),(),())=_ from k1];rfl
  ·refine bz λk=> ?_;rw[bk,bk];split
   ·exact eq k (by assumption)
   ·rfl
theorem WT(a:List rj)(n:Int)(t:List rj)(ha:a.length<=1048576)(ht:t.length<=1048576): ∃l b,FZ a n t=some (l,b,())/\Lo a n t=some (l,b,())/\l.length<=19:=by
 unfold FZ Lo Lj Lq;rcases isLog a (Em ha) with ⟨a1,a2,a3⟩| ⟨a1,a2⟩
 case inr=>simp only[a1,a2,ao];exact⟨_,_,rfl,rfl,bM _⟩
 rcases isLog t (Em ht) with ⟨t1,t2,t3⟩| ⟨t1,t2⟩
 case inr=>simp only[a1,a2,t1,t2,ao];exact⟨_,_,rfl,rfl,bM _⟩
 simp only[a1,a2,t1,t2,ao,Eb,CG,EF,IU];by_cases c1: (t.length:Int)<=3
 case neg=>simp only[CY,if_neg c1];exact⟨_,_,rfl,rfl,bM _⟩
 rw[vM (n:=16-(t.length:Int)) (by omega) (by omega)];cases hw:Gp n 0 (16-(t.length:Int)) with
 |false=>simp only[CY,if_pos c1];exact⟨_,_,rfl,rfl,bM _⟩
 |true=>
  have hw:=Ec.1 hw;simp only[CY,if_pos c1,CG]
  have rest: ∃l b,(if n>(a.length:Int) then some (([]:List rj),false,()) else iteP (0<=n/\n<=(a.length:Int)/\(a.length:Int)<=(a.length:Int)) ((Gt ((a.drop n.toNat).take ((a.length:Int).toNat-n.toNat)) t).bind λy3=>if y3.1< (if (t.length:Int)< (IntKind.wrap .i64 ((a.length:Int)-n)) then (t.length:Int) else (IntKind.wrap .i64 ((a.length:Int)-n))) then some (([]:List rj),false,()) else ((FC a).bind λy4=>iteP (0<=y3.1/\y3.1<=(t.length:Int)/\(t.length:Int)<=(t.length:Int)) (iteP ((y4.1++((t.drop y3.1.toNat).take ((t.length:Int).toNat-y3.1.toNat))).length*56<=2 ^ 40) ((EL (y4.1++((t.drop y3.1.toNat).take ((t.length:Int).toNat-y3.1.toNat)))).bind λy5=>br y5.1 (some ((y4.1++((t.drop y3.1.toNat).take ((t.length:Int).toNat-y3.1.toNat))),true,())) (some (([]:List rj),false,()))) none) none)) none)=some (l,b,())/\
    (if n>(a.length:Int) then some (([]:List rj),false,()) else iteP (0<=(if (IntKind.wrap .i64 ((a.length:Int)-n))< (t.length:Int) then (IntKind.wrap .i64 ((a.length:Int)-n)) else (t.length:Int))/\(if (IntKind.wrap .i64 ((a.length:Int)-n))< (t.length:Int) then (IntKind.wrap .i64 ((a.length:Int)-n)) else (t.length:Int))<=(t.length:Int)/\(t.length:Int)<=(t.length:Int)) ((Hb ([a,((t.drop (if (IntKind.wrap .i64 ((a.length:Int)-n))< (t.length:Int) then (IntKind.wrap .i64 ((a.length:Int)-n)) else (t.length:Int)).toNat).take ((t.length:Int).toNat-(if (IntKind.wrap .i64 ((a.length:Int)-n))< (t.length:Int) then (IntKind.wrap .i64 ((a.length:Int)-n)) else (t.length:Int)).toNat))]:List (List rj))).bind λy3=>iteP (0<=n/\n<=(IntKind.wrap .i64 (n+(if (IntKind.wrap .i64 ((a.length:Int)-n))< (t.length:Int) then (IntKind.wrap .i64 ((a.length:Int)-n)) else (t.length:Int))))/\(IntKind.wrap .i64 (n+(if (IntKind.wrap .i64 ((a.length:Int)-n))< (t.length:Int) then (IntKind.wrap .i64 ((a.length:Int)-n)) else (t.length:Int))))<=(a.length:Int)) (iteP (0<=(0:Int)/\(0:Int)<=(if (IntKind.wrap .i64 ((a.length:Int)-n))< (t.length:Int) then (IntKind.wrap .i64 ((a.length:Int)-n)) else (t.length:Int))/\(if (IntKind.wrap .i64 ((a.length:Int)-n))< (t.length:Int) then (IntKind.wrap .i64 ((a.length:Int)-n)) else (t.length:Int))<=(t.length:Int)) ((HG ((a.drop n.toNat).take ((IntKind.wrap .i64 (n+(if (IntKind.wrap .i64 ((a.length:Int)-n))< (t.length:Int) then (IntKind.wrap .i64 ((a.length:Int)-n)) else (t.length:Int)))).toNat-n.toNat)) ((t.drop (0:Int).toNat).take ((if (IntKind.wrap .i64 ((a.length:Int)-n))< (t.length:Int) then (IntKind.wrap .i64 ((a.length:Int)-n)) else (t.length:Int)).toNat-(0:Int).toNat))).bind λy4=>br y4.1 ((Jy y3.1).bind λy5=>br y5.1 (some (y3.1,true,())) (some (([]:List rj),false,()))) (some (([]:List rj),false,()))) none) none) none)=some (l,b,())/\l.length<=19:=by
   by_cases c2:n>(a.length:Int)
   ·simp only[if_pos c2];exact⟨_,_,rfl,rfl,bM _⟩
   ·rw[vM (n:=(a.length:Int)-n) (by omega) (by omega)];obtain⟨i,rfl⟩: ∃i:Nat,n=(i:Int):=⟨n.toNat,by omega⟩
    have hm: (if (a.length:Int)-(i:Int)< (t.length:Int) then (a.length:Int)-(i:Int) else (t.length:Int))=((min t.length (a.length-i):Nat):Int):=by split<;>omega
    have hm2: (if (t.length:Int)< (a.length:Int)-(i:Int) then (t.length:Int) else (a.length:Int)-(i:Int))=((min t.length (a.length-i):Nat):Int):=by split<;>omega
    rw[hm,hm2];generalize hM:min t.length (a.length-i)=m;have d1: (0:Int)<=(i:Int)/\(i:Int)<=(a.length:Int)/\(a.length:Int)<=(a.length:Int):=by omega
    have d2: (0:Int)<=(m:Int)/\(m:Int)<=(t.length:Int)/\(t.length:Int)<=(t.length:Int):=by omega
    have d3: (0:Int)<=(i:Int)/\(i:Int)<=((i:Int)+(m:Int))/\((i:Int)+(m:Int))<=(a.length:Int):=by omega
    have d4: (0:Int)<=0/\(0:Int)<=(m:Int)/\(m:Int)<=(t.length:Int):=by omega
    have e1: (a.drop i).take (a.length-i)=a.drop i:=bW (by simp);have e2: (t.drop m).take (t.length-m)=t.drop m:=bW (by simp);have e3: ((i:Int)+(m:Int)).toNat-i=m:=by omega
    have hc:=X1 [a,t.drop m] (by simp) (by
     intro z hz;simp only[aZ,List.not_mem_nil,or_false] at hz;rcases hz with rfl|rfl
     ·omega
     ·simp;omega)
    rw[show ([a,t.drop m]:List (List rj)).flatten=a++t.drop m by simp] at hc;rw[vM (n:=(i:Int)+(m:Int)) (by omega) (by omega)];have hx: (a++t.drop m).length<=19:=by simp;omega
    have hxm: (a++t.drop m).length<=maxLen:=by unfold maxLen;omega
    have he:=Zs ((a.drop i).take m) (t.take m) (by simp[maxLen];omega);obtain⟨k,k1,k2,k3,k4,k5⟩:=M1 (a.drop i) t (by simp[maxLen];omega);simp only[if_neg c2,BX,if_pos d1,if_pos d2,if_pos d3,if_pos d4,DC,D3,cE,DU,e1,e2,e3,hc,he,k1,ao,CY];have hk:k<=m:=by simp at k2;omega
    by_cases hkm:k=m
    ·subst hkm;simp only[if_neg (show ¬ ((k:Int)< (k:Int)) by omega),(Ki a ha).1,ao,if_pos d2,e2,if_pos k4];rw[if_pos (Pm (by omega) (by decide))];rcases isLog (a++t.drop k) hxm with ⟨z1,z2,_⟩| ⟨z1,z2⟩
     ·simp only[z1,z2,ao];exact⟨_,_,rfl,rfl,hx⟩
     ·simp only[z1,z2,ao];exact⟨_,_,rfl,rfl,bM _⟩
    ·have hlt:k<m:=by omega
     have hne: ¬ (a.drop i).take m=t.take m:=λh=>by have:=congrArg (λz:List rj=>z[k]?) h;simp only[bk,if_pos hlt] at this;exact k5 (by simp;omega) (by omega) this
     simp only[if_pos (show ((k:Int)< (m:Int)) by omega),if_neg hne];exact⟨_,_,rfl,rfl,bM _⟩
  by_cases h0:n=0
  ·simp only[G2,if_pos h0,CG];exact rest
  ·simp only[G2,if_neg h0];by_cases h3: (t.length:Int)=3
   ·simp only[h3,beq_self_eq_true,CG];rw[h3] at rest;exact rest
   ·have : ((t.length:Int)==3)=false:=by simpa using h3
    simp only[this,BI];exact⟨_,_,rfl,rfl,bM _⟩
end
section
theorem Uy(x:uK):Dg (J0 x) (M2 x):=by
 obtain⟨b,h1,h2⟩:=L6 x;unfold J0 M2;simp only[h1,h2,ao];cases b with
 |false=>simp only[Bool.not_false,CG];cases ((x.epoch==0)&&((x.holder==0)&&((x.ends==0)&&true)))<;>exact⟨_,rfl,rfl⟩
 |true=>
  simp only[df,BI];cases he:x.ends==0 with
  |true=>
   cases hz: ((x.epoch==0)&&((x.holder==0)&&(true&&true))) with
   |true=>exact⟨_,rfl,rfl⟩
   |false=>
    exfalso;unfold Gx at h2;rw[he,hz] at h2;simp only[BI,IU,ao] at h2
    have hw:Gp x.ends 1 1049=false:=by rw[Bool.eq_false_iff];intro hw;have:=Ec.1 hw;simp only[beq_iff_eq] at he;omega
    rw[hw] at h2;revert h2;cases Gp x.epoch 1 20<;>cases Gp x.holder 0 4<;>intro h2<;>cases h2
  |false=>
   have hz: ((x.epoch==0)&&((x.holder==0)&&(false&&true)))=false:=by cases x.epoch==0<;>cases x.holder==0<;>rfl
   rw[hz];exact⟨_,rfl,rfl⟩
theorem ND(x:uK)(n:Int):Dg (Hq x n) (H9 x n):=by obtain⟨b,h1,h2⟩:=L6 x;obtain⟨t,t1,t2⟩:=Uy x;unfold Hq H9;simp only[h1,h2,t1,t2,EF,IU,ao];cases b<;>cases Gp n 0 999<;>exact⟨_,rfl,rfl⟩
end
section
theorem PI{l:List uN}(hl:l.length<=maxLen)(hv:ES l=some (true,())):l.length=5:=by
 obtain⟨b,h1,h2⟩:=JU l hl;rw[hv] at h1;simp only[af,au,and_true] at h1;subst h1;unfold Jh at h2;cases h: ((l.length:Int)==5) with
 |false=>rw[h] at h2;cases h2
 |true=>simp only[beq_iff_eq] at h;omega
end
section
theorem Ux(a b:List Int)(ha:MY a)(hb:b.length<=maxLen):Gk a b=some (a.filter λx=> !decide (x∈b),()):=by
 have hl:=ha.len;have hm:a.length<=maxLen:=by unfold maxLen;omega
 have hp:=ha.pair
 have fA:=B4 (B:=Gi) a (λk (out:List Int)=>((a,b,(),(k:Int),()),(),(out,()))) (λk out=>out=(a.take k).filter λx=> !decide (x∈b)) (λk r out=>(((),()),(),(out++r.filter λx=> !decide (x∈b),())))
  (λout hb=>by simp only[Gi];rw[CY,if_neg (by omega)];simp)
  (λk out x hx hout=>by
    have hk:=C5 hx;have c1: (k:Int)< (a.length:Int):=by omega
    have c2: (0:Int)<=(k:Int):=by omega
    have hxe:a[k] =x:=by rw[aq hk] at hx;exact Option.some.inj hx
    simp only[Gi,Eb,CY,BX,if_pos c1,if_pos c2,DC,hx,ao,(Ey b x hb).1,BG hm hk];by_cases hin:x∈b
    ·simp only[if_pos hin];refine .inl ⟨out,rfl,?_,?_⟩
     ·rw[hout,DM,hx,DR];simp[hin]
     ·simp[hin]
    ·have hlt: ∀y∈out,y<x:=by
      intro y hy;rw[hout,D0] at hy;obtain⟨i,hi,he⟩:=aU hy.1;have hi':i<k:=by simp at hi;omega
      rw[DY] at he;rw[<-he,<-hxe];exact DL.1 hp i k (by omega) hk hi'
     have hol:out.length<=1000:=by rw[hout];have:=D4 (λx=> !decide (x∈b)) (a.take k);simp only[cP] at this;omega
     simp only[if_neg hin,Tq out x hol hlt,ao];refine .inl ⟨out++ [x],rfl,?_,?_⟩
     ·rw[hout,DM,hx,DR];simp[hin]
     ·simp[hin])
  0 [] (bM _) rfl
 unfold Gk;rw[show LH ((a,b,(),0,()),(),([],()))=_ from fA];rfl
end
section
theorem SH{l:List Int}(h:SS l)(hr: ∀y∈l,0<=y/\y<5):MY l:=by intro k hk;have:=hr _ (DF hk);exact⟨by omega,λh0=>DL.1 h _ _ (by omega) hk (by omega)⟩
theorem QA{l:List Int}(h:MY l):Fz l=some (true,())/\GJ l=some (true,()):=by
 have hl:=h.len;have hm:l.length<=maxLen:=by unfold maxLen;omega
 obtain⟨_,_,h1,h2⟩:=M6 (B1:=FT) (B2:=FS) l.length (λk (_:Unit)=>((l,(k:Int),()),(),())) (λk _=>((l,l,(l.length:Int),(k:Int),()),(),())) (λ_ _=>True) (λ_=> .inr (((),()),(),())) (λ_=> .inr (((),()),(),()))
  (λ_ _=>by simp only[FT,FS,CY];exact⟨if_neg (by omega),if_neg (by omega)⟩)
  (λk _ hk _=>by
    have c1: (k:Int)< (l.length:Int):=by omega
    have c2: (0:Int)<=(k:Int):=by omega
    obtain⟨r1,r2⟩:=h k hk;have w:Gp l[k] 0 4=true:=Ec.2 r1;refine⟨(),?_⟩;simp only[FT,FS,CY,BX,if_pos c1,if_pos c2,DC,aq hk,ao,EF,IU,w,df,BI,BG hm hk];by_cases h0:0<k
    ·have c3: (k:Int)>0:=by omega
     have c4: (0:Int)<=((k-1:Nat):Int):=by omega
     have e2:l[k-1]? =some l[k-1] :=aq (by omega);have:=r2 h0;simp only[if_pos c3,BF h0 (by omega),if_pos c4,DC,e2,ao,if_neg (show ¬l[k-1] ≥l[k] by omega),if_neg (show ¬l[k] <=l[k-1] by omega),and_self]
    ·simp only[if_neg (show ¬ (k:Int)>0 by omega),and_self])
  () trivial
 unfold Fz GJ;rw[show JJ ((l,0,()),(),())=_ from h1,show JH ((l,l,(l.length:Int),0,()),(),())=_ from h2];exact⟨rfl,rfl⟩
end
section

end
section
theorem Sz{m:jY}(h:NZ 1048576 m)(hv:Eo m=some (true,())):m.configs.length<=20:=by
 obtain⟨f,_,_⟩:=II (Ff h) hv;rcases bn m.configs.length with h0|h0
 ·omega
 ·have hk:m.configs.length-1<m.configs.length:=by omega
  obtain⟨f1,f2⟩:=f _ hk;have:=(Fc (Ee (h.2 _ (DF hk))) f1).2.2.2.2.1;omega
def cutAt(l:List rj):Nat:=l.length-3
theorem UI(l:List rj)(hl:l.length<=1048576): (if IntKind.wrap .i64 ((l.length:Int)-3)>0 then IntKind.wrap .i64 ((l.length:Int)-3) else 0)=((cutAt l:Nat):Int):=by rw[vM (by omega) (by omega)];unfold cutAt;split<;>omega
end
section
theorem V8(x:qg)(ok:Ew 1048576 x)(hv:Ea x=some (true,())):Dg (FJ x) (Lm x):=by
 obtain⟨b,v1,v2⟩:=Fd x ok;rw[hv] at v1;simp only[af,au,and_true] at v1;subst v1;have vc:=El ok hv;obtain⟨c,d,c1,c2,c3,c4,c5,c6⟩:=F6 x ok hv;unfold FJ Lm;simp only[c1,c2,hv,v2,ao,Eb,CG];cases d with
 |false=>
  have hz:=c6 rfl;subst hz;simp only[BI]
  have h1:Hh (((),(),false,0,()),((x.now,x.servers,x.sides,x.master.configs,x.master.activated,x.masterUp,x.lease.epoch,x.lease.holder,x.lease.ends,x.places,()),(0,0,(),(),()),()),([],[],()))=some (.inr (((),false,()),(),())):=by refine lK ?_;simp only[Ft];rfl
  rw[h1];exact⟨_,rfl,rfl⟩
 |true=>
  simp only[CG];obtain⟨asc,_,_,_,_,_⟩:=Fc c3 (c5 rfl).1;have hl:=asc.len;have hm:c.replicas.length<=maxLen:=by unfold maxLen;omega
  have fA:=CN (B1:=Ft) (B2:=EV) c.replicas.length (λk=>(((),(),true,(k:Int),()),((x.now,x.servers,x.sides,x.master.configs,x.master.activated,x.masterUp,x.lease.epoch,x.lease.holder,x.lease.ends,x.places,()),(c.epoch,c.primary,(),(),()),()),(c.replicas,c.witnesses,()))) (λk=>((c.replicas,(x,c,()),(c.replicas.length:Int),(k:Int),()),(),()))
   (.inr (((),true,()),(),())) (.inr (((),()),(),())) (λ_=> .inl ((true,true,()),(),())) (λk=> .inl (((k:Int),()),(),()))
   (λ_=>True) (λ_=>True)
   (by simp only[Ft];rw[CY,if_neg (by omega)])
   (by simp only[EV];rw[CY,if_neg (by omega)])
   (λk hk=>by
     have c1: (k:Int)< (c.replicas.length:Int):=by omega
     have c2: (0:Int)<=(k:Int):=by omega
     have c3: (0:Int)<=(k:Int)/\(k:Int)< (c.replicas.length:Int):=⟨c2,c1⟩
     have hid:=(asc k hk).1;have c4: (0:Int)<=c.replicas[k] :=hid.1;have hlt:c.replicas[k].toNat<x.servers.length:=by rw[vc.len];omega
     simp only[Ft,EV,JT,CY,BX,if_pos c1,if_pos c2,if_pos c3,DC,aq hk,ao,if_pos c4,aq hlt,CG,BG hm hk];cases (x.servers[c.replicas[k].toNat].config.epoch==c.epoch) with
     |false=>exact .inl ⟨rfl,rfl,trivial⟩
     |true=>exact .inr ⟨rfl,rfl,trivial⟩)
  unfold Ge Gy;rcases fA with ⟨k1,k2,_⟩| ⟨k,_,k1,k2,_⟩
  ·rw[show Hh (((),(),true,0,()),((x.now,x.servers,x.sides,x.master.configs,x.master.activated,x.masterUp,x.lease.epoch,x.lease.holder,x.lease.ends,x.places,()),(c.epoch,c.primary,(),(),()),()),(c.replicas,c.witnesses,()))=_ from k1,show Fs ((c.replicas,(x,c,()),(c.replicas.length:Int),0,()),(),())=_ from k2];exact⟨_,rfl,rfl⟩
  ·rw[show Hh (((),(),true,0,()),((x.now,x.servers,x.sides,x.master.configs,x.master.activated,x.masterUp,x.lease.epoch,x.lease.holder,x.lease.ends,x.places,()),(c.epoch,c.primary,(),(),()),()),(c.replicas,c.witnesses,()))=_ from k1,show Fs ((c.replicas,(x,c,()),(c.replicas.length:Int),0,()),(),())=_ from k2];simp only[ao,DV];rw[decide_eq_true (by omega)];exact⟨_,rfl,rfl⟩
end
section

end
section

end
section
theorem WE(s:qj)(id:Int)(h:ED 1048576 s): (data s id).length<=1048576:=by
 have h1:=h.2.1;have h2:=h.2.2
 have h3: (KW s).length<=s.log.length:=by
  unfold KW;split
  ·simp;omega
  ·exact bM _
 unfold data;split
 ·split<;>omega
 ·exact h2
end
section
abbrev fx(x:qg):Int×List qj×List Int×List nE×Int×Int×Int×Int×Int×List uN×Unit:=(x.now,x.servers,x.sides,x.master.configs,x.master.activated,x.masterUp,x.lease.epoch,x.lease.holder,x.lease.ends,x.places,())
abbrev WI(s:qj):Bool×Bool×Int×Int×Int×Int×List Int×List Int×Int×List rj×Int×List rj×Unit:=(s.up,s.intact,s.version,s.epoch,s.config.epoch,s.config.primary,s.config.replicas,s.config.witnesses,s.first,s.log,s.commit,s.learned,())
structure Wy (x x':qg):Prop where
 sides:x'.sides=x.sides
 master:x'.master=x.master
 srv: ∀ (k:Nat) (s:qj),x.servers[k]? =some s-> ∃e,x'.servers[k]? =some (⟨s.up,s.intact,s.version,e,s.config,s.first,s.log,s.commit,s.learned⟩:qj)
theorem Wy.refl(x:qg):Wy x x:=⟨rfl,rfl,λ_ s h=>⟨s.epoch,h⟩⟩
theorem Wy.side{x x':qg}(h:Wy x x')(a:Int):G3 x' a=G3 x a:=by unfold G3;rw[h.sides]
theorem Wz{x:qg}(ok:Ew 1048576 x)(hv:Ea x=some (true,())): ∃c d,Ef x.master=some (c,d,())/\EY x.master=some (c,d,())/\Gc maxLen c/\c.replicas.length<=5/\c.witnesses.length<=5/\(∀z∈c.replicas,0<=z/\z<5)/\(∀z∈c.witnesses,0<=z/\z<5)/\(d=false->c=⟨0,0,[],[]⟩):=by
 obtain⟨c,d,d1,d2,d3,d4,d5,d6⟩:=F6 x ok hv
 have rng: ∀ {l:List Int},MY l-> ∀y∈l,0<=y/\y<5:=by intro l ha y hy;obtain⟨k,hk,rfl⟩:=aU hy;have:=(ha k hk).1;omega
 cases d with
 |false=>exact⟨c,false,d1,d2,d3,by rw[d6 rfl];simp,by rw[d6 rfl];simp,by rw[d6 rfl];simp,by rw[d6 rfl];simp,d6⟩
 |true=>obtain⟨a1,a2,_⟩:=Fc d3 (d5 rfl).1;exact⟨c,true,d1,d2,d3,a1.len,a2.len,rng a1,rng a2,nofun⟩
section
variable {x x':qg} (ok:Ew 1048576 x) (ok':Ew 1048576 x') (hv:Ea x=some (true,())) (hv':Ea x'=some (true,())) (se:Wy x x') {id:Int} (hid:0<=id/\id<5)
include ok ok' hv hv' se hid
theorem OW: ∃l,Fn x id=some (l,())/\HN x' id=some (l,())/\l.length<=5/\ ∀z∈l,0<=z/\z<5:=by
 have vc:=El ok hv;have vc':=El ok' hv';obtain⟨c,d,d1,d2,d3,r5,_,inr,_,d6⟩:=Wz ok hv;have rm:c.replicas.length<=maxLen:=by unfold maxLen;omega
 have tH:Gp id 0 4=true:=Ec.2 (by omega)
 have hgood:EU x' id=some (true,()):=by obtain⟨v,w1,w2⟩:=Fd x' ok';rw[hv'] at w1;simp only[af,au,and_true] at w1;subst w1;unfold EU;simp only[w2,ao,IU,tH,CG]
 unfold Fn HN;have d2':EY x'.master=some (c,d,()):=by rw[se.master];exact d2
 simp only[d1,d2',hgood,ao,Eb,CG];cases d with
 |false=>
  have hc:=d6 rfl;subst hc
  rw[show JK ((id,(),(),(),false,0,()),(fx x,(0,0,(),(),()),()),([],[],[],()))=some (((),()),(),([],())) from lK (by simp only[FG];rfl)]
  exact⟨[],rfl,rfl,bM _,nofun⟩
 |true=>
  obtain⟨l,q,k1,k2⟩:=M6 (B1:=FG) (B2:=Jt) c.replicas.length (λk (b:List Int)=>((id,(),(),(),true,(k:Int),()),(fx x,(c.epoch,c.primary,(),(),()),()),(b,c.replicas,c.witnesses,()))) (λk b=>((id,(),(),(),(),(c.replicas.length:Int),(k:Int),()),(fx x',(c.epoch,c.primary,(),(),()),()),(b,c.replicas,c.witnesses,()))) (λk b=>b.length<=k/\ ∀z∈b,0<=z/\z<5) (λb=>(((),()),(),(b,()))) (λb=>(((),()),(),(b,())))
   (λb _=>by simp only[FG,Jt,CY];exact⟨if_neg (by omega),if_neg (by omega)⟩)
   (λk b hk hb=>by
     have c1: (k:Int)< (c.replicas.length:Int):=by omega
     have c2: (0:Int)<=(k:Int)/\(k:Int)< (c.replicas.length:Int):=by omega
     have hz:=inr _ (DF hk);generalize hzz:c.replicas[k] =z at hz;have hg:c.replicas[k]? =some z:=by rw[<-hzz];exact aq hk
     obtain⟨s,s1,s2,_⟩:=HI ok vc hz;obtain⟨e,e1⟩:=se.srv _ _ s1;obtain⟨h1,_⟩:=KL x ok vc hid hz;obtain⟨_,h2⟩:=KL x' ok' vc' hid hz;rw[se.side,se.side] at h2;have h40: (b++ [z]).length*8<=2 ^ 40:=HW (by simp;omega)
     simp only[FG,Jt,JW,fx,CY,CG,BX,if_pos c1,if_pos c2,DC,hg,ao,
      show (⟨x.now,x.servers,x.sides,(⟨x.master.configs,x.master.activated⟩:jY),x.masterUp,(⟨x.lease.epoch,x.lease.holder,x.lease.ends⟩:uK),x.places⟩:qg)=x from rfl,hv,EF,tH,if_pos hz.1,s1,e1,h1,h2,if_pos h40,BG rm hk]
     have hb': (b++ [z]).length<=k+1/\ ∀y∈b++ [z],0<=y/\y<5:=⟨by simp;omega,λy hy=>by
      rcases bC.1 hy with h|h
      ·exact hb.2 y h
      ·rw[aL.1 h];exact hz⟩
     have hb'':b.length<=k+1/\ ∀y∈b,0<=y/\y<5:=⟨by omega,hb.2⟩
     cases s.up<;>cases (s.config.epoch==c.epoch)<;>cases (G3 x id==G3 x z)<;>simp only[CG,BI,ao]<;>first |exact⟨b++ [z],rfl,rfl,hb'⟩|exact⟨b,rfl,rfl,hb''⟩)
   [] ⟨bM _,nofun⟩
  rw[show JK ((id,(),(),(),true,0,()),(fx x,(c.epoch,c.primary,(),(),()),()),([],c.replicas,c.witnesses,()))=_ from k1,
   show NE ((id,(),(),(),(),(c.replicas.length:Int),0,()),(fx x',(c.epoch,c.primary,(),(),()),()),([],c.replicas,c.witnesses,()))=_ from k2]
  exact⟨l,rfl,rfl,by omega,q.2⟩
theorem QF: ∃n,FA x id=some (n,())/\IG x' id=some (n,())/\(n= -1\/(0<=n/\n<5)):=by
 have vc:=El ok hv;obtain⟨l,l1,l2,l3,inl⟩:=OW ok ok' hv hv' se hid;have lm:l.length<=maxLen:=by unfold maxLen;omega
 obtain⟨n,q,k1,k2⟩:=M6 (B1:=FU) (B2:=Js) l.length (λk (b:Int)=>(((),b,(),(k:Int),()),(fx x,()),(l,()))) (λk b=>(((),b,(),(l.length:Int),(k:Int),()),(fx x',()),(l,()))) (λ_ b=>b= -1\/(0<=b/\b<5)) (λb=>((b,()),(),())) (λb=>((b,()),(),()))
  (λb _=>by simp only[FU,Js,CY];exact⟨if_neg (by omega),if_neg (by omega)⟩)
  (λk b hk hb=>by
    have c1: (k:Int)< (l.length:Int):=by omega
    have c2: (0:Int)<=(k:Int)/\(k:Int)< (l.length:Int):=by omega
    have hz:=inl _ (DF hk);generalize hzz:l[k] =z at hz;have hg:l[k]? =some z:=by rw[<-hzz];exact aq hk
    obtain⟨s,s1,s2,_⟩:=HI ok vc hz;obtain⟨e,e1⟩:=se.srv _ _ s1;simp only[FU,Js,fx,CY,BX,if_pos c1,if_pos c2,DC,hg,ao,if_pos hz.1,s1,e1,BG lm hk];rcases hb with rfl|hb
    ·exact⟨z,rfl,rfl,.inr hz⟩
    ·obtain⟨t,t1,t2,_⟩:=HI ok vc hb;obtain⟨f,f1⟩:=se.srv _ _ t1;simp only[if_neg (show ¬b<0 by omega),if_pos hb.1,t1,f1,ao];by_cases h: (s.log.length:Int)>(t.log.length:Int)
     ·simp only[if_pos h];exact⟨z,rfl,rfl,.inr hz⟩
     ·simp only[if_neg h];exact⟨b,rfl,rfl,.inr hb⟩)
  (-1) (.inl rfl)
 unfold FA IG;simp only[l1,l2,ao];rw[show LF (((),(-1),(),0,()),(fx x,()),(l,()))=_ from k1,show LD (((),(-1),(),(l.length:Int),0,()),(fx x',()),(l,()))=_ from k2];exact⟨n,rfl,rfl,q⟩
omit ok hv se in
theorem WK:EU x' id=some (true,()):=by obtain⟨v,w1,w2⟩:=Fd x' ok';rw[hv'] at w1;simp only[af,au,and_true] at w1;subst w1;unfold EU;simp only[w2,ao,IU,Ec.2 (show 0<=id/\id<=4 by omega),CG]
theorem TE{c:nE}{w w':qj}{z j:Int}(hw:ED 1048576 w)(h1:w'.first=w.first)(h2:w'.log=w.log)(b:List rj×Bool)(hb:b.1.length<=19/\(b.2=false->b.1= [])): ∃r:List rj×Bool,(r.1.length<=19/\(r.2=false->r.1= []))/\
  H1 ((id,(),(),b.2,(),true,j,(),0,()),(fx x,(c.epoch,c.primary,(),(),()),WI w,()),(b.1,c.replicas,c.witnesses,()))=some ((id,(),(),r.2,(),true,j,()),(fx x,(c.epoch,c.primary,(),(),()),()),(r.1,c.replicas,c.witnesses,()))/\
  Ni ((id,(),(),(),b.2,(),(),z,j,x'.servers,(x'.servers.length:Int),0,()),(fx x',(c.epoch,c.primary,(),(),()),WI w',()),(b.1,c.witnesses,c.replicas,()))=some ((id,(),(),(),r.2,(),z,j,()),(fx x',(c.epoch,c.primary,(),(),()),()),(r.1,c.witnesses,c.replicas,())):=by
 have vc:=El ok hv;have vc':=El ok' hv'
 refine M6 (B1:=Fw) (B2:=G5) 5 (λk (b:List rj×Bool)=>((id,(),(),b.2,(),true,j,(),(k:Int),()),(fx x,(c.epoch,c.primary,(),(),()),WI w,()),(b.1,c.replicas,c.witnesses,()))) (λk b=>((id,(),(),(),b.2,(),(),z,j,x'.servers,(x'.servers.length:Int),(k:Int),()),(fx x',(c.epoch,c.primary,(),(),()),WI w',()),(b.1,c.witnesses,c.replicas,()))) (λ_ b=>b.1.length<=19/\(b.2=false->b.1= [])) (λb=>((id,(),(),b.2,(),true,j,()),(fx x,(c.epoch,c.primary,(),(),()),()),(b.1,c.replicas,c.witnesses,()))) (λb=>((id,(),(),(),b.2,(),z,j,()),(fx x',(c.epoch,c.primary,(),(),()),()),(b.1,c.witnesses,c.replicas,())))
  (λb _=> ?_) (λk b hk hb=> ?_) b hb
 ·simp only[Fw,G5,CY,vc'.len];exact⟨if_neg (by omega),if_neg (by omega)⟩
 ·have c1: (k:Int)<5:=by omega
  have c1': (k:Int)< (x'.servers.length:Int):=by rw[vc'.len];omega
  have c2: (0:Int)<=(k:Int):=by omega
  have hkk:0<=(k:Int)/\(k:Int)<5:=⟨c2,c1⟩
  obtain⟨s,s1,s2,s3⟩:=HI ok vc hkk;obtain⟨t,t1,t2,t3⟩:=HI ok' vc' hkk;obtain⟨e,e1⟩:=se.srv _ _ s1;rw[t1] at e1;have e1:=Option.some.inj e1;obtain⟨g1,_⟩:=KL x ok vc hid hkk;obtain⟨_,g2⟩:=KL x' ok' vc' hid hkk;rw[se.side,se.side] at g2;have dt:data t (k:Int)=data s (k:Int):=by rw[e1];rfl
  have tup:t.up=s.up:=by rw[e1]
  obtain⟨q1,_⟩:=SM s (k:Int) s2 s3;obtain⟨_,q2⟩:=SM t (k:Int) t2 t3;rw[dt] at q2;have dl: (data s (k:Int)).length<=1048576:=WE s _ s2;obtain⟨l,f,j1,j2,j3⟩:=WT (data s (k:Int)) w.first w.log dl hw.2.1;have sw:=BG (n:=5) (by decide) hk;rw[DC] at s1 t1;simp only[Fw,G5,fx,WI,CY,Eb,BX,if_pos c1,if_pos c1',if_pos c2,DC,s1,t1,ao,tup,g1,g2,q1,q2,h1,h2,j1,j2,sw];cases s.up with
  |false=>exact⟨b,rfl,rfl,hb⟩
  |true=>
   cases (G3 x id==G3 x (k:Int)) with
   |false=>exact⟨b,rfl,rfl,hb⟩
   |true=>
    cases f with
    |false=>exact⟨b,rfl,rfl,hb⟩
    |true=>
     simp only[CG];cases hb2:b.2 with
     |false=>exact⟨(l,true),rfl,rfl,j3,nofun⟩
     |true=>
      simp only[CG];by_cases h: (l.length:Int)>(b.1.length:Int)
      ·simp only[if_pos h];exact⟨(l,true),rfl,rfl,j3,nofun⟩
      ·simp only[if_neg h];exact⟨b,by rw[hb2],by rw[hb2],hb⟩
theorem RI: ∃l b,EP x id=some (l,b,())/\Gm x' id=some (l,b,())/\l.length<=19:=by
 have vc:=El ok hv;have vc':=El ok' hv';obtain⟨c,d,d1,d2,d3,_,r5,_,inw,d6⟩:=Wz ok hv;have rm:c.witnesses.length<=maxLen:=by unfold maxLen;omega
 have tH:Gp id 0 4=true:=Ec.2 (by omega);have hgood:=WK ok' hv' hid;have d2':EY x'.master=some (c,d,()):=by rw[se.master];exact d2
 unfold EP Gm;simp only[d1,d2',hgood,ao,Eb,CG];cases d with
 |false=>
  have hc:=d6 rfl;subst hc
  rw[show JL ((id,(),(),false,(),false,0,()),(fx x,(0,0,(),(),()),()),([],[],[],()))=some (((),false,()),(),([],())) from lK (by simp only[Fk];rfl)]
  exact⟨[],false,rfl,rfl,bM _⟩
 |true=>
  obtain⟨r,q,k1,k2⟩:=M6 (B1:=Fk) (B2:=Hv) c.witnesses.length (λk (b:List rj×Bool)=>((id,(),(),b.2,(),true,(k:Int),()),(fx x,(c.epoch,c.primary,(),(),()),()),(b.1,c.replicas,c.witnesses,()))) (λk b=>((id,(),(),(),b.2,(),(c.witnesses.length:Int),(k:Int),()),(fx x',(c.epoch,c.primary,(),(),()),()),(b.1,c.witnesses,c.replicas,()))) (λ_ b=>b.1.length<=19/\(b.2=false->b.1= [])) (λb=>(((),b.2,()),(),(b.1,()))) (λb=>(((),b.2,()),(),(b.1,())))
   (λb _=>by simp only[Fk,Hv,CY];exact⟨if_neg (by omega),if_neg (by omega)⟩)
   (λk b hk hb=>by
     have c1: (k:Int)< (c.witnesses.length:Int):=by omega
     have c2: (0:Int)<=(k:Int)/\(k:Int)< (c.witnesses.length:Int):=by omega
     have hz:=inw _ (DF hk);generalize hzz:c.witnesses[k] =z at hz;have hg:c.witnesses[k]? =some z:=by rw[<-hzz];exact aq hk
     obtain⟨s,s1,s2,_⟩:=HI ok vc hz;obtain⟨e,e1⟩:=se.srv _ _ s1;obtain⟨h1,_⟩:=KL x ok vc hid hz;obtain⟨_,h2⟩:=KL x' ok' vc' hid hz;rw[se.side,se.side] at h2;obtain⟨r,r1,r2,r3⟩:=TE ok ok' hv hv' se hid (c:=c) (w:=s) (w':=⟨s.up,s.intact,s.version,e,s.config,s.first,s.log,s.commit,s.learned⟩) (z:=(c.witnesses.length:Int)) (j:=(k:Int)) s2 rfl rfl b hb;simp only[fx,WI] at r2 r3
     simp only[Fk,Hv,JW,fx,CY,Eb,CG,BX,if_pos c1,if_pos c2,DC,hg,ao,
      show (⟨x.now,x.servers,x.sides,(⟨x.master.configs,x.master.activated⟩:jY),x.masterUp,(⟨x.lease.epoch,x.lease.holder,x.lease.ends⟩:uK),x.places⟩:qg)=x from rfl,hv,EF,tH,if_pos hz.1,s1,e1,h1,h2,r2,r3,BG rm hk]
     cases s.up<;>cases (s.config.epoch==c.epoch)<;>cases (G3 x id==G3 x z)<;>simp only[CG,BI,ao]<;>first |exact⟨b,rfl,rfl,hb⟩|exact⟨r,rfl,rfl,r1⟩)
   ([],false) ⟨bM _,λ_=>rfl⟩
  rw[show JL ((id,(),(),false,(),true,0,()),(fx x,(c.epoch,c.primary,(),(),()),()),([],c.replicas,c.witnesses,()))=_ from k1,
   show NF ((id,(),(),(),false,(),(c.witnesses.length:Int),0,()),(fx x',(c.epoch,c.primary,(),(),()),()),([],c.witnesses,c.replicas,()))=_ from k2]
  simp only[ao];obtain⟨l,f⟩:=r;cases f with
  |true=>exact⟨l,true,rfl,rfl,q.1⟩
  |false=>have:=q.2 rfl;simp only at this;subst this;exact⟨[],false,rfl,rfl,bM _⟩
theorem Wv: ∃l b,Fl x id=some (l,b,())/\Kt x' id=some (l,b,())/\l.length<=1048576:=by
 have vc:=El ok hv;have tH:Gp id 0 4=true:=Ec.2 (by omega);have hgood:=WK ok' hv' hid;obtain⟨n,n1,n2,n3⟩:=QF ok ok' hv hv' se hid;obtain⟨l,b,l1,l2,l3⟩:=RI ok ok' hv hv' se hid;unfold Fl Kt;rw[se.master];simp only[hv,hgood,EF,tH,n1,n2,l1,l2,ao,Eb,CG];cases (x.master.activated==0) with
 |true=>exact⟨[],true,rfl,rfl,bM _⟩
 |false=>
  simp only[BI,CY];rcases n3 with rfl|hn
  ·simp only[if_neg (show ¬ (-1:Int)≥0 by omega)];exact⟨l,b,rfl,rfl,by omega⟩
  ·obtain⟨s,s1,s2,_⟩:=HI ok vc hn;obtain⟨e,e1⟩:=se.srv _ _ s1;simp only[if_pos (show n≥0 by omega),BX,if_pos hn.1,s1,e1,ao,(Ki _ s2.2.1).1,(Ki _ s2.2.1).2];exact⟨_,_,rfl,rfl,s2.2.1⟩
end
end
section
structure SV (m:jY) (s:qj) (k:Int):Prop where
 val:Ed s k=some (true,())
 ep:s.epoch<=(m.configs.length:Int)
 lrn: ∃e,GS s.learned=some (e,())/\e<=m.activated
 cfg:s.config=⟨0,0,[],[]⟩\/(Fm m s.config.epoch=some (s.config,true,())/\s.config.epoch<=m.activated)
theorem ZW(x:qg)(ok:Ew 1048576 x)(k:Nat)(hk:k<x.servers.length):
  (SV x.master x.servers[k] (k:Int)/\Eh (((),(k:Int),()),((x.now,x.servers,x.sides,x.master.configs,x.master.activated,x.masterUp,x.lease.epoch,x.lease.holder,x.lease.ends,x.places,()),()),())=some (.inl (((),((k+1:Nat):Int),()),((x.now,x.servers,x.sides,x.master.configs,x.master.activated,x.masterUp,x.lease.epoch,x.lease.holder,x.lease.ends,x.places,()),()),())))\/
  (¬SV x.master x.servers[k] (k:Int)/\Eh (((),(k:Int),()),((x.now,x.servers,x.sides,x.master.configs,x.master.activated,x.masterUp,x.lease.epoch,x.lease.holder,x.lease.ends,x.places,()),()),())=some (.inr (.inl ((false,()),(),())))):=by
 obtain⟨⟨hs1,hs2⟩,hsd,hml,hpl⟩:=ok;have hm:=Em hs1;have c1: (k:Int)< (x.servers.length:Int):=by omega
 have c2: (0:Int)<=(k:Int):=by omega
 have hsk:=hs2 _ (DF hk);obtain⟨b,v1,v2⟩:=Jp x.servers[k] (k:Int) hsk;obtain⟨n,n1,n2⟩:=GU x.servers[k].learned (Em hsk.2.2);obtain⟨c,d,d1,d2,d3⟩:=My x.master x.servers[k].config.epoch hml;have hcfg:=Ee hsk.1
 simp only[Eh,CY,BX,if_pos c1,if_pos c2,DC,aq hk,ao,v1,n1,BG hm hk,Eb,
  show (⟨x.master.configs,x.master.activated⟩:jY)=x.master from rfl,d1,Ih _ hcfg,(FV c x.servers[k].config d3).1]
 cases b with
 |false=>exact .inr ⟨(λh=>(by have h:=v1.symm.trans h.val;cases h)),rfl⟩
 |true=>
  simp only[CG];by_cases h1:x.servers[k].epoch>(x.master.configs.length:Int)
  ·simp only[if_pos h1];exact .inr ⟨λh=>by have:=h.ep;omega,trivial⟩
  ·simp only[if_neg h1];by_cases h2:n>x.master.activated
   ·simp only[if_pos h2];refine .inr ⟨λh=> ?_,trivial⟩;obtain⟨e,e1,e2⟩:=h.lrn;rw[n1] at e1;simp only[af,au,and_true] at e1;omega
   ·simp only[if_neg h2];by_cases h3:x.servers[k].config=⟨0,0,[],[]⟩
    ·simp only[if_pos h3];exact .inl ⟨⟨v1,by omega,⟨n,n1,by omega⟩,.inl h3⟩,trivial⟩
    ·simp only[if_neg h3];cases d with
     |false=>
      refine .inr ⟨λh=> ?_,rfl⟩;rcases h.cfg with h| ⟨h,_⟩
      ·exact h3 h
      ·rw[d1] at h;cases h
     |true=>
      simp only[CG];by_cases h4:c=x.servers[k].config
      ·simp only[if_pos h4];by_cases h5:x.servers[k].config.epoch>x.master.activated
       ·simp only[if_pos h5];refine .inr ⟨λh=> ?_,trivial⟩;rcases h.cfg with h| ⟨_,h⟩
        ·exact h3 h
        ·omega
       ·simp only[if_neg h5];exact .inl ⟨⟨v1,by omega,⟨n,n1,by omega⟩,.inr ⟨by rw[d1,h4],by omega⟩⟩,trivial⟩
      ·simp only[if_neg h4];refine .inr ⟨λh=> ?_,trivial⟩;rcases h.cfg with h| ⟨h,_⟩
       ·exact h3 h
       ·rw[d1] at h;simp only[af,au,and_true] at h;exact h4 h
theorem TD(x:qg)(ok:Ew 1048576 x):
  ((∀k (hk:k<x.servers.length),SV x.master x.servers[k] (k:Int))/\Gl (((),0,()),((x.now,x.servers,x.sides,x.master.configs,x.master.activated,x.masterUp,x.lease.epoch,x.lease.holder,x.lease.ends,x.places,()),()),())=some (.inr (((),()),(),())))\/
  ((∃k,∃hk:k<x.servers.length,¬SV x.master x.servers[k] (k:Int))/\Gl (((),0,()),((x.now,x.servers,x.sides,x.master.configs,x.master.activated,x.masterUp,x.lease.epoch,x.lease.holder,x.lease.ends,x.places,()),()),())=some (.inl ((false,()),(),()))):=by
 have fA:=CN (B1:=Eh) (B2:=Eh) x.servers.length (λk=>(((),(k:Int),()),((x.now,x.servers,x.sides,x.master.configs,x.master.activated,x.masterUp,x.lease.epoch,x.lease.holder,x.lease.ends,x.places,()),()),())) (λk=>(((),(k:Int),()),((x.now,x.servers,x.sides,x.master.configs,x.master.activated,x.masterUp,x.lease.epoch,x.lease.holder,x.lease.ends,x.places,()),()),())) (.inr (((),()),(),())) (.inr (((),()),(),())) (λ_=> .inl ((false,()),(),())) (λ_=> .inl ((false,()),(),()))
  (λk=> ∀hk:k<x.servers.length,SV x.master x.servers[k] (k:Int)) (λk=> ∃hk:k<x.servers.length,¬SV x.master x.servers[k] (k:Int))
  (by simp only[Eh];rw[CY,if_neg (by omega)])
  (by simp only[Eh];rw[CY,if_neg (by omega)])
  (λk hk=>by
    rcases ZW x ok k hk with ⟨h1,h2⟩| ⟨h1,h2⟩
    ·exact .inl ⟨h2,h2,λ_=>h1⟩
    ·exact .inr ⟨h2,h2,hk,h1⟩)
 rcases fA with ⟨k1,_,k3⟩| ⟨k,hk,k1,_,k3⟩
 ·exact .inl ⟨λk hk=>k3 k hk hk,k1⟩
 ·exact .inr ⟨⟨k,k3⟩,k1⟩
theorem K1{x:qg}(ok:Ew 1048576 x)(hv:Ea x=some (true,())): ∀k (hk:k<x.servers.length),SV x.master x.servers[k] (k:Int):=by
 rcases TD x ok with ⟨h,_⟩| ⟨_,h⟩
 ·exact h
 ·exfalso;obtain⟨b1,a1,_⟩:=Kr x.sides (Em ok.2.1);obtain⟨b2,m1,_⟩:=masterLog x.master (Ff ok.2.2.1);obtain⟨b3,l1,_⟩:=L6 x.lease;obtain⟨b4,p1,_⟩:=JU x.places (Em ok.2.2.2);unfold Ea at hv;simp only[EF,a1,m1,l1,p1,ao,h,DV] at hv;revert hv;cases Gp x.now 0 999<;>cases ((x.servers.length:Int)==5)<;>cases b1<;>cases b2<;>cases Gp x.masterUp 0 3<;>cases b3<;>cases b4<;>cases decide (x.lease.epoch>x.master.activated)<;>intro hv<;>cases hv
theorem PS{x:qg}(ok:Ew 1048576 x)(hv:Ea x=some (true,()))(S:List qj)(hl:S.length=x.servers.length)(hok: ∀s∈S,ED 1048576 s)(hS: ∀k (hk:k<S.length),SV x.master S[k] (k:Int)):
  Ew 1048576 ⟨x.now,S,x.sides,x.master,x.masterUp,x.lease,x.places⟩/\Ea ⟨x.now,S,x.sides,x.master,x.masterUp,x.lease,x.places⟩=some (true,()):=by
 have ok2:Ew 1048576 ⟨x.now,S,x.sides,x.master,x.masterUp,x.lease,x.places⟩:=⟨⟨by show S.length<=_;rw[hl];exact ok.1.1,hok⟩,ok.2.1,ok.2.2.1,ok.2.2.2⟩
 refine⟨ok2,?_⟩;rcases TD x ok with ⟨_,h1⟩| ⟨⟨k,hk,h0⟩,_⟩
 ·rcases TD ⟨x.now,S,x.sides,x.master,x.masterUp,x.lease,x.places⟩ ok2 with ⟨_,h2⟩| ⟨⟨k,hk,h0⟩,_⟩
  ·have hv':=hv;unfold Ea at hv' ⊢;rw[h1] at hv';rw[h2];simp only[hl];exact hv'
  ·exact absurd (hS k hk) h0
 ·exact absurd (K1 ok hv k hk) h0
theorem SV.old{m:jY}{s:qj}{k:Int}(h:SV m s k)(hm:NZ 1048576 m)(hv:Eo m=some (true,())):s.config.epoch<=(m.configs.length:Int):=by
 obtain⟨_,f2,f3⟩:=II (Ff hm) hv;rcases h.cfg with h| ⟨_,h⟩
 ·rw[h];show (0:Int)<=_;omega
 ·omega
end
section
theorem Sv{α:Type}{w:α->Int}: ∀ {a b:List α},a.length=b.length->(∀ (j:Nat) (ha:j<a.length) (hb:j<b.length),w a[j] =w b[j])->V7 w a=V7 w b
 | [],[],_,_=>rfl
 |x::a,y::b,h,h2=>by
  have h0:=h2 0 (by simp) (by simp);simp only[List.getElem_cons_zero] at h0
  have ih:=Sv (w:=w) (a:=a) (b:=b) (by simpa using h) λj ha hb=>by have:=h2 (j+1) (by simpa using ha) (by simpa using hb);simpa using this
  unfold V7;rw[h0,ih]
abbrev Ht(s:qj)(e:Int):qj:=⟨s.up,s.intact,s.version,e,s.config,s.first,s.log,s.commit,s.learned⟩
theorem XK{s:qj}{id:Int}(h:ED 1048576 s)(hv:Ed s id=some (true,())):s.config.epoch<=s.epoch:=by
 have hc:=Ee h.1;obtain⟨_,_,_,_,_,_,_,e0,_⟩:=FO h hv;by_cases hz:s.config=⟨0,0,[],[]⟩
 ·rw[hz];exact e0
 ·refine Int.not_lt.1 λhlt=> ?_;unfold Ed at hv;simp only[EF,ao,Eb,Ih s.config hc,CY,if_neg hz,if_pos hlt] at hv;cases h1:Gp s.version 1 2 with
  |false=>rw[h1] at hv;cases hv
  |true=>
  cases h2:Gp s.epoch 0 20 with
  |false=>rw[h1,h2] at hv;cases hv
  |true=>
  rcases isLog s.log (Em h.2.1) with ⟨a1,a2,a3⟩| ⟨a1,a2⟩
  case inr=>simp only[h1,h2,a1,ao,CG,BI] at hv;cases hv
  rcases isLog s.learned (Em h.2.2) with ⟨b1,b2,b3⟩| ⟨b1,b2⟩
  case inr=>simp only[h1,h2,a1,b1,ao,CG,BI] at hv;cases hv
  simp only[h1,h2,a1,b1,ao,CG] at hv;cases h3:Gp s.first 0 16<;>rw[h3] at hv
  ·cases hv
  ·cases h4:Gp (IntKind.wrap .i64 (s.first+(s.log.length:Int))) 0 16<;>rw[h4] at hv
   ·cases hv
   ·cases h5:Gp s.commit 0 (IntKind.wrap .i64 (s.first+(s.log.length:Int)))<;>rw[h5] at hv
    ·cases hv
    ·cases h6:s.intact<;>rw[h6] at hv<;>cases hv
theorem Yy{s:qj}{id:Int}(h:ED 1048576 s)(hv:Ed s id=some (true,())){e:Int}(h1:s.epoch<=e)(h2:e<=20):Ed (Ht s e) id=some (true,()):=by have hle:=XK h hv;obtain⟨_,_,_,_,_,_,_,e0,e20⟩:=FO h hv;have w1:Gp s.epoch 0 20=true:=Ec.2 (by omega);have w2:Gp e 0 20=true:=Ec.2 (by omega);unfold Ed at hv ⊢;simp only[EF,ao,CY,w1,w2,if_neg (show ¬s.epoch<s.config.epoch by omega),if_neg (show ¬e<s.config.epoch by omega)] at hv ⊢;exact hv
theorem aaI{m:jY}{s:qj}{k:Int}(ok:ED 1048576 s)(h:SV m s k){e:Int}(h1:s.epoch<=e)(h2:e<=(m.configs.length:Int))(h3:m.configs.length<=20):SV m (Ht s e) k:=
 ⟨Yy ok h.val h1 (by omega),h2,h.lrn,h.cfg⟩
theorem Vm(s:qj)(e:Int)(h:ED 1048576 s): ∃ep b,F2 s e=some (Ht s ep,b,())/\M3 s e=some (Ht s ep,b,())/\(ep=s.epoch\/(ep=e/\s.epoch<=e)):=by
 unfold F2 M3;simp only[(L5 s h).1,(L5 s h).2,EF,IU,ao,Eb,CY];cases Gp e 1 20 with
 |false=>exact⟨s.epoch,false,rfl,rfl,.inl rfl⟩
 |true=>
  simp only[CG];by_cases h1:e<=s.epoch
  ·by_cases h2:s.epoch<0
   ·simp only[if_pos h1,if_pos h2];exact⟨s.epoch,false,rfl,rfl,.inl rfl⟩
   ·simp only[if_pos h1,if_neg h2];exact⟨s.epoch,false,rfl,rfl,.inl rfl⟩
  ·by_cases h2:s.epoch<0
   ·simp only[if_neg h1,if_pos h2];exact⟨s.epoch,false,rfl,rfl,.inl rfl⟩
   ·simp only[if_neg h1,if_neg h2];exact⟨e,true,rfl,rfl,.inr ⟨rfl,by omega⟩⟩
abbrev K2(x:qg)(S:List qj):qg:=⟨x.now,S,x.sides,x.master,x.masterUp,x.lease,x.places⟩
theorem Uz(x:qg)(ok:Ew 1048576 x)(hv:Ea x=some (true,())){id e:Int}(hid:0<=id/\id<5): ∃S,EO x id e=some (K2 x S,())/\Ia x id e=some (K2 x S,())/\Ew 1048576 (K2 x S)/\Ea (K2 x S)=some (true,())/\Wy x (K2 x S)/\V7 aay S=V7 aay x.servers:=by
 have vc:=El ok hv;have hml:=Sz ok.2.2.1 vc.ml;obtain⟨v,v1,v2⟩:=Fd x ok;rw[hv] at v1;simp only[af,au,and_true] at v1;subst v1;obtain⟨c,d,d1,d2,d3,_⟩:=Wz ok hv;obtain⟨m,m1,m2,m3,m4,m5,_⟩:=Hc c d3;have mm:m.length<=maxLen:=by unfold maxLen;omega
 have same:K2 x x.servers=x:=rfl;unfold EO Ia;simp only[(EG x ok).1,(EG x ok).2,d1,d2,hv,v2,EF,IU,ao,Eb,CG];cases d with
 |false=>exact⟨x.servers,rfl,rfl,ok,hv,Wy.refl x,rfl⟩
 |true=>
  simp only[CG];cases hw:Gp e 1 (x.master.configs.length:Int) with
  |false=>exact⟨x.servers,rfl,rfl,ok,hv,Wy.refl x,rfl⟩
  |true=>
   have hw:=Ec.1 hw
   obtain⟨S,q,k1,k2⟩:=M6 (B1:=EX) (B2:=GA) m.length
    (λk (S:List qj)=>((id,e,(),(),(),(),(k:Int),()),(fx x,(0,(),(),(),0,0,0,0,0,(),()),(x.now,(),(),(),x.master.activated,x.masterUp,x.lease.epoch,x.lease.holder,x.lease.ends,(),()),()),(m,S,x.sides,x.master.configs,x.places,())))
    (λk S=>((id,e,(),(),(),(),(m.length:Int),(k:Int),()),(fx x,(0,(),(),(),0,0,0,0,0,(),()),(x.now,(),(),(),x.master.activated,x.masterUp,x.lease.epoch,x.lease.holder,x.lease.ends,(),()),()),(m,S,x.sides,x.master.configs,x.places,())))
    (λk S=>S.length=x.servers.length/\ ∀ (j:Nat) (s:qj),x.servers[j]? =some s-> ∃ep,S[j]? =some (Ht s ep)/\(ep=s.epoch\/(ep=e/\s.epoch<=e))/\((∀y∈m.drop k,y≠(j:Int))\/ep=s.epoch))
    (λS=>(((),(),()),((0,(),(),(),0,0,0,0,0,(),()),(x.now,(),(),(),x.master.activated,x.masterUp,x.lease.epoch,x.lease.holder,x.lease.ends,(),()),()),(S,x.sides,x.master.configs,x.places,())))
    (λS=>(((),(),()),((0,(),(),(),0,0,0,0,0,(),()),(x.now,(),(),(),x.master.activated,x.masterUp,x.lease.epoch,x.lease.holder,x.lease.ends,(),()),()),(S,x.sides,x.master.configs,x.places,())))
    (λS _=>by simp only[EX,GA,CY];exact⟨if_neg (by omega),if_neg (by omega)⟩)
    (λk S hk hS=>by
      have c1: (k:Int)< (m.length:Int):=by omega
      have c2: (0:Int)<=(k:Int)/\(k:Int)< (m.length:Int):=by omega
      have hz:=m4 _ (DF hk);have hdr:m.drop k=m[k]::m.drop (k+1):=cg hk
      have hnot: ∀y∈m.drop (k+1),y≠m[k] :=by have h2:SS (m.drop k):=List.Pairwise.sublist (List.drop_sublist k m) m5;rw[hdr] at h2;intro y hy;have:=(DN.1 h2).1 y hy;omega
      generalize hzz:m[k] =z at hz hdr hnot;have hg:m[k]? =some z:=by rw[<-hzz];exact aq hk
      obtain⟨s,s1,s2,_⟩:=HI ok vc hz;obtain⟨h1,h2⟩:=KL x ok vc hid hz
      have hSz:S[z.toNat]? =some s:=by
       obtain⟨ep,p1,_,p3⟩:=hS.2 _ s s1;rcases p3 with p3|rfl
       ·exact absurd (by omega:z=(z.toNat:Int)) (p3 z (by rw[hdr];exact aK))
       ·exact p1
      have hlt:z.toNat<S.length:=C5 hSz;have c3:0<=z/\z< (S.length:Int):=by omega
      obtain⟨ep,b,q1,q2,q3⟩:=Vm s e s2
      have hkeep:S.length=x.servers.length/\ ∀ (j:Nat) (s:qj),x.servers[j]? =some s-> ∃ep,S[j]? =some (Ht s ep)/\(ep=s.epoch\/(ep=e/\s.epoch<=e))/\((∀y∈m.drop (k+1),y≠(j:Int))\/ep=s.epoch):=by refine⟨hS.1,λj t ht=> ?_⟩;obtain⟨ep,p1,p2,p3⟩:=hS.2 j t ht;exact⟨ep,p1,p2,p3.imp (λh y hy=>h y (by rw[hdr];exact aI _ hy)) (λh=>h)⟩
      simp only[EX,GA,fx,CY,BX,if_pos c1,if_pos c2,DC,hg,ao,if_pos hz.1,if_pos c3,s1,hSz,h1,h2,aP,ay,if_true,cE,DK,q1,q2,BG mm hk];cases s.up with
      |false=>exact⟨S,rfl,rfl,hkeep⟩
      |true=>
       cases (G3 x id==G3 x z) with
       |false=>exact⟨S,rfl,rfl,hkeep⟩
       |true=>
        refine⟨S.set z.toNat (Ht s ep),rfl,rfl,by simp[hS.1],λj t ht=> ?_⟩;by_cases hj:j=z.toNat
        ·subst hj;rw[s1] at ht;have ht:=Option.some.inj ht;subst ht;refine⟨ep,by rw[DG hlt],q3,.inl λy hy h=>hnot y hy (by omega)⟩
        ·obtain⟨ep',p1,p2,p3⟩:=hkeep.2 j t ht;exact⟨ep',by rw[DJ (λh=>hj h.symm)];exact p1,p2,p3⟩)
    x.servers ⟨rfl,λj s h=>⟨s.epoch,h,.inl rfl,.inr rfl⟩⟩
   simp only[CG,m1,m2,ao]
   rw[show KQ ((id,e,(),(),(),(),0,()),(fx x,(0,(),(),(),0,0,0,0,0,(),()),(x.now,(),(),(),x.master.activated,x.masterUp,x.lease.epoch,x.lease.holder,x.lease.ends,(),()),()),(m,x.servers,x.sides,x.master.configs,x.places,()))=_ from k1,
    show KP ((id,e,(),(),(),(),(m.length:Int),0,()),(fx x,(0,(),(),(),0,0,0,0,0,(),()),(x.now,(),(),(),x.master.activated,x.masterUp,x.lease.epoch,x.lease.holder,x.lease.ends,(),()),()),(m,x.servers,x.sides,x.master.configs,x.places,()))=_ from k2]
   have at_: ∀j (hj:j<S.length),∃s,x.servers[j]? =some s/\ ∃ep,S[j] =Ht s ep/\(ep=s.epoch\/(ep=e/\s.epoch<=e)):=by
    intro j hj;have hj':j<x.servers.length:=by rw[<-q.1];exact hj
    obtain⟨ep,p1,p2,_⟩:=q.2 j _ (aq hj');rw[aq hj] at p1;exact⟨_,aq hj',ep,Option.some.inj p1,p2⟩
   have sv:=K1 ok hv
   have fin:=PS ok hv S q.1 (λs hs=>by
     obtain⟨j,hj,rfl⟩:=aU hs;obtain⟨t,t1,ep,t2,_⟩:=at_ j hj;rw[t2];exact ok.1.2 t (aA t1))
    (λj hj=>by obtain⟨t,t1,ep,t2,t3⟩:=at_ j hj;have hj':j<x.servers.length:=C5 t1;have svj:=sv j hj';rw[aq hj'] at t1;rw[Option.some.inj t1] at svj;have okt:=ok.1.2 x.servers[j] (DF hj');rw[Option.some.inj t1] at okt;rw[t2];have:=svj.ep;exact aaI okt svj (by omega) (by omega) hml)
   refine⟨S,rfl,rfl,fin.1,fin.2,⟨rfl,rfl,λj s h=>by obtain⟨ep,p1,_⟩:=q.2 j s h;exact⟨ep,p1⟩⟩,Sv q.1 λj ha hb=> ?_⟩
   obtain⟨t,t1,ep,t2,_⟩:=at_ j ha;rw[aq hb] at t1;rw[t2,<-Option.some.inj t1];rfl
end
section

end
section
theorem MY.filter{l:List Int}(h:MY l)(p:Int->Bool):MY (l.filter p):=by refine SH (h.pair.filter p) λy hy=> ?_;obtain⟨k,hk,rfl⟩:=aU (D0.1 hy).1;have:=(h k hk).1;omega
theorem Vr:MY [0,1,2,3,4] :=by refine SH (by simp[SS]) λy hy=> ?_;simp at hy;omega
end
section
theorem UO(l:uK)(e h n t:Int): ∃r b,HP l e h n t=some (r,b,())/\OY l e h n t=some (r,b,()):=by obtain⟨b,h1,h2⟩:=L6 l;obtain⟨q,q1,q2⟩:=ND l n;unfold HP OY;simp only[h1,h2,q1,q2,EF,IU,ao];cases (l.epoch==e)<;>cases b<;>cases Gp e 1 20<;>cases Gp h 0 4<;>cases Gp n 0 999<;>cases Gp t 1 50<;>cases (l.holder==h)<;>cases q<;>exact⟨_,_,rfl,rfl⟩
end
section
theorem Wu(m:nn)(c:Int)(hs:m.sessions.length<=1000): ∃s b,GL m c=some (s,b,())/\PT m c=some (s,b,())/\(b=true-> ∃x∈m.sessions,x.client=c):=by
 have ms:m.sessions.length<=maxLen:=by unfold maxLen;omega
 have fA:=CN (B1:=FP) (B2:=Kb) m.sessions.length (λk=>((c,(),(),(k:Int),()),((m.objects,m.sessions,()),(0,0,false,0,()),()),())) (λk=>((c,(),m.sessions,(m.sessions.length:Int),(k:Int),()),((0,0,false,0,()),()),())) (.inr (((),(),()),((0,0,false,0,()),()),())) (.inr (((),(),()),((0,0,false,0,()),()),()))
  (λk=>match m.sessions[k]? with |some x=> .inl (((),true,()),((x.client,x.seq,x.result.done,x.result.value,()),()),())|none=> .inr (((),(),()),((0,0,false,0,()),()),())) (λk=>match m.sessions[k]? with |some x=> .inl (((),true,()),((x.client,x.seq,x.result.done,x.result.value,()),()),())|none=> .inr (((),(),()),((0,0,false,0,()),()),()))
  (λ_=>True) (λk=> ∃h:k<m.sessions.length,m.sessions[k].client=c)
  (by simp only[FP];rw[CY,if_neg (by omega)])
  (by simp only[Kb];rw[CY,if_neg (by omega)])
  (λk hk=>by
    have c1: (k:Int)< (m.sessions.length:Int):=by omega
    have c2: (0:Int)<=(k:Int):=by omega
    simp only[FP,Kb,CY,G2,BX,if_pos c1,if_pos c2,DC,aq hk,ao,BG ms hk];by_cases h:m.sessions[k].client=c
    ·simp only[if_pos h];exact .inr ⟨trivial,trivial,hk,h⟩
    ·simp only[if_neg h];exact .inl ⟨trivial,trivial,trivial⟩)
 unfold GL PT;rcases fA with ⟨k1,k2,_⟩| ⟨k,hk,k1,k2,_,h⟩
 ·rw[show Ko ((c,(),(),0,()),((m.objects,m.sessions,()),(0,0,false,0,()),()),())=_ from k1,show Mi ((c,(),m.sessions,(m.sessions.length:Int),0,()),((0,0,false,0,()),()),())=_ from k2];exact⟨_,false,rfl,rfl,λh=>by cases h⟩
 ·rw[aq hk] at k1 k2;rw[show Ko ((c,(),(),0,()),((m.objects,m.sessions,()),(0,0,false,0,()),()),())=_ from k1,show Mi ((c,(),m.sessions,(m.sessions.length:Int),0,()),((0,0,false,0,()),()),())=_ from k2];exact⟨_,true,rfl,rfl,λ_=>⟨_,DF hk,h⟩⟩
def LZ:List nq->Int->Nat
 | [],_=>0
 |x::l,c=>if x.client<c then LZ l c+1 else 0
theorem Xv{x:nq}{l:List nq}{c:Int}(h:x.client<c):LZ (x::l) c=LZ l c+1:=by rw[LZ,if_pos h]
theorem Xu{x:nq}{l:List nq}{c:Int}(h: ¬x.client<c):LZ (x::l) c=0:=by rw[LZ,if_neg h]
theorem Yj(l:List nq)(c:Int):LZ l c<=l.length:=by
 induction l with
 |nil=>exact ay _
 |cons x l ih=>
  unfold LZ;split
  ·simp only[bD];omega
  ·exact bM _
theorem Yk{l:List nq}{c:Int}(h: ∃x∈l,x.client=c):LZ l c<l.length:=by
 induction l with
 |nil=>obtain⟨x,hx,_⟩:=h;cases hx
 |cons y l ih=>
  unfold LZ;split
  ·rename_i hy;obtain⟨x,hx,hc⟩:=h;rcases aZ.1 hx with rfl|hx
   ·omega
   ·have:=ih ⟨x,hx,hc⟩;simp only[bD];omega
  ·simp
theorem aaH(b d:Bool)(v:Int)(o:Op)(objs:List Int)(l:List nq)(hl:l.length<=1000):Lf (((),(),(),(),b,(),0,()),((o.client,o.seq,o.kind,o.object,o.old,o.value,()),((),(),()),(false,0,()),((),(),()),(d,v,()),()),objs,l,())=
  some (((),(),(),(),b,(),((LZ l o.client:Nat):Int),()),((o.client,o.seq,o.kind,o.object,o.old,o.value,()),((),(),()),(false,0,()),((),(),()),(d,v,()),()),objs,l,()):=by
 have ml:l.length<=maxLen:=by unfold maxLen;omega
 have fA:=B4 (B:=Iy) l (λk (_:Unit)=>(((),(),(),(),b,(),(k:Int),()),((o.client,o.seq,o.kind,o.object,o.old,o.value,()),((),(),()),(false,0,()),((),(),()),(d,v,()),()),objs,l,())) (λ_ _=>True)
  (λk r _=>(((),(),(),(),b,(),((k+LZ r o.client:Nat):Int),()),((o.client,o.seq,o.kind,o.object,o.old,o.value,()),((),(),()),(false,0,()),((),(),()),(d,v,()),()),objs,l,()))
  (λ_ _=>by simp only[Iy];rw[CY,if_neg (by omega)];rfl)
  (λk _ x hx _=>by
    have hk:=C5 hx;have c1: (k:Int)< (l.length:Int):=by omega
    have c2: (0:Int)<=(k:Int)/\(k:Int)< (l.length:Int):=by omega
    simp only[Iy,CY,BX,if_pos c1,if_pos c2,DC,hx,ao,BG ml hk];by_cases h:x.client<o.client
    ·rw[if_pos h];refine .inl ⟨(),rfl,trivial,?_⟩;rw[LZ,if_pos h,show k+(LZ (l.drop (k+1)) o.client+1)=k+1+LZ (l.drop (k+1)) o.client by omega]
    ·rw[if_neg h];refine .inr ?_;rw[LZ,if_neg h];rfl) 0 () (bM _) trivial
 simp only[aP,cE] at fA;exact fA
def Tp(had:Bool)(l:List nq)(s:nq):List nq:=l.take (LZ l s.client)++s::l.drop (bif had then LZ l s.client+1 else LZ l s.client)
theorem VL{o:Op}(h:EH o=some (true,())):0<=o.object/\o.object<=2:=by
 unfold EH at h;simp only[EF,ao] at h;cases h1:Gp o.client 0 2 with
 |false=>rw[h1] at h;cases h
 |true=>
  cases h2:Gp o.seq 1 99 with
  |false=>rw[h1,h2] at h;cases h
  |true=>
   cases h3:Gp o.object 0 2 with
   |false=>rw[h1,h2,h3] at h;cases h
   |true=>exact Ec.1 h3
def App(m:nn)(o:Op)(m':nn):Prop:=m'=m\/ ∃had s x d,GL m o.client=some (s,had,())/\x∈m.objects/\m'.sessions=Tp had m.sessions ⟨o.client,o.seq,⟨d,x⟩⟩/\(m'.objects=m.objects\/m'.objects=m.objects.set o.object.toNat o.value)
def XU(o:Op):Bool:=match EH o with |some (b,_)=>b|none=>false
theorem Mv(o:Op):EH o=some (XU o,()):=by obtain⟨b,h,_⟩:=VS o;unfold XU;rw[h]
def Q7(l:List rj)(k:Nat):Bool:=match l[k]? with
 |some e=>Gp e.epoch 1 20&&(XU e.op&&(decide (k=0)||match l[k-1]? with |some d=> !decide (d.epoch>e.epoch)|none=>false))
 |none=>false
theorem Wj{l:List rj}{n k:Nat}(hk:k<n):Q7 (l.take n) k=Q7 l k:=by unfold Q7;rw[bk,if_pos hk,bk,if_pos (by omega)]
theorem IT(l:List rj)(hl:l.length<=maxLen):EL l=some (true,())↔l.length<=16/\ ∀k,k<l.length->Q7 l k=true:=by
 have fA:=JI (B:=Iz) l.length (λk=>((l,(k:Int),()),(),())) (.inr ((l,(),()),(),())) (λ_=> .inl ((l,false,()),(),())) (λk=> !Q7 l k)
  (by simp only[Iz];rw[CY,if_neg (by omega)])
  (λk hk=>by
    have c1: (k:Int)< (l.length:Int):=by omega
    have c2: (0:Int)<=(k:Int):=by omega
    simp only[Iz,CY,BX,if_pos c1,if_pos c2,DC,aq hk,ao,Mv,EF,BG hl hk,Eb,Q7];cases Gp l[k].epoch 1 20 with
    |false=>rfl
    |true=>
     cases XU l[k].op with
     |false=>rfl
     |true=>
      by_cases h0:0<k
      ·have c3: (k:Int)>0:=by omega
       have c4: (0:Int)<=((k-1:Nat):Int):=by omega
       have c5: ¬k=0:=by omega
       have e2:l[k-1]? =some l[k-1] :=aq (by omega);simp only[CG,if_pos c3,BF h0 (by omega),if_pos c4,DC,e2,ao,decide_eq_false c5,dz,b7,Bool.not_not];by_cases hlt:l[k-1].epoch>l[k].epoch
       ·rw[if_pos hlt,decide_eq_true hlt];rfl
       ·rw[if_neg hlt,decide_eq_false hlt];rfl
      ·have c3: ¬ (k:Int)>0:=by omega
       have c5:k=0:=by omega
       simp only[CG,if_neg c3,decide_eq_true c5];rfl)
 unfold EL;rcases fA with ⟨k1,k2⟩| ⟨k,h0,k1,k2,_⟩
 ·rw[show MI ((l,0,()),(),())=_ from k1];simp only[ao,DX,af,au,and_true,decide_eq_true_eq];constructor
  ·intro h;exact⟨by omega,λk hk=>by simpa using k2 k hk⟩
  ·intro h;omega
 ·rw[show MI ((l,0,()),(),())=_ from k1];simp only[ao,DV,af,au,and_true];constructor
  ·intro h;cases h
  ·rintro⟨_,h⟩
   have:=h k h0;rw[this] at k2;cases k2
theorem QJ{l:List rj}(hl:l.length<=maxLen)(h:EL l=some (true,()))(n:Nat):EL (l.take n)=some (true,()):=by
 have hn: (l.take n).length<=l.length:=by rw[cP];omega
 obtain⟨h1,h2⟩:=(IT l hl).1 h;refine (IT _ (by omega)).2 ⟨by omega,λk hk=> ?_⟩;rw[Wj (by rw[cP] at hk;omega)];exact h2 k (by omega)
structure VM (m:nn):Prop where
 vlen:m.objects.length=3
 vobj: ∀v∈m.objects,Gp v 0 9=true
 vses: ∀x∈m.sessions,Gp x.client 0 2=true/\Gp x.seq 1 99=true/\Gp x.result.value 0 9=true
 vasc:m.sessions.Pairwise λx y=>x.client<y.client
theorem VM.valid{m:nn}(h:VM m)(hs:m.sessions.length<=1000):FN m=some (true,()):=by
 have mo:m.objects.length<=maxLen:=by rw[h.vlen];unfold maxLen;omega
 have ms:m.sessions.length<=maxLen:=by unfold maxLen;omega
 have k1:=JI (B:=FH) m.objects.length (λk=>(((),(k:Int),()),((m.objects,m.sessions,()),()),())) (.inr (((),(),()),((m.objects,m.sessions,()),()),())) (λ_=> .inl (((),false,()),((m.objects,m.sessions,()),()),())) (λ_=>false)
  (by simp only[FH];rw[CY,if_neg (by omega)])
  (λk hk=>by
    have c1: (k:Int)< (m.objects.length:Int):=by omega
    have c2: (0:Int)<=(k:Int):=by omega
    simp only[FH,CY,BX,if_pos c1,if_pos c2,DC,aq hk,ao,EF,h.vobj _ (DF hk),BG mo hk];rfl)
 have k2:=JI (B:=FI) m.sessions.length (λk=>(((),(k:Int),()),((m.objects,m.sessions,()),()),())) (.inr (((),(),()),((m.objects,m.sessions,()),()),())) (λ_=> .inl (((),false,()),((m.objects,m.sessions,()),()),())) (λ_=>false)
  (by simp only[FI];rw[CY,if_neg (by omega)])
  (λk hk=>by
    have c1: (k:Int)< (m.sessions.length:Int):=by omega
    have c2: (0:Int)<=(k:Int):=by omega
    obtain⟨h1,h2,h3⟩:=h.vses _ (DF hk);simp only[FI,CY,BX,if_pos c1,if_pos c2,DC,aq hk,ao,EF,h1,h2,h3,df,BI,BG ms hk];by_cases h0:0<k
    ·have c3: (k:Int)>0:=by omega
     have c4: (0:Int)<=((k-1:Nat):Int):=by omega
     have e1:m.sessions[k-1]? =some (m.sessions[k-1]'(by omega)):=aq (by omega);have:=DL.1 h.vasc (k-1) k (by omega) hk (by omega);have c5: ¬ (m.sessions[k-1]'(by omega)).client≥m.sessions[k].client:=by omega
     simp only[if_pos c3,BF h0 (by unfold maxLen at ms ⊢;omega),if_pos c4,DC,e1,ao,if_neg c5];rfl
    ·have c3: ¬ (k:Int)>0:=by omega
     simp only[if_neg c3];rfl)
 unfold FN;rcases k1 with ⟨g1,_⟩| ⟨k,_,_,hf,_⟩
 ·rcases k2 with ⟨g2,_⟩| ⟨k,_,_,hf,_⟩
  ·rw[show LG (((),0,()),((m.objects,m.sessions,()),()),())=_ from g1];simp only[ao,DX,show Jd (((),0,()),((m.objects,m.sessions,()),()),())=_ from g2,h.vlen];rfl
  ·cases hf
 ·cases hf
theorem Vn{m:nn}{c:Int}{s:nq}{b:Bool}(hs:m.sessions.length<=1000)(h:GL m c=some (s,b,()))(hb:b=false): ∀x∈m.sessions,x.client≠c:=by
 have ms:m.sessions.length<=maxLen:=by unfold maxLen;omega
 have fA:=JI (B:=FP) m.sessions.length (λk=>((c,(),(),(k:Int),()),((m.objects,m.sessions,()),(0,0,false,0,()),()),())) (.inr (((),(),()),((0,0,false,0,()),()),()))
  (λk=>match m.sessions[k]? with |some x=> .inl (((),true,()),((x.client,x.seq,x.result.done,x.result.value,()),()),())|none=> .inr (((),(),()),((0,0,false,0,()),()),())) (λk=>match m.sessions[k]? with |some x=>x.client==c|none=>false)
  (by simp only[FP];rw[CY,if_neg (by omega)])
  (λk hk=>by
    have c1: (k:Int)< (m.sessions.length:Int):=by omega
    have c2: (0:Int)<=(k:Int):=by omega
    simp only[FP,CY,BX,if_pos c1,if_pos c2,DC,aq hk,ao,BG ms hk];cases (m.sessions[k].client==c)<;>rfl)
 unfold GL at h;rcases fA with ⟨_,k2⟩| ⟨k,hk,k1,_,_⟩
 ·intro x hx e;obtain⟨k,hk,rfl⟩:=aU hx
  have h3: (m.sessions[k].client==c)=false:=by
   have:=k2 k hk
   rwa [aq hk] at this
  rw[e] at h3;simp at h3
 ·rw[aq hk] at k1;rw[show Ko ((c,(),(),0,()),((m.objects,m.sessions,()),(0,0,false,0,()),()),())=_ from k1] at h;simp only[ao,DV,af,au] at h;rw[<-h.2.1] at hb;cases hb
theorem Ut{had:Bool}{l:List nq}{s y:nq}(h:y∈Tp had l s):y=s\/y∈l:=by
 unfold Tp at h;rcases bC.1 h with h|h
 ·exact .inr (bS h)
 ·rcases aZ.1 h with h|h
  ·exact .inl h
  ·exact .inr (bE h)
theorem Us(had:Bool)(s:nq): ∀l:List nq,l.Pairwise (λx y=>x.client<y.client)->(had=true-> ∃x∈l,x.client=s.client)->(had=false-> ∀x∈l,x.client≠s.client)->(Tp had l s).Pairwise λx y=>x.client<y.client
 | [],_,h1,_=>by
   cases had with
   |true=>obtain⟨x,hx,_⟩:=h1 rfl;cases hx
   |false=>exact DZ _ _
 |x::l,h,h1,h2=>by
  obtain⟨hx,hl⟩:=DN.1 h;by_cases hc:x.client<s.client
  ·have e:Tp had (x::l) s=x::Tp had l s:=by
    unfold Tp;rw[Xv hc];cases had<;>rfl
   rw[e];refine DN.2 ⟨λy hy=> ?_,Us had s l hl (λhh=> ?_) (λhh y hy=>h2 hh y (aI _ hy))⟩
   ·rcases Ut hy with rfl|hy
    ·exact hc
    ·exact hx y hy
   ·obtain⟨y,hy,e⟩:=h1 hh;rcases aZ.1 hy with rfl|hy
    ·omega
    ·exact⟨y,hy,e⟩
  ·have e:Tp had (x::l) s=s:: (x::l).drop (bif had then 1 else 0):=by
    unfold Tp;rw[Xu hc];cases had<;>rfl
   rw[e];cases had with
   |true=>
    refine DN.2 ⟨λy hy=> ?_,hl⟩;have:=hx y hy;obtain⟨z,hz,e⟩:=h1 rfl;rcases aZ.1 hz with rfl|hz
    ·omega
    ·have:=hx z hz;omega
   |false=>
    refine DN.2 ⟨λy hy=> ?_,h⟩;have h0:=h2 rfl;rcases aZ.1 hy with rfl|hy
    ·have:=h0 y aK;omega
    ·have:=hx y hy;have:=h0 x aK;omega
theorem Xr{o:Op}(h:XU o=true):Gp o.client 0 2=true/\Gp o.seq 1 99=true/\Gp o.value 0 9=true:=by
 have h0:EH o=some (true,()):=by rw[Mv,h]
 unfold EH at h0;simp only[EF,ao] at h0;cases h1:Gp o.client 0 2 with
 |false=>rw[h1] at h0;cases h0
 |true=>
  cases h2:Gp o.seq 1 99 with
  |false=>rw[h1,h2] at h0;cases h0
  |true=>
   cases h3:Gp o.object 0 2 with
   |false=>rw[h1,h2,h3] at h0;cases h0
   |true=>
    cases h4:Gp o.value 0 9 with
    |false=>rw[h1,h2,h3,h4] at h0;cases h0
    |true=>exact⟨rfl,rfl,rfl⟩
theorem VM.app{m m':nn}{o:Op}(h:VM m)(hs:m.sessions.length<=900)(ho:XU o=true)(ha:App m o m'):VM m':=by
 rcases ha with rfl| ⟨had,s,x,d,h1,h2,h3,h4⟩
 ·exact h
 ·obtain⟨w1,w2,w3⟩:=Xr ho;obtain⟨s',b',t1,_,t3⟩:=Wu m o.client (by omega);rw[h1] at t1
  have hb:had=b':=by have:=Option.some.inj t1;simp only[au] at this;exact this.2.1
  refine⟨?_,λv hv=> ?_,λy hy=> ?_,?_⟩
  ·rcases h4 with e|e
   ·rw[e];exact h.vlen
   ·rw[e,DI];exact h.vlen
  ·rcases h4 with e|e
   ·rw[e] at hv;exact h.vobj v hv
   ·rw[e] at hv;rcases cX hv with hv|rfl
    ·exact h.vobj v hv
    ·exact w3
  ·rw[h3] at hy;rcases Ut hy with rfl|hy
   ·exact⟨w1,w2,h.vobj x h2⟩
   ·exact h.vses y hy
  ·rw[h3];exact Us had _ _ h.vasc (λhh=>t3 (hb ▸ hh)) (λhh=>Vn (by omega) h1 hh)
end
section
theorem J9(x:qg)(ok:Ew 1048576 x)(id:Int): ∃b,Gn x id=some (b,())/\Kk x id=some (b,())/\(b=true->Ea x=some (true,())/\0<=id/\id<5/\ ∀s,x.servers[id.toNat]? =some s->Er s id=some (true,())):=by
 obtain⟨v,v1,v2⟩:=Fd x ok;cases v with
 |false=>
  refine⟨false,?_,?_,nofun⟩
  ·unfold Gn;simp only[v1,ao,BI]
  ·unfold Kk EU;simp only[v2,ao,BI]
 |true=>
  cases hw:Gp id 0 4 with
  |false=>
   refine⟨false,?_,?_,nofun⟩
   ·unfold Gn;simp only[v1,EF,hw,ao,CG,BI]
   ·unfold Kk EU;simp only[v2,IU,hw,ao,CG,BI]
  |true=>
   have hid:=Ec.1 hw;obtain⟨s,s1,s2,s3⟩:=HI ok (El ok v1) (a:=id) (by omega);obtain⟨b,b1,b2⟩:=L0 s id s2;refine⟨b,?_,?_,λhb=>⟨v1,hid.1,by omega,λs' hs=> ?_⟩⟩
   ·unfold Gn;simp only[v1,EF,hw,ao,CG,BX,if_pos hid.1,s1,b1]
   ·unfold Kk EU;simp only[v2,IU,hw,ao,CG,BX,if_pos hid.1,s1,b2]
   ·rw[s1] at hs;obtain rfl:=Option.some.inj hs;rw[b1,hb]
theorem aas{c:nE}{id:Int}(h:Gc maxLen c)(hr:EJ c id=some (1,())):Eg c=some (true,())/\id=c.primary:=by
 obtain⟨v,v1,v2⟩:=Gu c h;unfold EJ at hr;simp only[v1,ao,(Ey c.replicas id h.1).1,(Ey c.witnesses id h.2).1,Eb,G2] at hr;cases v with
 |false=>simp only[BI] at hr;simp at hr
 |true=>
  refine⟨v1,?_⟩;by_cases he:id=c.primary
  ·exact he
  ·simp only[CG,if_neg he] at hr;cases h1:decide (id∈c.replicas)<;>cases h2:decide (id∈c.witnesses)<;>rw[h1,h2] at hr<;>simp[CG,BI] at hr
theorem Hk{s:qj}{id:Int}(ok:ED 1048576 s)(h:Er s id=some (true,())):Eg s.config=some (true,())/\id=s.config.primary:=by
 obtain⟨v,v1,v2⟩:=Jp s id ok;obtain⟨n,n1,n2,_⟩:=KU s.config id (Ee ok.1);unfold Er at h;simp only[v1,n1,ao,G2] at h;cases v with
 |false=>simp[BI] at h
 |true=>
  cases hu:s.up with
  |false=>rw[hu] at h;simp[CG,BI] at h
  |true=>
   rw[hu] at h;simp only[CG] at h;by_cases hn:n=1
   ·subst hn;exact aas (Ee ok.1) n1
   ·rw[if_neg hn] at h;simp at h
theorem Nd(c:nE)(y:Int)(h:Gc maxLen c)(hv:Eg c=some (true,())): ∃n,EJ c y=some (n,())/\Ks c y=some (n,())/\(n=0↔ ¬ (y∈c.replicas\/y∈c.witnesses))/\(n=3->y≠c.primary):=by
 obtain⟨v,v1,v2⟩:=Gu c h;rw[hv] at v1;simp only[af,au,and_true] at v1;subst v1;have hp:=(Fc h hv).2.2.1;unfold EJ Ks;simp only[hv,v2,ao,(Ey c.replicas y h.1).1,(Ey c.replicas y h.1).2,(Ey c.witnesses y h.2).1,(Ey c.witnesses y h.2).2,Eb,G2,CG,CY];by_cases he:y=c.primary
 ·simp only[if_pos he];exact⟨1,rfl,rfl,⟨λh=>(by cases h),λh=>absurd (.inl (he ▸ hp)) h⟩,λh=>(by cases h)⟩
 ·simp only[if_neg he];by_cases h1:y∈c.replicas
  ·simp only[if_pos h1];exact⟨2,rfl,rfl,⟨λh=>(by cases h),λh=>absurd (.inl h1) h⟩,λh=>(by cases h)⟩
  ·simp only[if_neg h1];by_cases h2:y∈c.witnesses
   ·simp only[if_pos h2];exact⟨3,rfl,rfl,⟨λh=>(by cases h),λh=>absurd (.inr h2) h⟩,λ_=>he⟩
   ·simp only[if_neg h2];exact⟨0,rfl,rfl,⟨λ_ h=>h.elim h1 h2,λ_=>rfl⟩,λh=>(by cases h)⟩
theorem RD(l:List rj)(hl:l.length<=1048576)(hv:EL l=some (true,())):Nu l=some (((cutAt l:Nat):Int),l.drop (cutAt l),()):=by
 unfold Nu N5;have hc:cutAt l<=l.length:=by unfold cutAt;omega
 have c1: (0:Int)<=((cutAt l:Nat):Int)/\((cutAt l:Nat):Int)<=(l.length:Int)/\(l.length:Int)<=(l.length:Int):=by omega
 have ht: ((l.drop (cutAt l)).take (l.length-cutAt l))=l.drop (cutAt l):=bW (by simp);simp only[hv,ao,df,BI,UI l hl,BX,if_pos c1,DC,ht,(Ki (l.drop (cutAt l)) (by simp;omega)).1]
end
section
def Tt{α:Type}(Q:α->Prop)(r:Option α):Prop:=∃a,r=some a/\Q a
section
variable {α β σ ε:Type} {Q:α->Prop} {Q':β->Prop}
theorem Tt.ret{a:α}(h:Q a):Tt Q (some a):=⟨a,rfl,h⟩
theorem Tt.bind{r:Option α}{k:α->Option β}(h:Tt Q r)(hk: ∀a,Q a->Tt Q' (k a)):Tt Q' (r.bind k):=by obtain⟨a,rfl,h⟩:=h;exact hk a h
theorem Tt.mono{Q2:α->Prop}{r:Option α}(h:Tt Q r)(hq: ∀a,Q a->Q2 a):Tt Q2 r:=h.imp λ_ h=>⟨h.1,hq _ h.2⟩
theorem Tt.ip{p:Prop}{d:Decidable p}{x y:Option α}(hp:p)(h:Tt Q x):Tt Q (@iteP _ p d x y):=by rw[B0 hp];exact h
theorem Tt.br{b:Bool}{x y:Option α}(h1:b=true->Tt Q x)(h2:b=false->Tt Q y):Tt Q (br b x y):=by
 cases b with
 |true=>exact h1 rfl
 |false=>exact h2 rfl
theorem Tt.get{γ:Type}{l:List γ}{i:Nat}{k:γ->Option α}(hi:i<l.length)(h: ∀x,l[i]? =some x->x∈l->Tt Q (k x)):Tt Q ((l[i]?).bind k):=by rw[aq hi];exact h _ (aq hi) (DF hi)
theorem Tt.loop{B:σ->Option (σ⊕ε)}{E:ε->Prop}(I:σ->Prop)(μ:σ->Nat)(h: ∀s,I s->Tt (Sum.elim (λs'=>I s'/\μ s'<μ s) E) (B s)){s:σ}(hs:I s):Tt E (nw B s):=
 CM I μ E (λs hs=>by
  obtain⟨r,h1,h2⟩:=h s hs;cases r with
  |inl s'=>exact .inl ⟨s',h1,h2.1,h2.2⟩
  |inr e=>exact .inr ⟨e,h1,h2⟩) hs
theorem Tt.go{p:Prop}[Decidable p]{x y:Option α}(hp:p)(h:Tt Q x):Tt Q (Go.Proofs.YtkghndikalnipacGreat.En.br (decide p) x y):=by rw[CY,if_pos hp];exact h
theorem Tt.end{p:Prop}[Decidable p]{x y:Option α}(hp: ¬p)(h:Tt Q y):Tt Q (Go.Proofs.YtkghndikalnipacGreat.En.br (decide p) x y):=by rw[CY,if_neg hp];exact h
theorem Tt.count{B:σ->Option (σ⊕ε)}{E:ε->Prop}(n:Nat)(m:Nat->β->σ)(J:Nat->β->Prop)(h0: ∀b,J n b->Tt (Sum.elim (λ_=>False) E) (B (m n b)))
  (h1: ∀k b,k<n->J k b->Tt (Sum.elim (λs=> ∃b',s=m (k+1) b'/\J (k+1) b') E) (B (m k b))) (b:β) (hb:J 0 b):Tt E (nw B (m 0 b)):=by
 have go: ∀ (d k:Nat) (b:β),k+d=n->J k b->Tt E (nw B (m k b)):=by
  intro d
  induction d with
  |zero=>
   intro k b hk hb;obtain rfl:k=n:=hk;obtain⟨r,e1,e2⟩:=h0 b hb;cases r with
   |inl s=>exact e2.elim
   |inr e=>exact⟨e,by rw[jN,e1];rfl,e2⟩
  |succ d ih=>
   intro k b hk hb;obtain⟨r,e1,e2⟩:=h1 k b (by omega) hb;cases r with
   |inl s=>obtain⟨b',rfl,hb'⟩:=e2;rw[jN,e1];exact ih (k+1) b' (by omega) hb'
   |inr e=>exact⟨e,by rw[jN,e1];rfl,e2⟩
 exact go n 0 b (aP n) hb
end
abbrev T1{α:Type}(_:α):Prop:=True
theorem Ka{l:List Int}(ha:MY l): ∀y∈l,0<=y/\y<5:=by intro y hy;obtain⟨k,hk,rfl⟩:=aU hy;have:=(ha k hk).1;omega
theorem LM(c:nE)(h:Gc maxLen c):Tt (λy=>y.1.length<=10/\ ∀z∈y.1,0<=z/\z<5) (EI c):=by obtain⟨v,v1,_⟩:=Gu c h;unfold EI;rw[v1,ao,Eb];refine .br (λe=> ?_) λ_=> .ret ⟨bM _,nofun⟩;subst e;obtain⟨a1,a2,_⟩:=Fc h v1;have l1:=a1.len;have l2:=a2.len;obtain⟨r,r1,_,r4,r5⟩:=XD c.replicas c.witnesses (by omega) (by omega);rw[r1];exact .ret ⟨by show r.length<=10;omega,λz hz=>((r4 z).1 hz).elim (Ka a1 z) (Ka a2 z)⟩
theorem RF{x:qg}(ok:Ew 1048576 x)(vc:VC x)(a b:Int):Tt T1 (EK x.sides a b):=by have h5:=JQ (Em ok.2.1) vc.sides;unfold EK;simp only[vc.sides,EF,ao,CG];refine .br (λha=> .br (λhb=> ?_) λ_=> .ret trivial) λ_=> .ret trivial;have ha:=Ec.1 ha;have hb:=Ec.1 hb;exact .ip ha.1 (.get (by omega) λ_ _ _=> .ip hb.1 (.get (by omega) λ_ _ _=> .ret trivial))
theorem Tt.srv{α:Type}{Q:α->Prop}{x:qg}(ok:Ew 1048576 x)(vc:VC x){a:Int}(ha:0<=a/\a<5){k:qj->Option α}(h: ∀s,x.servers[a.toNat]? =some s->ED 1048576 s->Ed s a=some (true,())->Tt Q (k s)):Tt Q (iteP (0<=a) ((x.servers[a.toNat]?).bind k) none):=by obtain⟨s,s1,s2,s3⟩:=HI ok vc ha;refine .ip ha.1 ?_;rw[s1];exact h s s1 s2 s3
theorem WM{x:qg}(ok:Ew 1048576 x)(vc:VC x){a b:Int}(ha:0<=a/\a<5)(hb:0<=b/\b<5):Tt T1 (FK x a b):=by unfold FK;refine .srv ok vc hb λm m1 m2 _=> .bind (RF ok vc a b) λ_ _=> .br (λ_=> .br (λ_=> .srv ok vc ha λp p1 p2 _=> .br (λ_=> .srv ok vc ha λ_ _ _ _=> .br (λ_=> .srv ok vc ha λq _ _ _=> ?_) λ_=> .ret trivial) λ_=> .ret trivial) λ_=> .ret trivial) λ_=> .ret trivial;rw[(FV m.config q.config (Ee m2.1)).1];exact .ret trivial
theorem Nw{l:List rj}(h:l.length<=maxLen): ∃b,EL l=some (b,())/\(b=true->l.length<=16):=by
 rcases isLog l h with ⟨h1,_,h2⟩| ⟨h1,_⟩
 ·exact⟨true,h1,λ_=>h2⟩
 ·exact⟨false,h1,nofun⟩
theorem Oh{l:List rj}(h:l.length<=1048576):FC l=some (l,()):=(Ki l h).1
theorem YC(l:List rj)(c q:Int)(hl:l.length<=maxLen):Tt (λy=>y.1= -1\/0<=y.1/\y.1< (l.length:Int)) (Kv l c q):=by
 unfold Kv;refine .bind (.count (B:=I6) (E:=Sum.elim (λy=>0<=y.1.1/\y.1.1< (l.length:Int)) λ_=>True) l.length (λk (_:Unit)=>((l,c,q,(k:Int),()),(),())) (λ_ _=>True) (λ_ _=> ?_) (λk _ hk _=> ?_) () trivial) λy hy=> ?_
 ·unfold I6;simp only[CY];rw[if_neg (by omega)];exact .ret trivial
 ·unfold I6;simp only[CY];rw[if_pos (by omega)];refine .ip (by omega) (.get (by omega) λ_ _ _=> .br (λ_=> .ip (by omega) (.get (by omega) λ_ _ _=> .br (λ_=> .ret ?_) λ_=> .ret ⟨(),by rw[BG hl hk],trivial⟩)) λ_=> .ret ⟨(),by rw[BG hl hk],trivial⟩);exact⟨by show (0:Int)<=k;omega,by show (k:Int)<_;omega⟩
 ·cases y with
  |inl y=>exact .ret (.inr hy)
  |inr y=>exact .ret (.inl rfl)
end
section
theorem PH{l:List qj}(h:l.length<=1048576/\ ∀s∈l,ED 1048576 s){s:qj}(hs:ED 1048576 s)(i:Nat): (l.set i s).length<=1048576/\ ∀s'∈l.set i s,ED 1048576 s':=
 ⟨by rw[DI];exact h.1,λs' hm=>(cX hm).elim (h.2 s') λe=>e ▸ hs⟩
theorem Zr(x:qg)(ok:Ew 1048576 x)(id:Int): ∃y n,Hp x id=some (y,n,())/\Ew 1048576 y/\y.servers.length=x.servers.length:=by
 obtain⟨b,b1,_,b2⟩:=QH x id ok;unfold Hp;simp only[(EG x ok).1,b1,ao,Eb];cases b with
 |false=>exact⟨x,1,rfl,ok,rfl⟩
 |true=>
  obtain⟨hv,h0,h5⟩:=b2 rfl;obtain⟨s,s1,_⟩:=HI ok (El ok hv) ⟨h0,h5⟩;have hlt:=C5 s1;have hs:=ok.1.2 s (aA s1);simp only[CG,BX,if_pos h0,s1,ao];rw[if_pos ⟨h0,by omega⟩];cases s.up with
  |false=>exact⟨x,2,rfl,ok,rfl⟩
  |true=>exact⟨_,0,rfl,⟨PH ok.1 (show ED 1048576 ⟨false,s.intact,s.version,s.epoch,s.config,s.first,s.log,s.commit,s.learned⟩ from hs) _,ok.2⟩,DI⟩
theorem XB(x:qg)(ok:Ew 1048576 x)(id:Int): ∃y n,GG x id=some (y,n,())/\Ew 1048576 y/\y.servers.length=x.servers.length:=by
 obtain⟨b,b1,_,b2⟩:=QH x id ok;unfold GG;simp only[(EG x ok).1,b1,ao,Eb];cases b with
 |false=>exact⟨x,1,rfl,ok,rfl⟩
 |true=>
  obtain⟨hv,h0,h5⟩:=b2 rfl;obtain⟨s,s1,_⟩:=HI ok (El ok hv) ⟨h0,h5⟩;have hlt:=C5 s1;have hs:=ok.1.2 s (aA s1);simp only[CG,BX,if_pos h0,s1,ao];rw[if_pos ⟨h0,by omega⟩];cases s.up with
  |true=>exact⟨x,1,rfl,ok,rfl⟩
  |false=>exact⟨_,0,rfl,⟨PH ok.1 (show ED 1048576 ⟨true,s.intact,s.version,s.epoch,s.config,s.first,s.log,s.commit,s.learned⟩ from hs) _,ok.2⟩,DI⟩
theorem aad(x:qg)(ok:Ew 1048576 x)(id:Int): ∃y n,Ja x id=some (y,n,())/\Ew 1048576 y/\y.servers.length=x.servers.length:=by
 obtain⟨b,b1,_,b2⟩:=QH x id ok;unfold Ja;simp only[(EG x ok).1,b1,ao,Eb];cases b with
 |false=>exact⟨x,1,rfl,ok,rfl⟩
 |true=>obtain⟨hv,h0,h5⟩:=b2 rfl;obtain⟨s,s1,_⟩:=HI ok (El ok hv) ⟨h0,h5⟩;have hlt:=C5 s1;simp only[CG,BX,if_pos h0,s1,ao,K9];rw[if_pos ⟨h0,by omega⟩];exact⟨_,0,rfl,⟨PH ok.1 ⟨⟨bM _,bM _⟩,bM _,bM _⟩ _,ok.2⟩,DI⟩
theorem Xq(x:qg)(ok:Ew 1048576 x)(n:Int): ∃y k,HU x n=some (y,k,())/\Ew 1048576 y/\y.servers.length=x.servers.length:=by
 obtain⟨v,v1,_⟩:=Fd x ok;unfold HU;simp only[(EG x ok).1,v1,EF,ao,Eb];cases v with
 |false=>exact⟨x,1,rfl,ok,rfl⟩
 |true=>
  simp only[CG];cases Gp n 0 3 with
  |false=>exact⟨x,1,rfl,ok,rfl⟩
  |true=>exact⟨_,0,rfl,ok,rfl⟩
theorem aal(x:qg)(ok:Ew 1048576 x)(a b:Int): ∃y k,HQ x a b=some (y,k,())/\Ew 1048576 y/\y.servers.length=x.servers.length:=by
 obtain⟨v,v1,_⟩:=Fd x ok;obtain⟨u,u1,_⟩:=Kr x.sides (Em ok.2.1)
 have hm: ∃l t,Jb x.sides a b=some (l,t,())/\l.length=x.sides.length:=by
  unfold Jb;simp only[bF,BX,u1,EF,ao,Eb];rw[if_pos (show x.sides.length*8<=2 ^ 40 by have:=ok.2.1;omega)];cases u with
  |false=>exact⟨_,_,rfl,rfl⟩
  |true=>
   simp only[CG];cases hw:Gp a 0 4 with
   |false=>exact⟨_,_,rfl,rfl⟩
   |true=>
    simp only[CG];cases Gp b 0 3 with
    |false=>exact⟨_,_,rfl,rfl⟩
    |true=>have hw:=Ec.1 hw;have hl:=JQ (Em ok.2.1) u1;simp only[CG];rw[if_pos ⟨hw.1,by omega⟩,aq (by omega)];exact⟨_,_,rfl,DI⟩
 obtain⟨l,t,l1,l2⟩:=hm;unfold HQ;simp only[(EG x ok).1,v1,l1,ao,Eb];cases v with
 |false=>exact⟨x,1,rfl,ok,rfl⟩
 |true=>
  cases t with
  |false=>exact⟨x,1,rfl,ok,rfl⟩
  |true=>exact⟨_,0,rfl,⟨ok.1,by show l.length<=1048576;rw[l2];exact ok.2.1,ok.2.2⟩,rfl⟩
theorem RE(x:qg)(ok:Ew 1048576 x)(id:Int): ∃n:Int,Jn x id=some (n,())/\(n=0->Ea x=some (true,())/\0<=id/\id<5):=by
 obtain⟨v,v1,_⟩:=Fd x ok;unfold Jn;simp only[v1,EF,ao,Eb];cases v with
 |false=>exact⟨1,rfl,λh=>absurd h (by decide)⟩
 |true=>
  simp only[CG];cases hw:Gp id 0 4 with
  |false=>exact⟨1,rfl,λh=>absurd h (by decide)⟩
  |true=>
   have hw:=Ec.1 hw;obtain⟨s,s1,_⟩:=HI ok (El ok v1) ⟨hw.1,by omega⟩;simp only[CG,BX,if_pos hw.1,s1,ao];cases s.up with
   |false=>exact⟨2,rfl,λh=>absurd h (by decide)⟩
   |true=>exact⟨0,rfl,λ_=>⟨trivial,hw.1,by omega⟩⟩
end
section
theorem tn{k n:Nat}(h:k<n): (k:Int).toNat<n:=h
theorem Uq(m:nn)(ho:m.objects.length<=1000)(hs:m.sessions.length<=1000):Tt (λy=>y.1=true->m.objects.length=3) (FN m):=by
 have mo:m.objects.length<=maxLen:=by unfold maxLen;omega
 have ms:m.sessions.length<=maxLen:=by unfold maxLen;omega
 unfold FN;refine .bind (.count (B:=FH) (E:=Sum.elim (λy=>y.1.2=(false,())) λy=>y.2.1=((m.objects,m.sessions,()),())) m.objects.length (λk (_:Unit)=>(((),(k:Int),()),((m.objects,m.sessions,()),()),())) (λ_ _=>True) (λ_ _=> .end (DH _) (.ret rfl)) (λk _ hk _=> .go (DE.2 hk) (.ip (DD k) (.get (tn hk) λx _ _=> ?_))) () trivial) λy hy=> ?_
 ·rw[EF,ao,Eb];exact .br (λ_=> .ret ⟨(),by rw[BG mo hk],trivial⟩) λ_=> .ret rfl
 cases y with
 |inl y=>exact .ret (by rw[show y.1.2=_ from hy];nofun)
 |inr y=>
  show Tt _ ((Jd (((),0,()),y.2.1,())).bind _);rw[show y.2.1=_ from hy];refine .bind (.count (B:=FI) (E:=Sum.elim (λy=>y.1.2=(false,())) λy=>y.2.1=((m.objects,m.sessions,()),())) m.sessions.length (λk (_:Unit)=>(((),(k:Int),()),((m.objects,m.sessions,()),()),())) (λ_ _=>True) (λ_ _=> .end (DH _) (.ret rfl)) (λk _ hk _=> .go (DE.2 hk) (.ip (DD k) (.get (tn hk) λx _ _=> ?_))) () trivial) λy hy=> ?_
  ·simp only[EF,ao,Eb]
   have hw: (k:Int)>0->IntKind.wrap .i64 ((k:Int)-1)=(k:Int)-1:=λh=>by unfold maxLen at ms;exact vM (by omega) (by omega)
   refine .br (λ_=> .br (λ_=> .br (λ_=> .br (λh=> ?_) λ_=> .ret ⟨(),by rw[BG ms hk],trivial⟩) λ_=> .ret rfl) λ_=> .ret rfl) λ_=> .ret rfl;have h:=of_decide_eq_true h;rw[hw h];exact .ip (by omega) (.get (by omega) λ_ _ _=> .br (λ_=> .ret rfl) λ_=> .ret ⟨(),by rw[BG ms hk],trivial⟩)
  cases y with
  |inl y=>exact .ret (by rw[show y.1.2=_ from hy];nofun)
  |inr y=>show Tt _ (some (((y.2.1.1.1.length:Int)==3),()));rw[show y.2.1=_ from hy];exact .ret λh=>by have : (m.objects.length:Int)=3:=eq_of_beq h;omega
theorem XG(m:nn)(c:Int)(hs:m.sessions.length<=1000):Tt (λy=>y.2.1=true-> ∃x∈m.sessions,x.client=c) (GL m c):=by
 have ms:m.sessions.length<=maxLen:=by unfold maxLen;omega
 unfold GL;refine .bind (.count (B:=FP) (E:=Sum.elim (λy=> ∃x∈m.sessions,x.client=c) λ_=>True) m.sessions.length (λk (_:Unit)=>((c,(),(),(k:Int),()),((m.objects,m.sessions,()),(0,0,false,0,()),()),())) (λ_ _=>True) (λ_ _=> .end (DH _) (.ret trivial)) (λk _ hk _=> .go (DE.2 hk) (.ip (DD k) (.get (tn hk) λx _ hx=> .br (λe=> .ip (DD k) (.get (tn hk) λ_ _ _=> .ret ⟨x,hx,eq_of_beq e⟩)) λ_=> .ret ⟨(),by rw[BG ms hk],trivial⟩))) () trivial) λy hy=> ?_;cases y with
 |inl y=>exact .ret λ_=>hy
 |inr y=>exact .ret nofun
theorem UF(m:nn)(o:Op)(ho:m.objects.length<=1000)(hs:m.sessions.length<=900):Tt (λy=>y.1.sessions.length<=m.sessions.length+1/\y.1.objects.length=m.objects.length) (JX m o):=by
 obtain⟨⟨b,_⟩,v1,v2⟩:=Uq m ho (by omega);unfold JX
 have cp:Nv m=some (m,()):=by unfold Nv;simp only[bF];rw[B0 (by omega),B0 (by omega)]
 rw[cp,ao,v1,ao,Eb,Mv];refine .br (λe=> ?_) λ_=> .ret ⟨cK _,rfl⟩;have h3:=v2 e;rw[ao,Eb];refine .br (λeo=> .bind (XG m o.client (by omega)) λy hy=> ?_) λ_=> .ret ⟨cK _,rfl⟩;have hob:=VL (show EH o=some (true,()) by rw[Mv];rw[show XU o=true from eo]);have hle:=Yj m.sessions o.client;have hlt:y.2.1=true->LZ m.sessions o.client<m.sessions.length:=λh=>Yk (hy h);have hw:IntKind.wrap .i64 (((LZ m.sessions o.client:Nat):Int)+1)=((LZ m.sessions o.client:Nat):Int)+1:=vM (by omega) (by omega);generalize hp:LZ m.sessions o.client=p at hle hlt hw
 have ln: ∀ (k:Nat) (z:nq),k<=m.sessions.length+1->p<=k->(m.sessions.take p++ [z] ++(m.sessions.drop k).take (m.sessions.length-k)).length=p+1+(m.sessions.length-k):=λk z h1 h2=>by simp only[bJ,cP,co,cy];omega
 have g0:0<=(p:Int):=DD p;have g1: (p:Int)<=(m.sessions.length:Int):=Int.ofNat_le.2 hle;have g3:0<=(p:Int)+1:=by omega
 have g2:y.2.1=true->(p:Int)+1<=(m.sessions.length:Int):=λh=>by have:=hlt h;omega
 have l1: (m.sessions.take p).length<=900:=by rw[cP];omega
 extract_lets+lift j44 j45
 have h44:Tt (λy=>y.1.sessions.length<=m.sessions.length+1/\y.1.objects.length=m.objects.length) j44:=by
  unfold j44;refine .ip hob.1 (.get (by show o.object.toNat<_;omega) λx _ _=> .br (λ_=> .ip (by show 0<=o.object/\o.object< (m.objects.length:Int);omega) (.get (by show o.object.toNat<m.objects.length;omega) λ_ _ _=> ?_)) λ_=> .br (λ_=> .ip (by show 0<=o.object/\o.object< (m.objects.length:Int);omega) (.get (by show o.object.toNat<m.objects.length;omega) λ_ _ _=> ?_)) λ_=> ?_)
  all_goals
   show Tt _ ((Lf (((),(),(),(),y.2.1,(),0,()),((o.client,o.seq,o.kind,o.object,o.old,o.value,()),((),(),()),(false,0,()),((),(),()),(_,_,()),()),_,m.sessions,())).bind _);rw[aaH _ _ _ _ _ _ (by omega),hp,ao];simp only[hw,bF,aP,cE,DC,show (0:Int).toNat=0 from rfl,DU,show ((p:Int)+1).toNat=p+1 from rfl];refine .ip ⟨g0,g1,cU _⟩ (.br (λe=> ?_) λ_=> ?_)
   ·have:=hlt e;refine .ip ⟨g3,g2 e,cU _⟩ (.ip ⟨cU _,g0,g1⟩ (.ip hle (.ip (by omega) (.ip (by rw[bJ,cy];omega) (.ip (by omega) (.ip (by rw[ln _ _ (by omega) (by omega)];omega) (.ret ⟨?_,by first |rfl|exact DI⟩)))))));show List.length _<=_;rw[ln _ _ (by omega) (by omega)];omega
   ·refine .ip ⟨cU _,g0,g1⟩ (.ip hle (.ip (by omega) (.ip (by rw[bJ,cy];omega) (.ip (by omega) (.ip (by rw[ln _ _ (by omega) (by omega)];omega) (.ret ⟨?_,by first |rfl|exact DI⟩))))));show List.length _<=_;rw[ln _ _ (by omega) (by omega)];omega
 have h45:Tt (λy=>y.1.sessions.length<=m.sessions.length+1/\y.1.objects.length=m.objects.length) j45:=.br (λ_=> .br (λ_=> .ret ⟨cK _,rfl⟩) λ_=>h44) λ_=>h44;exact .br (λ_=> .br (λ_=> .ret ⟨cK _,rfl⟩) λ_=>h45) λ_=>h45
theorem Tz(l:List rj)(hl:l.length<=maxLen):Tt (λy=>y.1.objects.length<=3/\y.1.sessions.length<=16) (Ir l):=by obtain⟨b,b1,b2⟩:=Nw hl;unfold Ir K8;rw[ao,b1,ao,Eb];refine .br (λe=> ?_) λ_=> .ret ⟨bM _,bM _⟩;have h16:=b2 e;refine .bind (.count (B:=Kg) (E:=λy=>y.2.2.1.length<=3/\y.2.2.2.1.length<=16) l.length (λk (b:List Int×List nq)=>((l,(),(),(k:Int),()),(((),(),()),((),(),()),()),b.1,b.2,())) (λk b=>b.1.length<=3/\b.2.length<=k) (λb hb=> .end (DH _) (.ret ⟨hb.1,aX hb.2 h16⟩)) (λk b hk hb=> .go (DE.2 hk) (.ip (DD k) (.get (tn hk) λx _ _=> .bind (UF ⟨b.1,b.2⟩ x.op (aX hb.1 (by omega)) (aX hb.2 (by omega))) λy hy=> .ret ⟨(y.1.objects,y.1.sessions),by rw[BG hl hk],by rw[hy.2];exact hb.1,aX hy.1 (Nat.succ_le_succ hb.2)⟩))) ([0,0,0],[]) ⟨ay _,ay _⟩) λy hy=> .ret hy
theorem VN(l:List rj)(i:Int)(hl:l.length<=maxLen):Tt T1 (JZ l i):=by obtain⟨b,b1,b2⟩:=Nw hl;unfold JZ;rw[b1,ao,Eb];refine .br (λe=> ?_) λ_=> .ret trivial;have h16:=b2 e;rw[vM (n:=(l.length:Int)-1) (by omega) (by omega),EF,ao,Eb];refine .br (λh=> ?_) λ_=> .ret trivial;have h:=Ec.1 h;refine .ip (by omega) (.bind (Tz _ ?_) λy hy=> .ip h.1 (.get (by omega) λx _ _=> .bind (UF _ _ (by omega) (by omega)) λz _=> .ret trivial));refine aX ?_ hl;rw[cP,co];omega
theorem OE(s:qj)(h:ED 1048576 s)(hf:0<=s.first/\s.first<=16/\s.log.length<=16):Tt (λy=>y.1.length<=16) (EE s):=by
 unfold EE;rw[vM (n:=s.first+(s.log.length:Int)) (by omega) (by omega)];simp only[EF,ao,Eb];refine .br (λh1=> ?_) λ_=> .ret (bM _);have h1:=Ec.1 h1;refine .br (λ_=> .ret (bM _)) λ_=> ?_;rw[vM (n:=s.commit-s.first) (by omega) (by omega)]
 have hlen: ((s.log.drop (0:Int).toNat).take ((s.commit-s.first).toNat-(0:Int).toNat)).length<=16:=by rw[cP,co];omega
 refine .ip (by omega) ?_;rw[Oh (by omega)];exact .ret hlen
theorem aar(m:nn)(i:Int)(ho:m.objects.length<=1000)(hs:m.sessions.length<=1000):Tt T1 (JD m i):=by obtain⟨⟨b,_⟩,b1,b2⟩:=Uq m ho hs;unfold JD;rw[b1,ao,Eb];refine .br (λe=> ?_) λ_=> .ret trivial;have h3:=b2 e;rw[EF,ao,Eb];refine .br (λh=> ?_) λ_=> .ret trivial;have h:=Ec.1 h;exact .ip h.1 (.get (by omega) λ_ _ _=> .ret trivial)
theorem TB{s:qj}{id:Int}(h:ED 1048576 s)(hv:Ed s id=some (true,())):0<=s.first/\s.first<=16/\s.log.length<=16:=by obtain⟨h1,h2,h3,_⟩:=FO h hv;exact⟨h1,h2,h3⟩
theorem ZQ(s:qj)(i:Int)(h:ED 1048576 s)(hf:0<=s.first/\s.first<=16/\s.log.length<=16):Tt T1 (Lt s i):=by unfold Lt;exact .bind (OE s h hf) λy hy=> .bind (Tz _ (by unfold maxLen;omega)) λz hz=> .bind (aar _ _ (by omega) (by omega)) λ_ _=> .ret trivial
theorem Zw(l:uK)(a b c:Int):Tt T1 (JA l a b c):=by obtain⟨v,v1,_⟩:=L6 l;unfold JA;rw[v1,ao,EF,ao];exact .br (λ_=> .br (λ_=> .br (λ_=> .br (λ_=> .br (λ_=> .ret trivial) λ_=> .ret trivial) λ_=> .ret trivial) λ_=> .ret trivial) λ_=> .ret trivial) λ_=> .ret trivial
theorem WD(x:qg)(ok:Ew 1048576 x)(id:Int):Tt T1 (HB x id):=by obtain⟨b,b1,_,b2⟩:=J9 x ok id;unfold HB;rw[b1,ao];refine .br (λe=> ?_) λ_=> .ret trivial;obtain⟨hv,h0,h5,_⟩:=b2 e;exact .srv ok (El ok hv) ⟨h0,h5⟩ λs _ _ _=> .bind (Zw _ _ _ _) λ_ _=> .ret trivial
theorem U7(x:qg)(ok:Ew 1048576 x)(id i:Int):Tt T1 (Ky x id i):=by obtain⟨n,n1,n2⟩:=RE x ok id;unfold Ky;rw[n1,ao,Eb];refine .br (λe=> ?_) λ_=> .ret trivial;obtain⟨hv,h0,h5⟩:=n2 (eq_of_beq e);have vc:=El ok hv;rw[EF,ao,Eb];refine .br (λ_=> .srv ok vc ⟨h0,h5⟩ λs _ s2 _=> ?_) λ_=> .ret trivial;obtain⟨b,b1,_⟩:=L0 s id s2;rw[b1,ao,Eb];refine .br (λ_=> .bind (WD x ok id) λy _=> ?_) λ_=> .ret trivial;rw[Eb];exact .br (λ_=> .srv ok vc ⟨h0,h5⟩ λs _ s2 s3=> .bind (ZQ s i s2 (TB s2 s3)) λ_ _=> .ret trivial) λ_=> .ret trivial
end
section
def Kp(x y:qg):Prop:=Ew 1048576 y/\y.servers.length=x.servers.length
theorem Kp.self{x:qg}(ok:Ew 1048576 x):Kp x x:=⟨ok,rfl⟩
theorem Kp.trans{x y z:qg}(h:Kp x y)(k:Kp y z):Kp x z:=⟨k.1,k.2.trans h.2⟩
theorem Kp.srvs{x y:qg}(h:Kp x y){S:List qj}(hl:S.length=y.servers.length)(hs: ∀s∈S,ED 1048576 s):Kp x ⟨y.now,S,y.sides,y.master,y.masterUp,y.lease,y.places⟩:=
 ⟨⟨⟨by rw[hl];exact h.1.1.1,hs⟩,h.1.2⟩,hl.trans h.2⟩
theorem Kp.set{x y:qg}(h:Kp x y){s:qj}(hs:ED 1048576 s)(i:Nat):Kp x ⟨y.now,y.servers.set i s,y.sides,y.master,y.masterUp,y.lease,y.places⟩:=
 h.srvs DI (PH h.1.1 hs i).2
theorem Tt.at{α:Type}{Q:α->Prop}{l:List qj}(h5:l.length=5){a:Int}(ha:0<=a/\a<5){k:qj->Option α}(h: ∀s,l[a.toNat]? =some s->s∈l->Tt Q (k s)):Tt Q (iteP (0<=a/\a< (l.length:Int)) ((l[a.toNat]?).bind k) none):=
 .ip (by rw[h5];exact ha) (.get (by omega) h)
theorem Zu(x:qg)(ok:Ew 1048576 x)(id:Int):Tt T1 (IQ x id):=by obtain⟨b,b1,_,b2⟩:=J9 x ok id;unfold IQ;rw[b1,ao,Eb];refine .br (λe=> ?_) λ_=> .ret trivial;obtain⟨hv,h0,h5,_⟩:=b2 e;have vc:=El ok hv;refine .srv ok vc ⟨h0,h5⟩ λs _ s2 _=> .bind (LM _ (Ee s2.1)) λy hy=> .bind (.count (B:=IZ) (E:=λ_=>True) y.1.length (λk (b:Int)=>(((),b,(),(k:Int),()),(fx x,()),y.1,())) (λ_ _=>True) (λ_ _=> .end (DH _) (.ret trivial)) (λk b hk _=> .go (DE.2 hk) (.ip ⟨DD k,DE.2 hk⟩ (.get (tn hk) λz _ hz=> .srv ok vc (hy.2 z hz) λt _ _ _=> .ret ⟨_,by rw[BG (by have:=hy.1;unfold maxLen;omega) hk],trivial⟩))) 2 trivial) λ_ _=> .ret trivial
theorem XW(x:qg)(ok:Ew 1048576 x)(id:Int)(o:Op):Tt (λy=>Kp x y.1/\(y.2.1=0->y.1.servers.length=5/\0<=id/\id<5)) (FD x id o):=by
 obtain⟨v,v1,_⟩:=Fd x ok;unfold FD;rw[(EG x ok).1,ao,v1,ao,Eb];have bad: ∀n:Int,n≠0->Tt (λy:qg×Int×Unit=>Kp x y.1/\(y.2.1=0->y.1.servers.length=5/\0<=id/\id<5)) (some (x,n,())):=λn hn=> .ret ⟨.self ok,λh=>absurd h hn⟩;refine .br (λe=> ?_) λ_=>bad 1 (by decide);subst e;have vc:=El ok v1;rw[EF,ao,Eb];refine .br (λh=> ?_) λ_=>bad 1 (by decide);have h:=Ec.1 h;have hid:0<=id/\id<5:=by omega
 rw[Mv,ao,Eb];refine .br (λ_=> .srv ok vc hid λs s1 s2 s3=> ?_) λ_=>bad 1 (by decide);rw[Eb];refine .br (λ_=> ?_) λ_=>bad 2 (by decide);obtain⟨b,b1,_⟩:=L0 s id s2;rw[b1,ao,Eb];refine .br (λ_=> .bind (YC s.log _ _ (Em s2.2.1)) λy hy=> ?_) λ_=>bad 3 (by decide);have good: ∀n:Int,Tt (λy:qg×Int×Unit=>Kp x y.1/\(y.2.1=0->y.1.servers.length=5/\0<=id/\id<5)) (some (x,n,())):=λn=> .ret ⟨.self ok,λ_=>⟨vc.len,hid⟩⟩
 extract_lets+lift j17 j18
 have h17:Tt (λy=>Kp x y.1/\(y.2.1=0->y.1.servers.length=5/\0<=id/\id<5)) j17:=by
  unfold j17;refine .at vc.len hid λs' e' hs'=> ?_;show Tt _ ((x.servers[id.toNat]?).bind _);rw[e',ao];have hs:=ok.1.2 s' hs';have hs3:=hs.2.1;obtain rfl:s'=s:=by rw[s1] at e';exact (Option.some.inj e').symm
  have hl:=(TB s2 s3).2.2;refine .ip rfl ?_;have e1: ∀X Y:Option (qg×Int×Unit),iteP (s'.log.length<s'.log.length) X Y=Y:=λX Y=>by rw[BX,if_neg (dA _)]
  rw[e1]
  have hl2: (s'.log.take s'.log.length++([(⟨s'.epoch,o⟩:rj)]:List rj)).length<=17:=by rw[bJ,cP,cy];omega
  refine .ip (by omega) (.ip (by show 0<=id/\id< (x.servers.length:Int);rw[vc.len];exact hid) (.ip rfl (.ret ⟨(Kp.self ok).set (s:=⟨s'.up,s'.intact,s'.version,s'.epoch,s'.config,s'.first,s'.log.take s'.log.length++ [⟨s'.epoch,o⟩],s'.commit,s'.learned⟩) ⟨hs.1,aX hl2 (by omega),hs.2.2⟩ _,λ_=>⟨by show (x.servers.set _ _).length=5;rw[DI];exact vc.len,hid⟩⟩)))
 have h18:Tt (λy=>Kp x y.1/\(y.2.1=0->y.1.servers.length=5/\0<=id/\id<5)) j18:=by unfold j18;refine .bind (Tz s.log (Em s2.2.1)) λm hm=> .bind (UF m.1 o (by omega) (by omega)) λz _=> ?_;rw[Eb];refine .br (λ_=> .bind (Q:=T1) (by unfold Ib;exact .ret trivial) λw _=> ?_) λ_=>good 11;exact .br (λ_=> .bind (Zu x ok id) λ_ _=> .br (λ_=>good 6) λ_=> .br (λ_=>good 5) λ_=>h17) λ_=> .br (λ_=>good 5) λ_=>h17
 refine .br (λh=> .ip (of_decide_eq_true h) (.get ?_ λe _ _=> ?_)) λ_=> .br (λ_=>good 0) λ_=>h18
 ·have h:=of_decide_eq_true h;omega
 ·rw[Eb];exact .br (λ_=> .br (λ_=>good 0) λ_=>h18) λ_=>good 11
theorem aaq(x:qg)(ok:Ew 1048576 x)(id m:Int):Tt (λy=>Kp x y.1/\(y.2.1=true->0<=m/\m<5)) (F0 x id m):=by
 obtain⟨b,b1,_,b2⟩:=J9 x ok id;have bad:Tt (λy:qg×Bool×Unit=>Kp x y.1/\(y.2.1=true->0<=m/\m<5)) (some (x,false,())):=.ret ⟨.self ok,nofun⟩;unfold F0;rw[(EG x ok).1,ao,b1,ao,Eb];refine .br (λe=> ?_) λ_=>bad;obtain⟨hv,h0,h5,hp⟩:=b2 e;have vc:=El ok hv;refine .srv ok vc ⟨h0,h5⟩ λs s1 s2 s3=> .bind (LM _ (Ee s2.1)) λy hy=> ?_;rw[(Ey y.1 m (by have:=hy.1;unfold maxLen;omega)).1,ao,Eb];refine .br (λhm=> ?_) λ_=>bad;have hm:=hy.2 m (of_decide_eq_true hm);refine .bind (WM ok vc ⟨h0,h5⟩ hm) λz _=> ?_;rw[Eb];refine .br (λ_=> .srv ok vc ⟨h0,h5⟩ λt t1 t2 t3=> .srv ok vc ⟨h0,h5⟩ λu _ u2 _=> ?_) λ_=>bad;obtain⟨n,n1,_⟩:=KU u.config m (Ee u2.1);rw[n1,ao];have five: ∀ (i:Nat) (s:qj),(x.servers.set i s).length=5:=λi s=>by rw[DI];exact vc.len
 refine .br (λ_=> ?_) λ_=> ?_
 ·rw[RD t.log t2.2.1 (FO t2 t3).2.2.2.2.2.1,ao];refine .ip (by show 0<=m/\m< (x.servers.length:Int);rw[vc.len];exact hm) (.at vc.len hm λw _ hw=> ?_);have hw:=ok.1.2 w hw;refine .get (by rw[five];omega) λw' _ hw'=> .ret ⟨.srvs (.self ok) (by rw[DI,DI]) λs hs=> ?_,λ_=>hm⟩;have all:=(PH ok.1 (s:=⟨w.up,w.intact,w.version,w.epoch,w.config,((cutAt t.log:Nat):Int),w.log,w.commit,w.learned⟩) hw m.toNat)
  have hw':=all.2 w' hw';exact (PH all (s:=⟨w'.up,w'.intact,w'.version,w'.epoch,w'.config,w'.first,t.log.drop (cutAt t.log),w'.commit,w'.learned⟩) ⟨hw'.1,by show List.length _<=_;rw[co];have:=t2.2.1;omega,hw'.2.2⟩ m.toNat).2 s hs
 ·rw[Oh t2.2.1,ao];exact .at vc.len hm λw _ hw=> .ret ⟨(Kp.self ok).set (s:=⟨w.up,w.intact,w.version,w.epoch,w.config,w.first,t.log,w.commit,w.learned⟩) ⟨(ok.1.2 w hw).1,t2.2.1,(ok.1.2 w hw).2.2⟩ _,λ_=>hm⟩
theorem Vo{l:List qj}(h:l.length=5/\ ∀s∈l,ED 1048576 s){s:qj}(hs:ED 1048576 s)(i:Nat): (l.set i s).length=5/\ ∀t∈l.set i s,ED 1048576 t:=⟨by rw[DI];exact h.1,λt ht=>(cX ht).elim (h.2 t) λe=>e ▸ hs⟩
abbrev fz:Int×Unit×Unit×Unit×Int×Int×Int×Int×Int×Unit×Unit:=(0,(),(),(),0,0,0,0,0,(),())
abbrev fc(x:qg):Int×Unit×Unit×Unit×Int×Int×Int×Int×Int×Unit×Unit:=(x.now,(),(),(),x.master.activated,x.masterUp,x.lease.epoch,x.lease.holder,x.lease.ends,(),())
theorem Vu(x:qg)(ok:Ew 1048576 x)(id:Int):Tt (λy=>Kp x y.1) (F7 x id):=by
 obtain⟨b,b1,_,b2⟩:=J9 x ok id;unfold F7;rw[(EG x ok).1,ao,b1,ao,Eb];refine .br (λe=> ?_) λ_=> .ret (.self ok);obtain⟨hv,h0,h5,hp⟩:=b2 e;have vc:=El ok hv;refine .srv ok vc ⟨h0,h5⟩ λs s1 s2 s3=> .bind (LM _ (Ee s2.1)) λy hy=> ?_;have hl:y.1.length<=maxLen:=by have:=hy.1;unfold maxLen;omega
 refine .bind (.count (B:=Hf) (E:=λe=> ∃ (c:qg) (a:Bool),Kp x c/\e=((id,(),(),(),a,()),(fz,fc c,()),y.1,c.servers,c.sides,c.master.configs,c.places,())) y.1.length (λk (b:qg×Bool)=>((id,(),(),(),b.2,(k:Int),()),(fz,fc b.1,()),y.1,b.1.servers,b.1.sides,b.1.master.configs,b.1.places,())) (λ_ b=>Kp x b.1) (λb hb=> .end (DH _) (.ret ⟨b.1,b.2,hb,rfl⟩)) (λk b hk hb=> .go (DE.2 hk) (.ip ⟨DD k,DE.2 hk⟩ (.get (tn hk) λz _ hz=> .bind (aaq b.1 hb.1 id z) λw hw=> .br (λ_=> .ret ⟨(w.1,w.2.1),by rw[BG hl hk],hb.trans hw.1⟩) λ_=> .ret ⟨(w.1,false),by rw[BG hl hk],hb.trans hw.1⟩))) (x,true) (.self ok)) ?_
 rintro _ ⟨c,a,hc,rfl⟩
 refine .bind (.count (B:=GV) (E:=λe=> ∃ (c:qg) (a:Bool),Kp x c/\e=(((),(),a,()),(fz,fc c,()),c.servers,c.sides,c.master.configs,c.places,())) y.1.length (λk (b:List qj)=>((id,(),(),(),a,(k:Int),()),(fz,fc c,()),y.1,b,c.sides,c.master.configs,c.places,())) (λ_ b=>b.length=5/\ ∀s∈b,ED 1048576 s) (λb hb=> .end (DH _) (.ret ⟨⟨c.now,b,c.sides,c.master,c.masterUp,c.lease,c.places⟩,a,hc.srvs (by rw[hb.1,hc.2,vc.len]) hb.2,rfl⟩)) (λk b hk hb=> .go (DE.2 hk) (.br (λ_=> .ip ⟨DD k,DE.2 hk⟩ (.get (tn hk) λz _ hz=> .at hb.1 ⟨h0,h5⟩ λp _ _=> .at hb.1 (hy.2 z hz) λq _ hq=> .ret ⟨b.set z.toNat ⟨q.up,q.intact,q.version,q.epoch,q.config,q.first,q.log,((p.log.length:Nat):Int),q.learned⟩,by rw[BG hl hk],Vo hb (s:=⟨q.up,q.intact,q.version,q.epoch,q.config,q.first,q.log,((p.log.length:Nat):Int),q.learned⟩) (hb.2 q hq) _⟩)) λ_=> .ret ⟨⟨c.now,b,c.sides,c.master,c.masterUp,c.lease,c.places⟩,a,hc.srvs (by rw[hb.1,hc.2,vc.len]) hb.2,rfl⟩)) c.servers ⟨hc.2.trans vc.len,hc.1.1.2⟩) ?_
 rintro _ ⟨d,a',hd,rfl⟩
 exact .ret hd
theorem XZ(x:qg)(ok:Ew 1048576 x)(id:Int)(o:Op):Tt (λy=>Kp x y.1) (I8 x id o):=by
 unfold I8;refine .bind (XW x ok id o) λy hy=> ?_;rw[Eb];refine .br (λe=> ?_) λ_=> .ret hy.1;obtain⟨h5,hid⟩:=hy.2 (eq_of_beq e)
 have same: ∀ {α:Type} {Q:α->Prop} {l:List qj} {k:qj->qj->Option α},l.length=5->(∀s∈l,ED 1048576 s)->(∀s,ED 1048576 s->Tt Q (k s s))->Tt Q (iteP (0<=id/\id< (l.length:Int)) ((l[id.toNat]?).bind λa=>(l[id.toNat]?).bind λb=>k a b) none):=λh5 hs h=> .at h5 hid λs e1 e2=>by rw[e1,ao];exact h s (hs s e2)
 have Av: ∀s:qj,(s.log.drop 0).take s.log.length=s.log:=λs=>by rw[cE,DK]
 refine same h5 hy.1.1.1.2 λs hs=> .ip (by omega) ?_;rw[Av];refine .bind (YC _ _ _ (Em hs.2.1)) λi _=> .at h5 hid λt _ _=> .br (λ_=> .bind (Vu y.1 hy.1.1 id) λz hz=> ?_) λ_=>same h5 hy.1.1.1.2 λs hs=> .ip (by omega) ?_
 ·rw[Eb];refine .br (λ_=>same (hz.2.trans h5) hz.1.1.2 λs hs=> .ip (by omega) ?_) λ_=> .ret (hy.1.trans hz);rw[Av];exact .bind (VN _ _ (Em hs.2.1)) λ_ _=> .ret (hy.1.trans hz)
 ·rw[Av];exact .bind (VN _ _ (Em hs.2.1)) λ_ _=> .ret hy.1
end
end Go.Proofs.YtkghndikalnipacGreat.En
