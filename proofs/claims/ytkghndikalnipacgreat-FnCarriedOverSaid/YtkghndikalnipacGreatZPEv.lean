/- Plain laws. -/
import Derived.Test.YtkghndikalnipacGreatZBX
set_option linter.unusedSimpArgs false
set_option linter.unusedVariables false
namespace Go.Proofs.YtkghndikalnipacGreat.En
open Go
section
def I4[dE](c:qh):Prop:=∃l,kO c.b=some l/\l.length<=maxLen/\(∀m∈l,0<=m/\m<=255)/\0<=c.i/\c.i<=c.b.n
def Dn[dE]{α:Type}(Q:α->Prop)(r:Option (List qh×α)):Prop:=∃c a,r=some ([c],a)/\I4 c/\Q a
section
variable [dE] {α β:Type} {Q:α->Prop} {Q':β->Prop}
theorem Dn.ret{c:qh}{a:α}(hc:I4 c)(h:Q a):Dn Q (some ([c],a)):=⟨c,a,rfl,hc,h⟩
theorem Dn.bind{r:Option (List qh×α)}{k:List qh×α->Option (List qh×β)}(h:Dn Q r)(hk: ∀c a,I4 c->Q a->Dn Q' (k ([c],a))):Dn Q' (r.bind k):=by obtain⟨c,a,rfl,h1,h2⟩:=h;exact hk c a h1 h2
theorem Dn.mono{Q2:α->Prop}{r:Option (List qh×α)}(h:Dn Q r)(hq: ∀a,Q a->Q2 a):Dn Q2 r:=by obtain⟨c,a,h1,h2,h3⟩:=h;exact⟨c,a,h1,h2,hq a h3⟩
theorem Dn.iteP{p:Prop}[Decidable p]{x y:Option (List qh×α)}(hp:p)(h:Dn Q x):Dn Q (iteP p x y):=by rw[B6 hp];exact h
theorem Dn.br{b:Bool}{x y:Option (List qh×α)}(h1:b=true->Dn Q x)(h2:b=false->Dn Q y):Dn Q (br b x y):=by
 cases b with
 |true=>exact h1 rfl
 |false=>exact h2 rfl
theorem Dn.get{γ:Type}{l:List γ}{i:Nat}{k:γ->Option (List qh×α)}(hi:i<l.length)(h: ∀x∈l,Dn Q (k x)):Dn Q ((l[i]?).bind k):=by rw[aq hi];exact h _ (DJ hi)
end
theorem UU(x:Int):0<=bits .and .i64 x 255/\bits .and .i64 x 255<=255:=by
 have h: (BitVec.ofInt 64 x&&& BitVec.ofInt 64 255).toNat<=255:=by rw[BitVec.toNat_and];exact Nat.and_le_right
 show 0<=IntKind.wrap .i64 _/\IntKind.wrap .i64 _<=255;have e:IntKind.wrap .i64 ((BitVec.ofInt 64 x&&& BitVec.ofInt 64 255).toNat:Int)=((BitVec.ofInt 64 x&&& BitVec.ofInt 64 255).toNat:Int):=vN (by omega) (by omega);have e2:bits .and .i64 x 255=IntKind.wrap .i64 ((BitVec.ofInt 64 x&&& BitVec.ofInt 64 255).toNat:Int):=rfl;rw[<-e2] at e;constructor
 ·show 0<=bits .and .i64 x 255;omega
 ·show bits .and .i64 x 255<=255;omega
theorem W6{x n:Int}(hx:0<=x)(hn:0<n):0<=x.tmod n/\x.tmod n<n:=⟨Int.tmod_nonneg _ hx,Int.tmod_lt_of_pos _ hn⟩
section
variable [dE]
theorem aa9{x:Hd}{l:List Int}(h:kO x=some l)(hl:l.length<=maxLen)(hb: ∀m∈l,0<=m/\m<=255):Dn (λ_:Unit=>True) (Ua x):=by unfold Ua C5;rw[h];exact⟨_,(),rfl,⟨l,h,hl,hb,cU _,DH _⟩,trivial⟩
theorem PN{c:qh}(h:I4 c):Dn (λy:Int×Unit=>0<=y.1/\y.1<=255) (Nt [c]):=by
 obtain⟨l,h1,h2,h3,h4,h5⟩:=h;show Dn _ ((CK c).map λy=>([y.1],y.2,()));unfold CK;have hlen:=(Bc h1).1;by_cases hi:c.i< (c.b.n:Int)
 ·rw[if_pos hi,if_pos h4,h1,ao,aq (by omega)];refine⟨_,_,rfl,⟨l,h1,h2,h3,?_,?_⟩,UU _⟩
  ·show 0<=RowKit.wrap64 (c.i+1);unfold RowKit.wrap64;simp only[maxLen] at h2;omega
  ·show RowKit.wrap64 (c.i+1)<=c.b.n;unfold RowKit.wrap64;simp only[maxLen] at h2;omega
 ·rw[if_neg hi];exact⟨_,_,rfl,⟨l,h1,h2,h3,h4,h5⟩,UU _⟩
theorem Np{c:qh}(h:I4 c)(n:Int):Dn (λy:Int×Unit=>0<=y.1/\(y.1<n\/n<=0/\y.1=0)) (EI [c] n):=by
 unfold EI;refine .br (λhn=> .ret h ⟨cU _,.inr ⟨of_decide_eq_true hn,rfl⟩⟩) λhn=> ?_;have hn:=of_decide_eq_false hn;refine .br (λ_=> .bind (PN h) λc1 y h1 hy=> .iteP rfl ?_) λ_=> .bind (PN h) λc1 y h1 hy=> .iteP rfl (.bind (PN h1) λc2 y2 h2 hy2=> .iteP rfl (.bind (PN h2) λc3 y3 h3 hy3=> .iteP rfl (.bind (PN h3) λc4 y4 h4 hy4=> .iteP rfl ?_)))
 ·rw[B4 (by omega)];have:=W6 hy.1 (show 0<n by omega);exact .ret h1 ⟨this.1,.inl this.2⟩
 ·rw[B4 (by omega)];simp only;rw[vN (n:=y.1*16777216) (by omega) (by omega),vN (n:=y2.1*65536) (by omega) (by omega),vN (n:=y3.1*256) (by omega) (by omega),vN (n:=y.1*16777216+y2.1*65536) (by omega) (by omega),vN (n:=y.1*16777216+y2.1*65536+y3.1*256) (by omega) (by omega),vN (n:=y.1*16777216+y2.1*65536+y3.1*256+y4.1) (by omega) (by omega)];have:=W6 (show 0<=y.1*16777216+y2.1*65536+y3.1*256+y4.1 by omega) (show 0<n by omega);exact .ret h4 ⟨this.1,.inl this.2⟩
theorem O1{c:qh}(h:I4 c){n:Int}(hn:0<n):Dn (λy:Int×Unit=>0<=y.1/\y.1<n) (EI [c] n):=(Np h n).mono λy hy=>⟨hy.1,by omega⟩
theorem RD{c:qh}(h:I4 c)(n:Int):Dn (λ_:Bool×Unit=>True) (Lo [c] n):=by unfold Lo;exact .bind (Np h n) λc1 y h1 hy=> .iteP rfl (.ret h1 trivial)
theorem UH{c:qh}(h:I4 c){l:List Int}(hl:l≠ []):Dn (λy:Int×Unit=>y.1∈l) (Jb [c] l):=by unfold Jb;have h0:0<l.length:=List.length_pos_iff.2 hl;refine .bind (O1 h (show 0< (l.length:Int) by omega)) λc1 y h1 hy=> .iteP rfl (.iteP hy.1 (.get (by show y.1.toNat<l.length;have:=hy.1;have:=hy.2;omega) λx hx=> .ret h1 hx))
theorem abI{c:qh}(h:I4 c):Dn (λ_:Op×Unit=>True) (Qj [c]):=by
 unfold Qj
 repeat first |exact .ret (by assumption) trivial|refine .iteP rfl ?_|refine .br (λ_=> ?_) λ_=> ?_|refine .bind (Np (by assumption) _) λ_ _ _ _=> ?_|refine .bind (RD (by assumption) _) λ_ _ _ _=> ?_|refine .bind (UH (by assumption) (by simp)) λ_ _ _ _=> ?_
theorem XS{c:qh}(h:I4 c):Dn (λ_:wN×Unit=>True) (Mn [c]):=by
 unfold Mn;dsimp only
 repeat first |exact .ret (by assumption) trivial|refine .iteP rfl ?_|refine .br (λ_=> ?_) λ_=> ?_|refine .bind (Np (by assumption) _) λ_ _ _ _=> ?_|refine .bind (RD (by assumption) _) λ_ _ _ _=> ?_|refine .bind (UH (by assumption) (by simp)) λ_ _ _ _=> ?_|refine .bind (abI (by assumption)) λ_ _ _ _=> ?_
def Ro{σ ε:Type}(I:σ->Prop)(E:ε->Prop)(r:Option (σ⊕ε)):Prop:=(∃s,r=some (.inl s)/\I s)\/ ∃e,r=some (.inr e)/\E e
section
variable {σ ε α:Type} {I:σ->Prop} {E:ε->Prop} {Q:α->Prop}
omit [dE] in
theorem Ro.again{s:σ}(h:I s):Ro I E (some (.inl s)):=.inl ⟨s,rfl,h⟩
omit [dE] in
theorem Ro.done{e:ε}(h:E e):Ro I E (some (.inr e)):=.inr ⟨e,rfl,h⟩
omit [dE] in
theorem Ro.iteP{p:Prop}[Decidable p]{x y:Option (σ⊕ε)}(hp:p)(h:Ro I E x):Ro I E (iteP p x y):=by rw[B6 hp];exact h
omit [dE] in
theorem Ro.br{b:Bool}{x y:Option (σ⊕ε)}(h1:b=true->Ro I E x)(h2:b=false->Ro I E y):Ro I E (br b x y):=by
 cases b with
 |true=>exact h1 rfl
 |false=>exact h2 rfl
theorem Ro.draw{r:Option (List qh×α)}{k:List qh×α->Option (σ⊕ε)}(h:Dn Q r)(hk: ∀c a,I4 c->Q a->Ro I E (k ([c],a))):Ro I E (r.bind k):=by obtain⟨c,a,rfl,h1,h2⟩:=h;exact hk c a h1 h2
omit [dE] in
theorem aaZ{B:σ->Option (σ⊕ε)}(μ:σ->Nat)(h: ∀s,I s->Ro (λs'=>I s'/\μ s'<μ s) E (B s)){s:σ}(hs:I s): ∃e,nx B s=some e/\E e:=
 CP I μ E (λs hs=>(h s hs).imp (λ⟨s',a,b,c⟩=>⟨s',a,b,c⟩) id) hs
end
theorem UY{c:qh}(h:I4 c){n:Int}(h0:0<=n){evs:List wN}{M:Nat}(hM:evs.length+n.toNat<=M)(hM2:M<=1000):Dn (λy:List wN×Unit=>y.1.length<=M) ((Ld (((),(),n,()),(()),[c],evs,())).bind λe=>some e.2.2):=by
 unfold Ld
 obtain⟨⟨_,_,l,ps,_⟩,h1,c2,rfl,h2,h3⟩:=aaZ (B:=Jr) (I:=λs=> ∃c,s.2.2.1= [c] /\I4 c/\0<=s.1.2.2.1/\s.2.2.2.1.length+s.1.2.2.1.toNat<=M) (E:=λe=> ∃c,e.2.2.1= [c] /\I4 c/\e.2.2.2.1.length<=M) (λs=>s.1.2.2.1.toNat) (by
  rintro⟨⟨_,_,k,_⟩,_,l,ps,_⟩ ⟨c,rfl,hc,h0,h1⟩
  simp only at h0 h1;unfold Jr;refine .br (λhk=> ?_) λhk=> .done ⟨c,rfl,hc,by show ps.length<=M;omega⟩;have hk:k>0:=of_decide_eq_true hk;have e:IntKind.wrap .i64 (k-1)=k-1:=vN (by omega) (by omega)
  have fA: ∀ (c:qh) (x:wN),I4 c->Ro (λs': (Unit×Unit×Int×Unit)×Unit×List qh×List wN×Unit=>(∃c,s'.2.2.1= [c] /\I4 c/\0<=s'.1.2.2.1/\s'.2.2.2.1.length+s'.1.2.2.1.toNat<=M)/\s'.1.2.2.1.toNat<k.toNat) (λe: (Unit×Unit)×Unit×List qh×List wN×Unit=> ∃c,e.2.2.1= [c] /\I4 c/\e.2.2.2.1.length<=M) (iteP ((ps++ [x]).length*80<=2 ^ 40) (some (.inl (((),(),IntKind.wrap .i64 (k-1),()),(()),[c],ps++ [x],()))) none):=λc x hc=>by refine .iteP (by simp only[bJ,cy];omega) (.again ?_);simp only[e];exact⟨⟨c,rfl,hc,by omega,by simp only[bJ,cy];omega⟩,by omega⟩
  refine .draw (XS hc) λc1 _ h1 _=> .iteP rfl (.br (λ_=> .draw (RD h1 _) λc2 _ h2 _=> .iteP rfl (.br (λ_=> .draw (UH h2 (by simp)) λc3 _ h3 _=> .iteP rfl (fA _ _ h3)) λ_=>fA _ _ h2)) λ_=>fA _ _ h1)) (s:=(((),(),n,()),(()),[c],evs,())) ⟨c,rfl,h,h0,hM⟩
 rw[h1];exact⟨c2,_,rfl,h2,h3⟩
theorem Xg{c:qh}(h:I4 c){n:Int}(h0:0<=n)(hn:n<=100):Dn (λy:List wN×Unit=>y.1.length<=200) (Lp [c] n):=by
 unfold Lp;rw[vN (n:=n+1) (by omega) (by omega)];refine .bind (Np h _) λc1 _ h1 _=> .iteP rfl (.bind (Np h1 _) λc2 _ h2 _=> .iteP rfl (.bind (RD h2 _) λc3 _ h3 _=> .iteP rfl (.br (λ_=> ?_) λ_=> ?_)))
 ·exact .bind (O1 h3 (by omega)) λc4 y h4 hy=> .iteP rfl (UY h4 hy.1 (by have:=hy.2;simp only[bD,bU];omega) (by omega))
 ·exact .bind (O1 h3 (by omega)) λc4 y h4 hy=> .iteP rfl (UY h4 hy.1 (by have:=hy.2;simp only[bD,bU];omega) (by omega))
end
end
section
def FX(M:Nat)(c:nF):Prop:=c.replicas.length<=M/\c.witnesses.length<=M
def EA(M:Nat)(s:qj):Prop:=FX M s.config/\s.log.length<=M/\s.learned.length<=M
def NY(M:Nat)(m:jY):Prop:=m.configs.length<=M/\ ∀c∈m.configs,FX M c
def Ez(M:Nat)(c:qg):Prop:=(c.servers.length<=M/\ ∀s∈c.servers,EA M s)/\c.sides.length<=M/\NY M c.master/\c.places.length<=M
theorem Ep{n:Nat}(h:n<=1048576):n<=maxLen:=by unfold maxLen;omega
end
section
theorem G4{ρ:Type}(a b:Int)(x y:ρ):br (a==b) x y=if a=b then x else y:=by rw[C2];by_cases h:a=b<;>simp[h]
theorem Ef{ρ:Type}(b:Bool)(x y:ρ):br (!b) x y=br b y x:=by cases b<;>rfl
def GG(x a b:Int):Bool:=decide (a<=x)&&decide (x<=b)
theorem EM(x a b:Int):Em x a b=some (GG x a b,()):=by unfold Em GG;rw[C1];split<;>rename_i h<;>simp[h]
theorem Jo(x a b:Int):Eu x a b=some (GG x a b,()):=by unfold Eu GG;rw[C1];split<;>rename_i h<;>simp[h]
theorem Eg{x a b:Int}:GG x a b=true↔a<=x/\x<=b:=by simp[GG]
def NQ(l:List Int):Prop:=∀k (h:k<l.length),(0<=l[k] /\l[k] <=4)/\ ∀_:0<k,l[k-1]'(by omega)<l[k]
theorem NR(l:List Int)(hl:l.length<=maxLen): (FJ l=some (true,())/\G5 l=some (true,())/\NQ l)\/(FJ l=some (false,())/\G5 l=some (false,())):=by
 have fA:=CQ (B1:=F7) (B2:=F6) l.length (λk=>((l,(k:Int),()),(),())) (λk=>((l,l,(l.length:Int),(k:Int),()),(),())) (.inr (((),()),(),())) (.inr (((),()),(),())) (λ_=> .inl ((false,()),(),())) (λ_=> .inl ((false,()),(),()))
  (λk=> ∀h:k<l.length,(0<=l[k] /\l[k] <=4)/\ ∀_:0<k,l[k-1]'(by omega)<l[k]) (λ_=>True)
  (by simp only[F7];rw[C1,if_neg (by omega)])
  (by simp only[F6];rw[C1,if_neg (by omega)])
  (λk hk=>by
    have c1: (k:Int)< (l.length:Int):=by omega
    have c2: (0:Int)<=(k:Int):=by omega
    have e1:l[k]? =some l[k] :=aq hk;simp only[F7,F6,C1,B3,if_pos c1,if_pos c2,DG,e1,ao,EM,Jo];cases hw:GG l[k] 0 4 with
    |false=>exact .inr ⟨rfl,rfl,trivial⟩
    |true=>
     simp only[df,BK];have hw:=Eg.1 hw;by_cases h0:0<k
     ·have c3: (k:Int)>0:=by omega
      have c4: (0:Int)<=((k-1:Nat):Int):=by omega
      have e2:l[k-1]? =some l[k-1] :=aq (by omega);simp only[if_pos c3,BH h0 (by omega),if_pos c4,DG,e2,ao];by_cases hlt:l[k-1]<l[k]
      ·rw[if_neg (by omega),if_neg (by omega),BI hl hk];exact .inl ⟨rfl,rfl,λ_=>⟨hw,λ_=>hlt⟩⟩
      ·rw[if_pos (by omega),if_pos (by omega)];exact .inr ⟨rfl,rfl,trivial⟩
     ·rw[if_neg (by omega),if_neg (by omega),BI hl hk];exact .inl ⟨rfl,rfl,λ_=>⟨hw,λh=>absurd h h0⟩⟩)
 unfold FJ G5;rcases fA with ⟨k1,k2,k3⟩| ⟨k,_,k1,k2,_⟩
 ·rw[show Kq ((l,0,()),(),())=_ from k1,show Kn ((l,l,(l.length:Int),0,()),(),())=_ from k2];exact .inl ⟨rfl,rfl,λk hk=>k3 k hk hk⟩
 ·rw[show Kq ((l,0,()),(),())=_ from k1,show Kn ((l,l,(l.length:Int),0,()),(),())=_ from k2];exact .inr ⟨rfl,rfl⟩
theorem NQ.lt{l:List Int}(h:NQ l): ∀ (d i:Nat) (h2:i+d+1<l.length),l[i]'(by omega)<l[i+d+1] :=by
 intro d
 induction d with
 |zero=>intro i h2;exact (h (i+1) h2).2 (by omega)
 |succ d ih=>intro i h2;have h1:=ih i (by omega);have h3:=(h (i+d+1+1) h2).2 (by omega);exact Int.lt_trans h1 h3
theorem NQ.pair{l:List Int}(h:NQ l):l.Pairwise (· < ·):=by rw[DQ];intro i j hi hj hij;have:=h.lt (j-i-1) i (by omega);simpa [show i+(j-i-1)+1=j by omega] using this
theorem NQ.len{l:List Int}(h:NQ l):l.length<=5:=by
 have ge: ∀k (hk:k<l.length),(k:Int)<=l[k] :=by
  intro k
  induction k with
  |zero=>intro hk;exact (h 0 hk).1.1
  |succ k ih=>intro hk;have h1:=ih (by omega);have h2:=(h (k+1) hk).2 (by omega);simp only[bK] at h2;omega
 rcases cY 5 l.length with hlt|hge
 ·have h1:=ge 5 hlt;have h2:=(h 5 hlt).1.2;omega
 ·exact hge
theorem EG(l:List Int)(x:Int)(hl:l.length<=maxLen):Fi l x=some (decide (x∈l),())/\HG l x=some (decide (x∈l),()):=by
 have fA:=CQ (B1:=IR) (B2:=H5) l.length (λk=>((l,x,(k:Int),()),(),())) (λk=>((l,x,(l.length:Int),(k:Int),()),(),())) (.inr (((),()),(),())) (.inr (((),()),(),())) (λ_=> .inl ((true,()),(),())) (λk=> .inl (((k:Int),()),(),()))
  (λk=>l[k]? ≠some x) (λk=>l[k]? =some x)
  (by simp only[IR];rw[C1,if_neg (by omega)])
  (by simp only[H5];rw[C1,if_neg (by omega)])
  (λk hk=>by
    have c1: (k:Int)< (l.length:Int):=by omega
    have c2: (0:Int)<=(k:Int):=by omega
    have e1:l[k]? =some l[k] :=aq hk;simp only[IR,H5,C1,B3,if_pos c1,if_pos c2,DG,e1,ao,BI hl hk,G4];by_cases he:l[k] =x
    ·rw[if_pos he,if_pos he.symm,he];exact .inr ⟨rfl,rfl,rfl⟩
    ·rw[if_neg he,if_neg (λh=>he h.symm)];exact .inl ⟨rfl,rfl,λh=>he (Option.some.inj h)⟩)
 unfold Fi HG JF LZ;rcases fA with ⟨k1,k2,k3⟩| ⟨k,hk,k1,k2,k3⟩
 ·rw[show Nf ((l,x,0,()),(),())=_ from k1,show Mz ((l,x,(l.length:Int),0,()),(),())=_ from k2]
  have hn:x∉l:=λh=>by obtain⟨k,hk,he⟩:=aU h;exact k3 k hk (by rw[aq hk,he])
  rw[decide_eq_false hn];exact⟨rfl,rfl⟩
 ·rw[show Nf ((l,x,0,()),(),())=_ from k1,show Mz ((l,x,(l.length:Int),0,()),(),())=_ from k2];rw[decide_eq_true (aA k3)];refine⟨rfl,?_⟩;simp only[ao,DU];rw[decide_eq_true (by omega)]
end
section
theorem IC{n:Nat}(h:n<=1048576):n*8<=2 ^ 40:=by
 have : (2:Nat) ^ 40=1099511627776:=by decide
 omega
theorem UJ(l:List Int)(x:Int)(hl:l.length<=1000)(h: ∀y∈l,y<x):I0 l x=some (l++ [x],()):=by
 have hm:l.length<=maxLen:=by unfold maxLen;omega
 have fA:=B8 (B:=Jj) l (λk (_:Unit)=>((l,x,(k:Int),()),(),())) (λ_ _=>True) (λk r _=>((l,x,((k+r.length:Nat):Int),()),(),()))
  (λb hb=>by simp only[Jj];rw[C1,if_neg (by omega)];rfl)
  (λk b y hy hb=>by
    have hk:=C8 hy;have c1: (k:Int)< (l.length:Int):=by omega
    have c2: (0:Int)<=(k:Int):=by omega
    refine .inl ⟨(),?_,trivial,?_⟩
    ·simp only[Jj,C1,B3,if_pos c1,if_pos c2,DG,hy,ao,if_pos (h y (aA hy)),BI hm hk]
    ·rw[bD,show k+((l.drop (k+1)).length+1)=k+1+(l.drop (k+1)).length by omega])
  0 () (bM _) trivial
 unfold I0;rw[show Qw ((l,x,0,()),(),())=_ from fA];simp only[ao,cE,aP];have c0: ¬ ((l.length:Int)< (l.length:Int)):=by omega
 have d1: (0:Int)<=0/\(0:Int)<=(l.length:Int)/\(l.length:Int)<=(l.length:Int):=by omega
 have d2: (0:Int)<=(l.length:Int)/\(l.length:Int)<=(l.length:Int)/\(l.length:Int)<=(l.length:Int):=by omega
 simp only[C1,if_neg c0,B3,if_pos d1,if_pos d2,DG,D7,cE,D0,cZ,dw,bP,DP,bF];rw[if_pos (IC (by omega)),if_pos (IC (by simp;omega))];exact if_pos (IC (by simp;omega))
theorem RE(a b:List Int)(ha:NQ a)(hb:b.length<=maxLen):GY a b=some (a.filter λx=>decide (x∈b),()):=by
 have hl:=ha.len;have hm:a.length<=maxLen:=by unfold maxLen;omega
 have hp:=ha.pair
 have fA:=B8 (B:=GQ) a (λk (out:List Int)=>((a,b,(),(k:Int),()),(),(out,()))) (λk out=>out=(a.take k).filter λx=>decide (x∈b)) (λk r out=>(((),()),(),(out++r.filter λx=>decide (x∈b),())))
  (λout hb=>by simp only[GQ];rw[C1,if_neg (by omega)];simp)
  (λk out x hx hout=>by
    have hk:=C8 hx;have c1: (k:Int)< (a.length:Int):=by omega
    have c2: (0:Int)<=(k:Int):=by omega
    have hxe:a[k] =x:=by rw[aq hk] at hx;exact Option.some.inj hx
    simp only[GQ,C1,B3,if_pos c1,if_pos c2,DG,hx,ao,(EG b x hb).1,BI hm hk];by_cases hin:x∈b
    ·have hlt: ∀y∈out,y<x:=by
      intro y hy;rw[hout,D6] at hy;obtain⟨i,hi,he⟩:=aU hy.1;have hi':i<k:=by simp at hi;omega
      rw[D4] at he;rw[<-he,<-hxe];exact DQ.1 hp i k (by omega) hk hi'
     have hol:out.length<=1000:=by rw[hout];have:=D8 (λx=>decide (x∈b)) (a.take k);simp at this;omega
     simp only[if_pos hin,UJ out x hol hlt,ao];refine .inl ⟨out++ [x],rfl,?_,?_⟩
     ·rw[hout,DR,hx,DW];simp[hin]
     ·simp[hin]
    ·simp only[if_neg hin];refine .inl ⟨out,rfl,?_,?_⟩
     ·rw[hout,DR,hx,DW];simp[hin]
     ·simp[hin])
  0 [] (bM _) rfl
 unfold GY;rw[show M1 ((a,b,(),0,()),(),([],()))=_ from fA];rfl
theorem RI{n:Nat}(hn:n<=5): ∃m,Oc (IntKind.wrap .u64 (n:Int))=some (m,()):=by
 have :n=0\/n=1\/n=2\/n=3\/n=4\/n=5:=by omega
 rcases this with rfl|rfl|rfl|rfl|rfl|rfl
 ·exact⟨0,by kernel_rfl⟩
 ·exact⟨1,by kernel_rfl⟩
 ·exact⟨2,by kernel_rfl⟩
 ·exact⟨2,by kernel_rfl⟩
 ·exact⟨3,by kernel_rfl⟩
 ·exact⟨3,by kernel_rfl⟩
theorem Xk(l:List Int)(ha:NQ l):EJ l 0 (l.length:Int)=some (l,()):=by
 have hl:=ha.len;have hm:l.length<=maxLen:=by unfold maxLen;omega
 have inner: ∀k (hk:k<l.length),0<k->FD (((),0,(l.length:Int),(k:Int),(k:Int),()),(),(l,()))=some (((),0,(l.length:Int),(k:Int),()),(),(l,())):=by
  intro k hk h0;refine lM ?_;have c1: (k:Int)>0:=by omega
  have c2: (0:Int)<=(k:Int)/\(k:Int)< (l.length:Int):=by omega
  have c3: (0:Int)<=((k-1:Nat):Int)/\((k-1:Nat):Int)< (l.length:Int):=by omega
  have e1:l[k]? =some l[k] :=aq hk;have e2:l[k-1]? =some l[k-1] :=aq (by omega);have hlt:=(ha k hk).2 h0
  have less:It l[k] l[k-1] =some (false,()):=by unfold It IU;simp only[beq_self_eq_true,df,ao,BK];rw[decide_eq_false (by omega)]
  simp only[EE,C1,B3,if_pos c1,if_pos c2,BH h0 (by omega),if_pos c3,DG,e1,e2,ao,less,BK]
 have outer:=CP (B:=Eo) (λs=> ∃k:Nat,0<k/\s=(((),0,(l.length:Int),(k:Int),()),(),(l,()))) (λs=>l.length-s.1.2.2.2.1.toNat) (λe=>e=((()),(),(l,())))
  (λs hs=>by
    obtain⟨k,h0,rfl⟩:=hs;by_cases hk:k<l.length
    ·have c1: (k:Int)< (l.length:Int):=by omega
     refine .inl ⟨(((),0,(l.length:Int),((k+1:Nat):Int),()),(),(l,())),?_,⟨k+1,by omega,rfl⟩,?_⟩
     ·simp only[Eo,C1,if_pos c1,inner k hk h0,ao,BI hm hk]
     ·simp only[DG];omega
    ·have c1: ¬ (k:Int)< (l.length:Int):=by omega
     exact .inr ⟨_,by simp only[Eo,C1,if_neg c1],rfl⟩)
  (s:=(((),0,(l.length:Int),((1:Nat):Int),()),(),(l,()))) ⟨1,by omega,rfl⟩
 obtain⟨e,h1,rfl⟩:=outer;unfold EJ;rw[show IntKind.wrap .i64 ((0:Int)+1)=((1:Nat):Int) from by rw[vN (by omega) (by omega)];rfl,show FC (((),0,(l.length:Int),((1:Nat):Int),()),(),(l,()))=_ from h1];rfl
theorem YS(l:List Int)(ha:NQ l):Hl l=some (l,()):=by
 have hl:=ha.len;obtain⟨m,hm⟩:=RI hl
 have hp:Fk l 0 (l.length:Int) m=some (l,()):=by
  unfold Fk
  have :Hm (((),0,(l.length:Int),m,true,true,()),(),(l,()))=some ((()),(),(l,())):=by refine lM ?_;simp only[FE];rw[vN (by omega) (by omega),C1,if_pos (by omega),Xk l ha,ao,B6 rfl]
  rw[this];rfl
 unfold Hl;simp only[hm,ao,hp];exact B6 trivial _ _
theorem UX(l:List Int)(ha:NQ l):Gi l=some (l,()):=by
 have hl:=ha.len;have hm:l.length<=maxLen:=by unfold maxLen;omega
 unfold Gi;rw[C1];split
 ·rfl
 ·have fA:=CP (B:=Fc) (λs=> ∃k:Nat,0<k/\k<=l.length/\s=(((),(k:Int),()),(),(l,()))) (λs=>l.length-s.1.2.1.toNat) (λe=>e= .inr (((),(),()),(),(l,())))
   (λs hs=>by
     obtain⟨k,h0,hkl,rfl⟩:=hs;by_cases hk:k<l.length
     ·have c1: (k:Int)< (l.length:Int):=by omega
      have c2: (0:Int)<=(k:Int)/\(k:Int)< (l.length:Int):=by omega
      have c3: (0:Int)<=((k-1:Nat):Int)/\((k-1:Nat):Int)< (l.length:Int):=by omega
      have e1:l[k]? =some l[k] :=aq hk;have e2:l[k-1]? =some l[k-1] :=aq (by omega);have hlt:=(ha k hk).2 h0;refine .inl ⟨(((),((k+1:Nat):Int),()),(),(l,())),?_,⟨k+1,by omega,by omega,rfl⟩,?_⟩
      ·simp only[Fc,C1,B3,if_pos c1,if_pos c2,BH h0 (by omega),if_pos c3,DG,e1,e2,ao,G4,BI hm hk];rw[if_neg (by omega)]
      ·simp only[DG];omega
     ·have c1: ¬ (k:Int)< (l.length:Int):=by omega
      exact .inr ⟨_,by simp only[Fc,C1,if_neg c1],rfl⟩)
   (s:=(((),((1:Nat):Int),()),(),(l,()))) ⟨1,by omega,by omega,rfl⟩
  obtain⟨e,h1,rfl⟩:=fA;rw[show Jp (((),1,()),(),(l,()))=_ from h1];rfl
theorem Xb(l:List Int)(ha:NQ l):Io l=some (l,()):=by have hl:=ha.len;unfold Io IA;rw[B6 (IC (by omega)),ao,YS l ha,ao,B6 rfl,UX l ha];rfl
end
section
theorem Ko{σ ε:Type}{B:σ->Option (σ⊕ε)}(n:Nat)(m:Nat->σ)(t:ε)(f:Nat->ε)(p:Nat->Bool)(h0:B (m n)=some (.inr t))(h: ∀k,k<n->B (m k)=some (if p k=true then .inr (f k) else .inl (m (k+1)))):
  (nx B (m 0)=some t/\ ∀k,k<n->p k=false)\/ ∃k,k<n/\nx B (m 0)=some (f k)/\p k=true/\ ∀j,j<k->p j=false:=by
 have fA: ∀d j,j+d=n->(nx B (m j)=some t/\ ∀k,j<=k->k<n->p k=false)\/ ∃k,k<n/\nx B (m j)=some (f k)/\p k=true/\ ∀i,j<=i->i<k->p i=false:=by
  intro d
  induction d with
  |zero=>
   intro j hj;have :j=n:=by omega
   subst this;exact .inl ⟨lM h0,λk a b=>by omega⟩
  |succ d ih=>
   intro j hj;have h1:=h j (by omega);cases hp:p j with
   |true=>rw[hp,if_pos rfl] at h1;exact .inr ⟨j,by omega,lM h1,hp,λi a b=>by omega⟩
   |false=>
    rw[hp,if_neg (by simp)] at h1;rw[sr h1];rcases ih (j+1) (by omega) with ⟨k1,k2⟩| ⟨k,k0,k1,k2,k3⟩
    ·refine .inl ⟨k1,λk a b=> ?_⟩;rcases Nat.eq_or_lt_of_le a with rfl|a
     ·exact hp
     ·exact k2 k a b
    ·refine .inr ⟨k,k0,k1,k2,λi a b=> ?_⟩;rcases Nat.eq_or_lt_of_le a with rfl|a
     ·exact hp
     ·exact k3 i a b
 rcases fA n 0 (by omega) with ⟨a,b⟩| ⟨k,a,b,c,d⟩
 ·exact .inl ⟨a,λk hk=>b k (bM _) hk⟩
 ·exact .inr ⟨k,a,b,c,λj hj=>d j (bM _) hj⟩
theorem MZ{σ1 ε1 σ2 ε2 β:Type}{B1:σ1->Option (σ1⊕ε1)}{B2:σ2->Option (σ2⊕ε2)}(n:Nat)(m1:Nat->β->σ1)(m2:Nat->β->σ2)(J:Nat->β->Prop)(E1:β->ε1)(E2:β->ε2)
  (h0: ∀b,J n b->B1 (m1 n b)=some (.inr (E1 b))/\B2 (m2 n b)=some (.inr (E2 b)))
  (h1: ∀k b,k<n->J k b-> ∃b',B1 (m1 k b)=some (.inl (m1 (k+1) b'))/\B2 (m2 k b)=some (.inl (m2 (k+1) b'))/\J (k+1) b')
  (b:β) (hb:J 0 b): ∃b',J n b'/\nx B1 (m1 0 b)=some (E1 b')/\nx B2 (m2 0 b)=some (E2 b'):=by
 have go: ∀ (d k:Nat) (b:β),k+d=n->J k b-> ∃b',J n b'/\nx B1 (m1 k b)=some (E1 b')/\nx B2 (m2 k b)=some (E2 b'):=by
  intro d
  induction d with
  |zero=>
   intro k b hk hj;have :k=n:=by omega
   subst this;exact⟨b,hj,lM (h0 b hj).1,lM (h0 b hj).2⟩
  |succ d ih=>intro k b hk hj;obtain⟨b',p1,p2,p3⟩:=h1 k b (by omega) hj;obtain⟨c,q1,q2,q3⟩:=ih (k+1) b' (by omega) p3;exact⟨c,q1,by rw[sr p1];exact q2,by rw[sr p2];exact q3⟩
 exact go n 0 b (by omega) hb
theorem QL{l:List Int}{p:Int->Bool}(h: ∀x∈l,p x=true):l.filter p=l:=List.filter_eq_self.2 h
theorem VQ(a b:List Int)(ha:a.length<=1000)(hb:b.length<=maxLen):EK a b=some (a.filter λx=> !decide (x∈b),()):=by
 have hm:a.length<=maxLen:=by unfold maxLen;omega
 have hm':a.length<=9223372036854775807:=hm
 have has: ∀x,Gm x b=some (decide (x∈b),()):=by intro x;unfold Gm;rw[(EG b x hb).2];rfl
 have find:=Ko (B:=ED) a.length (λk=>((a,(b,()),(a.length:Int),(k:Int),()),(),())) (.inr (((),()),(),())) (λk=> .inl (((k:Int),()),(),())) (λk=>match a[k]? with |some x=>decide (x∈b)|none=>false)
  (by simp only[ED];rw[C1,if_neg (by omega)])
  (λk hk=>by
    have c1: (k:Int)< (a.length:Int):=by omega
    have c2: (0:Int)<=(k:Int):=by omega
    simp only[ED,C1,B3,if_pos c1,if_pos c2,DG,aq hk,ao,has,BI hm hk];by_cases hin:a[k] ∈b<;>simp[hin])
 unfold EK Ft;rcases find with ⟨k1,k2⟩| ⟨i,hi,k1,k2,k3⟩
 ·rw[show FM ((a,(b,()),(a.length:Int),0,()),(),())=_ from k1];simp only[ao,DZ,beq_self_eq_true,CJ];rw[QL λx hx=> ?_];obtain⟨k,hk,rfl⟩:=aU hx;have:=k2 k hk;rw[aq hk] at this;simpa using this
 ·rw[show FM ((a,(b,()),(a.length:Int),0,()),(),())=_ from k1]
  have hne: ((i:Int)== -1)=false:=by simp only[beq_eq_false_iff_ne,ne_eq];omega
  simp only[ao,DU,hne,BK,BI hm hi];rw[aq hi] at k2
  have loop:=CP (B:=Ey) (λs=> ∃ (i j:Nat) (v:List Int),s=(((),(b,()),(i:Int),(j:Int),()),(),(v,()))/\i<=j/\j<=a.length/\v.length=a.length/\v.take i=(a.take j).filter (λx=> !decide (x∈b))/\v.drop j=a.drop j) (λs=>a.length-s.1.2.2.2.1.toNat)
   (λe=> ∃ (i:Nat) (v:List Int),e=(((),(i:Int),()),(),(v,()))/\i<=a.length/\v.length=a.length/\v.take i=a.filter (λx=> !decide (x∈b)))
   (λs hs=>by
     obtain⟨i,j,v,rfl,hij,hj,hv,ht,hd⟩:=hs;by_cases hlt:j<a.length
     ·have c1: (j:Int)< (v.length:Int):=by omega
      have c2: (0:Int)<=(j:Int)/\(j:Int)< (v.length:Int):=by omega
      have c3: (0:Int)<=(i:Int)/\(i:Int)< (v.length:Int):=by omega
      have e1:v[j]? =some a[j] :=by have:=congrArg (λl:List Int=>l[0]?) hd;simpa [bf,aq hlt] using this
      have e2:v[i]? =some (v[i]'(by omega)):=aq _;have hta:a.take (j+1)=a.take j++ [a[j]] :=by rw[DR,aq hlt];rfl
      have hdd:v.drop (j+1)=a.drop (j+1):=by have:=congrArg (List.drop 1) hd;simpa [cn,bX] using this
      left;simp only[Ey,C1,B3,if_pos c1,if_pos c2,DG,e1,ao,has,if_pos c3,e2,BI hm hlt,Ef,BI hm (show i<a.length by omega)];by_cases hin:a[j] ∈b
      ·rw[if_pos hin];refine⟨_,rfl,⟨i,j+1,v,rfl,by omega,by omega,hv,?_,hdd⟩,?_⟩
       ·rw[ht,hta,DW];simp[hin]
       ·simp only[DG];omega
      ·rw[if_neg hin];refine⟨_,rfl,⟨i+1,j+1,v.set i a[j],rfl,by omega,by omega,by simp[hv],?_,?_⟩,?_⟩
       ·rw[yJ _ (by omega),ht,hta,DW];simp[hin]
       ·rw[List.drop_set_of_lt (by omega),hdd]
       ·simp only[DG];omega
     ·have :j=a.length:=by omega
      subst this;right;refine⟨_,by simp only[Ey];rw[C1,if_neg (by omega)],⟨i,v,rfl,hij,hv,?_⟩⟩;rw[ht,DP])
   (s:=(((),(b,()),(i:Int),((i+1:Nat):Int),()),(),(a,()))) ⟨i,i+1,a,rfl,by omega,by omega,rfl,by
     have hta:a.take (i+1)=a.take i++ [a[i]] :=by rw[DR,aq hi];rfl
     rw[hta,DW,QL (l:=a.take i) λx hx=> ?_]
     ·simp only[decide_eq_true_eq] at k2;simp[k2]
     ·obtain⟨j,hj,rfl⟩:=aU hx;have hj':j<i:=by simp at hj;omega
      have:=k3 j hj';rw[aq (by omega)] at this;rw[D4];simpa using this,rfl⟩
  obtain⟨e,h1,i',v,rfl,h2,h3,h4⟩:=loop;rw[show Gq (((),(b,()),(i:Int),((i+1:Nat):Int),()),(),(a,()))=_ from h1];have d1: (0:Int)<=(i':Int)/\(i':Int)<=(v.length:Int)/\(v.length:Int)<=((v.length:Nat):Int):=by omega
  have d2:i'+(v.length-i')<=v.length:=by omega
  have d3: (0:Int)<=0/\(0:Int)<=(i':Int)/\(i':Int)<=((v.length:Nat):Int):=by omega
  simp only[ao,DG,D7,aP,D0,B3,if_pos d1,if_pos d2,if_pos d3];rw[if_pos ⟨trivial,by simp;omega⟩];rw[bi,List.take_append_of_le_length (by simp;omega),List.take_take,Nat.min_self,h4]
theorem UZ(a b:List Int)(ha:NQ a)(hb:b.length<=maxLen):Hg a b=some (a.filter λx=> !decide (x∈b),()):=by have hl:=ha.len;unfold Hg;rw[Xb a ha,ao,VQ a b (by omega) hb];rfl
theorem Zk(a b:List Int)(ha:NQ a)(hb:b.length<=maxLen):IG a b=some (a.filter λx=>decide (x∈b),()):=by
 have hl:=ha.len;unfold IG;rw[UZ a b ha hb];simp only[ao]
 rw[UZ a (a.filter λx=> !decide (x∈b)) ha (by have:=D8 (λx=> !decide (x∈b)) a;unfold maxLen;omega)]
 simp only[ao]
 congr 2
 apply List.filter_congr;intro x hx;simp[D6,hx]
theorem GP(c:nF)(h:FX maxLen c):Dj (Ek c) (GX c):=by
 unfold Ek GX;simp only[EM,Jo,ao];cases GG c.epoch 1 20 with
 |false=>exact⟨_,rfl,rfl⟩
 |true=>
  rcases NR c.replicas h.1 with ⟨a1,a2,a3⟩| ⟨a1,a2⟩
  ·rcases NR c.witnesses h.2 with ⟨b1,b2,b3⟩| ⟨b1,b2⟩
   ·simp only[a1,a2,b1,b2,ao,CJ,(EG c.replicas c.primary h.1).1,(EG c.replicas c.primary h.1).2,RE _ _ a3 h.2,Zk _ _ a3 h.2];cases decide (c.primary∈c.replicas)<;>exact⟨_,rfl,rfl⟩
   ·simp only[a1,a2,b1,b2,ao,CJ,BK];exact⟨_,rfl,rfl⟩
  ·simp only[a1,a2,ao,CJ,BK];exact⟨_,rfl,rfl⟩
end
section
theorem Le(l:List Int)(hl:l.length<=maxLen):Dj (Fu l) (JK l):=by
 have fA:=CQ (B1:=HD) (B2:=EZ) l.length (λk=>((l,(k:Int),()),(),())) (λk=>((l,(),(l.length:Int),(k:Int),()),(),())) (.inr ((l,(),()),(),())) (.inr (((),()),(),())) (λ_=> .inl ((l,false,()),(),())) (λk=> .inl (((k:Int),()),(),()))
  (λ_=>True) (λ_=>True)
  (by simp only[HD];rw[C1,if_neg (by omega)])
  (by simp only[EZ];rw[C1,if_neg (by omega)])
  (λk hk=>by
    have c1: (k:Int)< (l.length:Int):=by omega
    have c2: (0:Int)<=(k:Int):=by omega
    simp only[HD,EZ,C1,B3,if_pos c1,if_pos c2,DG,aq hk,ao,K6,EM,Jo,BI hl hk];cases GG l[k] 0 3 with
    |false=>exact .inr ⟨rfl,rfl,trivial⟩
    |true=>exact .inl ⟨rfl,rfl,trivial⟩)
 unfold Fu JK FA FQ;rcases fA with ⟨k1,k2,_⟩| ⟨k,_,k1,k2,_⟩
 ·rw[show NW ((l,0,()),(),())=_ from k1,show Gv ((l,(),(l.length:Int),0,()),(),())=_ from k2];simp only[ao,DZ];cases ((l.length:Int)==5)<;>exact⟨_,rfl,rfl⟩
 ·rw[show NW ((l,0,()),(),())=_ from k1,show Gv ((l,(),(l.length:Int),0,()),(),())=_ from k2];simp only[ao,DU];rw[decide_eq_true (by omega)];cases ((l.length:Int)==5)<;>exact⟨_,rfl,rfl⟩
theorem masterLog(m:jY)(h:NY maxLen m): ∃b,Er m=some (b,())/\HM m=some (b,()):=by
 obtain⟨hl,hc⟩:=h
 have fA:=CQ (B1:=Fe) (B2:=Ht) m.configs.length (λk=>(((),(k:Int),()),((m.configs,m.activated,()),()),())) (λk=>(((),m.configs,(m.configs.length:Int),(k:Int),()),((m.configs,m.activated,()),()),())) (.inr (((),(),()),((m.configs,m.activated,()),()),())) (.inr (((),(),()),((m.configs,m.activated,()),()),())) (λ_=> .inl (((),false,()),((m.configs,m.activated,()),()),())) (λ_=> .inl (((),false,()),((m.configs,m.activated,()),()),()))
  (λ_=>True) (λ_=>True)
  (by simp only[Fe];rw[C1,if_neg (by omega)])
  (by simp only[Ht];rw[C1,if_neg (by omega)])
  (λk hk=>by
    have c1: (k:Int)< (m.configs.length:Int):=by omega
    have c2: (0:Int)<=(k:Int):=by omega
    obtain⟨b,v1,v2⟩:=GP m.configs[k] (hc _ (DJ hk));simp only[Fe,Ht,C1,B3,if_pos c1,if_pos c2,DG,aq hk,ao,v1,v2,BI hl hk,Ef];cases b with
    |false=>exact .inr ⟨rfl,rfl,trivial⟩
    |true=>
     cases (m.configs[k].epoch==((k+1:Nat):Int)) with
     |false=>exact .inr ⟨rfl,rfl,trivial⟩
     |true=>exact .inl ⟨rfl,rfl,trivial⟩)
 unfold Er HM;rcases fA with ⟨k1,k2,_⟩| ⟨k,_,k1,k2,_⟩
 ·rw[show IK (((),0,()),((m.configs,m.activated,()),()),())=_ from k1,show LA (((),m.configs,(m.configs.length:Int),0,()),((m.configs,m.activated,()),()),())=_ from k2];simp only[ao,DZ,EM,Jo];exact⟨_,rfl,rfl⟩
 ·rw[show IK (((),0,()),((m.configs,m.activated,()),()),())=_ from k1,show LA (((),m.configs,(m.configs.length:Int),0,()),((m.configs,m.activated,()),()),())=_ from k2];exact⟨_,rfl,rfl⟩
theorem MW(x:uL):Dj (FR x) (GS x):=by unfold FR GS;simp only[EM,Jo,ao];cases ((x.epoch==0)&&((x.holder==0)&&((x.ends==0)&&true)))<;>cases GG x.epoch 1 20<;>cases GG x.holder 0 4<;>exact⟨_,rfl,rfl⟩
theorem KF(l:List uO)(hl:l.length<=maxLen):Dj (Fb l) (JV l):=by
 have fA:=CQ (B1:=HL) (B2:=EH) l.length (λk=>((l,(k:Int),()),(),())) (λk=>((l,(),(l.length:Int),(k:Int),()),(),())) (.inr ((l,(),()),(),())) (.inr (((),()),(),())) (λ_=> .inl ((l,false,()),(),())) (λk=> .inl (((k:Int),()),(),()))
  (λ_=>True) (λ_=>True)
  (by simp only[HL];rw[C1,if_neg (by omega)])
  (by simp only[EH];rw[C1,if_neg (by omega)])
  (λk hk=>by
    have c1: (k:Int)< (l.length:Int):=by omega
    have c2: (0:Int)<=(k:Int):=by omega
    simp only[HL,EH,C1,B3,if_pos c1,if_pos c2,DG,aq hk,ao,J6,EM,Jo,BI hl hk];cases GG l[k].rack 0 9 with
    |false=>exact .inr ⟨rfl,rfl,trivial⟩
    |true=>
     cases GG l[k].capacity 0 9 with
     |false=>exact .inr ⟨rfl,rfl,trivial⟩
     |true=>
      cases GG l[k].load 0 99 with
      |false=>exact .inr ⟨rfl,rfl,trivial⟩
      |true=>exact .inl ⟨rfl,rfl,trivial⟩)
 unfold Fb JV Fr FB;rcases fA with ⟨k1,k2,_⟩| ⟨k,_,k1,k2,_⟩
 ·rw[show Nd ((l,0,()),(),())=_ from k1,show F1 ((l,(),(l.length:Int),0,()),(),())=_ from k2];simp only[ao,DZ];cases ((l.length:Int)==5)<;>exact⟨_,rfl,rfl⟩
 ·rw[show Nd ((l,0,()),(),())=_ from k1,show F1 ((l,(),(l.length:Int),0,()),(),())=_ from k2];simp only[ao,DU];rw[decide_eq_true (by omega)];cases ((l.length:Int)==5)<;>exact⟨_,rfl,rfl⟩
theorem W7(x:Op):Dj (EN x) (JW x):=by unfold EN JW;simp only[EM,Jo,ao];cases GG x.client 0 2<;>cases GG x.seq 1 99<;>cases GG x.object 0 2<;>cases GG x.value 0 9<;>cases (x.kind==1)<;>cases (x.kind==2)<;>cases (x.old==0)<;>exact⟨_,rfl,rfl⟩
theorem isLog(l:List rk)(hl:l.length<=maxLen): (ET l=some (true,())/\IY l=some (true,())/\l.length<=16)\/(ET l=some (false,())/\IY l=some (false,())):=by
 have fA:=CQ (B1:=Ji) (B2:=L9) l.length (λk=>((l,(k:Int),()),(),())) (λk=>((l,l,(l.length:Int),(k:Int),()),(),())) (.inr ((l,(),()),(),())) (.inr ((l,(),()),(),())) (λ_=> .inl ((l,false,()),(),())) (λ_=> .inl ((l,false,()),(),()))
  (λ_=>True) (λ_=>True)
  (by simp only[Ji];rw[C1,if_neg (by omega)])
  (by simp only[L9];rw[C1,if_neg (by omega)])
  (λk hk=>by
    have c1: (k:Int)< (l.length:Int):=by omega
    have c2: (0:Int)<=(k:Int):=by omega
    obtain⟨b,v1,v2⟩:=W7 l[k].op;simp only[Ji,L9,C1,B3,if_pos c1,if_pos c2,DG,aq hk,ao,v1,v2,EM,Jo,BI hl hk,Ef];cases GG l[k].epoch 1 20 with
    |false=>exact .inr ⟨rfl,rfl,trivial⟩
    |true=>
     simp only[CJ];by_cases h0:0<k
     ·have c3: (k:Int)>0:=by omega
      have c4: (0:Int)<=((k-1:Nat):Int):=by omega
      have e2:l[k-1]? =some l[k-1] :=aq (by omega);simp only[if_pos c3,BH h0 (by omega),if_pos c4,DG,e2,ao];by_cases hlt:l[k].epoch<l[k-1].epoch
      ·rw[if_pos hlt,if_pos (show l[k-1].epoch>l[k].epoch from hlt)];cases b<;>exact .inr ⟨rfl,rfl,trivial⟩
      ·rw[if_neg hlt,if_neg (show ¬l[k-1].epoch>l[k].epoch from hlt)];cases b with
       |false=>exact .inr ⟨rfl,rfl,trivial⟩
       |true=>exact .inl ⟨rfl,rfl,trivial⟩
     ·have c3: ¬ (k:Int)>0:=by omega
      simp only[if_neg c3];cases b with
      |false=>exact .inr ⟨rfl,rfl,trivial⟩
      |true=>exact .inl ⟨rfl,rfl,trivial⟩)
 unfold ET IY;rcases fA with ⟨k1,k2,_⟩| ⟨k,_,k1,k2,_⟩
 ·rw[show NA ((l,0,()),(),())=_ from k1,show Qv ((l,l,(l.length:Int),0,()),(),())=_ from k2];simp only[ao,DZ];by_cases h: (l.length:Int)<=16
  ·rw[decide_eq_true h];exact .inl ⟨rfl,rfl,by omega⟩
  ·rw[decide_eq_false h];exact .inr ⟨rfl,rfl⟩
 ·rw[show NA ((l,0,()),(),())=_ from k1,show Qv ((l,l,(l.length:Int),0,()),(),())=_ from k2];exact .inr ⟨rfl,rfl⟩
theorem LU(a b:List Int)(ha:a.length<=maxLen):Ic a b=some (decide (a=b),())/\H9 a b=some (decide (a=b),()):=by
 unfold Ic H9 LY;by_cases hlen:a.length=b.length
 ·have hbe: (!((a.length:Int)==(b.length:Int)))=false:=by simp[hlen]
  have fA:=CQ (B1:=Ha) (B2:=H4) a.length (λk=>((a,b,(k:Int),()),(),())) (λk=>((a,b,(a.length:Int),(k:Int),()),(),())) (.inr (((),()),(),())) (.inr (((),()),(),())) (λ_=> .inl ((false,()),(),())) (λ_=> .inl ((false,()),(),()))
   (λk=>a[k]? =b[k]?) (λk=>a[k]? ≠b[k]?)
   (by simp only[Ha];rw[C1,if_neg (by omega)])
   (by simp only[H4];rw[C1,if_neg (by omega)])
   (λk hk=>by
     have c1: (k:Int)< (a.length:Int):=by omega
     have c2: (0:Int)<=(k:Int):=by omega
     simp only[Ha,H4,C1,B3,if_pos c1,if_pos c2,DG,aq hk,aq (show k<b.length by omega),ao,BI ha hk,Ef,G4];by_cases he:a[k] =b[k]'(by omega)
     ·simp only[if_pos he];exact .inl ⟨trivial,trivial,by rw[he]⟩
     ·simp only[if_neg he];exact .inr ⟨trivial,trivial,λh=>he (Option.some.inj h)⟩)
  rw[hbe,BK,BK];rcases fA with ⟨k1,k2,k3⟩| ⟨k,hk,k1,k2,k3⟩
  ·rw[show KT ((a,b,0,()),(),())=_ from k1,show My ((a,b,(a.length:Int),0,()),(),())=_ from k2]
   have :a=b:=bz λk=>by
    rcases cY k a.length with h|h
    ·exact k3 k h
    ·rw[cx h,cx (by omega)]
   rw[decide_eq_true this];exact⟨rfl,rfl⟩
  ·rw[show KT ((a,b,0,()),(),())=_ from k1,show My ((a,b,(a.length:Int),0,()),(),())=_ from k2];have :a≠b:=λh=>k3 (by rw[h]);rw[decide_eq_false this];exact⟨rfl,rfl⟩
 ·have hbe: (!((a.length:Int)==(b.length:Int)))=true:=by
   simp only[bN,beq_eq_false_iff_ne,ne_eq];omega
  rw[hbe,CJ,CJ,decide_eq_false (λh=>hlen (by rw[h]))];exact⟨rfl,rfl⟩
theorem F9(a b:nF)(ha:FX maxLen a):Gc a b=some (decide (a=b),())/\GN a b=some (decide (a=b),()):=by unfold Gc GN;simp only[(LU a.replicas b.replicas ha.1).1,(LU a.replicas b.replicas ha.1).2,(LU a.witnesses b.witnesses ha.2).1,(LU a.witnesses b.witnesses ha.2).2,ao,G4,C1];obtain⟨a1,a2,a3,a4⟩:=a;obtain⟨b1,b2,b3,b4⟩:=b;simp only[nF.mk.injEq];by_cases h1:a1=b1<;>by_cases h2:a2=b2<;>by_cases h3:a3=b3<;>by_cases h4:a4=b4<;>simp[h1,h2,h3,h4]
theorem GU(l:List rk)(hl:l.length<=maxLen): ∃n,Hh l=some (n,())/\I7 l=some (n,()):=by
 unfold Hh I7;rcases bn l.length with h|h
 ·have : ((l.length:Int)==0)=true:=by simp[h]
  rw[this];exact⟨_,rfl,rfl⟩
 ·have : ((l.length:Int)==0)=false:=by
   simp only[beq_eq_false_iff_ne,ne_eq];omega
  rw[this,BK,BH h hl,B6 (by omega),DG,aq (show l.length-1<l.length by omega)];exact⟨_,rfl,rfl⟩
theorem KX(c:nF)(x:Int)(h:FX maxLen c): ∃n,EP c x=some (n,())/\J8 c x=some (n,())/\(n=0\/n=1\/n=2\/n=3):=by unfold EP J8;obtain⟨b,v1,v2⟩:=GP c h;simp only[v1,v2,ao,(EG c.replicas x h.1).1,(EG c.replicas x h.1).2,(EG c.witnesses x h.2).1,(EG c.witnesses x h.2).2];cases b<;>cases (x==c.primary)<;>cases decide (x∈c.replicas)<;>cases decide (x∈c.witnesses)<;>exact⟨_,rfl,rfl,by decide⟩
end
section
theorem Ei{c:nF}(h:FX 1048576 c):FX maxLen c:=⟨Ep h.1,Ep h.2⟩
theorem Fh{m:jY}(h:NY 1048576 m):NY maxLen m:=⟨Ep h.1,λc hc=>Ei (h.2 c hc)⟩
theorem I1(c:nF)(h:FX maxLen c):IV c=some (decide (c=⟨0,0,[],[]⟩),()):=by unfold IV;rw[(F9 c _ h).1];rfl
theorem J3(s:qj)(id:Int)(h:EA 1048576 s):Dj (Eh s id) (Hx s id):=by
 have hc:=Ei h.1;unfold Eh Hx;simp only[EM,Jo,ao,Ef];cases GG s.version 1 2 with
 |false=>exact⟨_,rfl,rfl⟩
 |true=>
 cases GG s.epoch 0 20 with
 |false=>exact⟨_,rfl,rfl⟩
 |true=>
 rcases isLog s.log (Ep h.2.1) with ⟨a1,a2,a3⟩| ⟨a1,a2⟩
 case inr=>simp only[a1,a2,ao,CJ,BK];exact⟨_,rfl,rfl⟩
 rcases isLog s.learned (Ep h.2.2) with ⟨b1,b2,b3⟩| ⟨b1,b2⟩
 case inr=>simp only[a1,a2,b1,b2,ao,CJ,BK];exact⟨_,rfl,rfl⟩
 simp only[a1,a2,b1,b2,ao,CJ];cases hw:GG s.first 0 16 with
 |false=>exact⟨_,rfl,rfl⟩
 |true=>
 have hf:=Eg.1 hw;rw[vN (n:=s.first+(s.log.length:Int)) (by omega) (by omega)];by_cases h16:s.first+(s.log.length:Int)<=16
 case neg=>
  have e1:GG (s.first+(s.log.length:Int)) 0 16=false:=by unfold GG;simp;omega
  simp only[e1,CJ,BK,C1,if_pos (show s.first+(s.log.length:Int)>16 by omega)];exact⟨_,rfl,rfl⟩
 have e1:GG (s.first+(s.log.length:Int)) 0 16=true:=Eg.2 ⟨by omega,h16⟩;simp only[e1,CJ,C1,if_neg (show ¬s.first+(s.log.length:Int)>16 by omega),I1 s.config hc,(F9 s.config ⟨0,0,[],[]⟩ hc).2,ao];cases GG s.commit 0 (s.first+(s.log.length:Int)) with
 |false=>exact⟨_,rfl,rfl⟩
 |true=>
 simp only[CJ];by_cases hz:s.config=⟨0,0,[],[]⟩
 ·simp only[if_pos hz];cases (s.first==0)<;>cases (s.commit==0)<;>cases ((s.log.length:Int)==0)<;>exact⟨_,rfl,rfl⟩
 ·simp only[if_neg hz];cases s.intact with
  |false=>exact⟨_,rfl,rfl⟩
  |true=>
  simp only[CJ];by_cases he:s.epoch<s.config.epoch
  ·simp only[if_pos he];exact⟨_,rfl,rfl⟩
  ·simp only[if_neg he];obtain⟨n,n1,n2⟩:=GU s.log (Ep h.2.1);simp only[n1,n2,ao];by_cases hn:n>s.config.epoch
   ·simp only[if_pos hn];exact⟨_,rfl,rfl⟩
   ·simp only[if_neg hn];obtain⟨r,r1,r2,r3⟩:=KX s.config id hc;simp only[r1,r2,ao];rcases r3 with rfl|rfl|rfl|rfl
    ·exact⟨_,rfl,rfl⟩
    ·exact⟨_,rfl,rfl⟩
    ·exact⟨_,rfl,rfl⟩
    ·have ht:Mh s.first s.log=some (decide ((s.log.length:Int)<=3)&&((s.first==0)||((s.log.length:Int)==3)),()):=by
      unfold Mh;simp only[a2,Jo,ao,CJ,C1];rw[vN (by omega) (by omega),show GG s.first 0 (16-(s.log.length:Int))=true from Eg.2 ⟨by omega,by omega⟩];by_cases h3: (s.log.length:Int)<=3
      ·rw[if_pos h3,decide_eq_true h3];cases (s.first==0)<;>cases ((s.log.length:Int)==3)<;>rfl
      ·rw[if_neg h3,decide_eq_false h3];rfl
     rw[ht];by_cases h3: (s.log.length:Int)<=3
     ·rw[if_pos h3,decide_eq_true h3];cases (s.first==0)<;>cases ((s.log.length:Int)==3)<;>exact⟨_,rfl,rfl⟩
     ·rw[if_neg h3,decide_eq_false h3];exact⟨_,rfl,rfl⟩
theorem Mc(m:jY)(e:Int)(h:NY 1048576 m): ∃c b,Fz m e=some (c,b,())/\Iu m e=some (c,b,())/\FX maxLen c:=by
 obtain⟨b,m1,m2⟩:=masterLog m (Fh h);have zero:FX maxLen ⟨0,0,[],[]⟩:=⟨bM _,bM _⟩
 have hl:=h.1;unfold Fz Iu;simp only[m1,m2,EM,Jo,ao,Ef];cases b with
 |false=>exact⟨_,_,rfl,rfl,zero⟩
 |true=>
  cases hw:GG e 1 (m.configs.length:Int) with
  |false=>exact⟨_,_,rfl,rfl,zero⟩
  |true=>
   have hw:=Eg.1 hw;simp only[CJ];rw[vN (n:=e-1) (by omega) (by omega)];have hlt: (e-1).toNat<m.configs.length:=by omega
   have hk:=h.2 _ (DJ hlt)
   have copy: ∀c:nF,FX 1048576 c->Hk c=some (c,())/\FV c=some (c,()):=by intro c hc;unfold Hk FV;simp only[bF];rw[B6 (IC hc.1),B6 (IC hc.2)];exact⟨rfl,rfl⟩
   rw[B6 (by omega),B6 (by omega),aq hlt];simp only[ao,(copy _ hk).1,(copy _ hk).2];exact⟨_,_,rfl,rfl,Ei hk⟩
theorem Fp(x:qg)(h:Ez 1048576 x):Dj (Ee x) (GC x):=by
 obtain⟨⟨hs1,hs2⟩,hsd,hml,hpl⟩:=h;have hm:=Ep hs1
 have fA:=CQ (B1:=El) (B2:=Gx) x.servers.length (λk=>(((),(k:Int),()),((x.now,x.servers,x.sides,x.master.configs,x.master.activated,x.masterUp,x.lease.epoch,x.lease.holder,x.lease.ends,x.places,()),()),())) (λk=>(((),x.servers,(x.servers.length:Int),(k:Int),()),((x.now,x.servers,x.sides,x.master.configs,x.master.activated,x.masterUp,x.lease.epoch,x.lease.holder,x.lease.ends,x.places,()),()),())) (.inr (((),()),(),())) (.inr (((),()),(),())) (λ_=> .inl ((false,()),(),())) (λ_=> .inl ((false,()),(),()))
  (λ_=>True) (λ_=>True)
  (by simp only[El];rw[C1,if_neg (by omega)])
  (by simp only[Gx];rw[C1,if_neg (by omega)])
  (λk hk=>by
    have c1: (k:Int)< (x.servers.length:Int):=by omega
    have c2: (0:Int)<=(k:Int):=by omega
    have hsk:=hs2 _ (DJ hk);obtain⟨b,v1,v2⟩:=J3 x.servers[k] (k:Int) hsk;obtain⟨n,n1,n2⟩:=GU x.servers[k].learned (Ep hsk.2.2);obtain⟨c,d,d1,d2,d3⟩:=Mc x.master x.servers[k].config.epoch hml;have hcfg:=Ei hsk.1
    simp only[El,Gx,C1,B3,if_pos c1,if_pos c2,DG,aq hk,ao,v1,v2,n1,n2,BI hm hk,Ef,
     show (⟨x.master.configs,x.master.activated⟩:jY)=x.master from rfl,d1,d2,I1 _ hcfg,(F9 _ (⟨0,0,[],[]⟩:nF) hcfg).2,(F9 c x.servers[k].config d3).1,(F9 c x.servers[k].config d3).2]
    cases b with
    |false=>exact .inr ⟨rfl,rfl,trivial⟩
    |true=>
     simp only[CJ];by_cases h1:x.servers[k].epoch>(x.master.configs.length:Int)
     ·simp only[if_pos h1];exact .inr ⟨trivial,trivial,trivial⟩
     ·simp only[if_neg h1];by_cases h2:n>x.master.activated
      ·simp only[if_pos h2];exact .inr ⟨trivial,trivial,trivial⟩
      ·simp only[if_neg h2];by_cases h3:x.servers[k].config=⟨0,0,[],[]⟩
       ·simp only[if_pos h3];exact .inl ⟨trivial,trivial,trivial⟩
       ·simp only[if_neg h3];cases d with
        |false=>exact .inr ⟨rfl,rfl,trivial⟩
        |true=>
         simp only[CJ];by_cases h4:c=x.servers[k].config
         ·simp only[if_pos h4];by_cases h5:x.servers[k].config.epoch>x.master.activated
          ·simp only[if_pos h5];exact .inr ⟨trivial,trivial,trivial⟩
          ·simp only[if_neg h5];exact .inl ⟨trivial,trivial,trivial⟩
         ·simp only[if_neg h4];exact .inr ⟨trivial,trivial,trivial⟩)
 unfold Ee GC;obtain⟨b1,a1,a2⟩:=Le x.sides (Ep hsd);obtain⟨b2,m1,m2⟩:=masterLog x.master (Fh hml);obtain⟨b3,l1,l2⟩:=MW x.lease;obtain⟨b4,p1,p2⟩:=KF x.places (Ep hpl);simp only[EM,Jo,a1,a2,m1,m2,l1,l2,p1,p2,ao,Ef,C1];cases GG x.now 0 999 with
 |false=>exact⟨_,rfl,rfl⟩
 |true=>
 cases ((x.servers.length:Int)==5) with
 |false=>exact⟨_,rfl,rfl⟩
 |true=>
 cases b1 with
 |false=>exact⟨_,rfl,rfl⟩
 |true=>
 cases b2 with
 |false=>exact⟨_,rfl,rfl⟩
 |true=>
 cases GG x.masterUp 0 3 with
 |false=>cases b3<;>cases b4<;>exact⟨_,rfl,rfl⟩
 |true=>
 cases b3 with
 |false=>exact⟨_,rfl,rfl⟩
 |true=>
 cases b4 with
 |false=>exact⟨_,rfl,rfl⟩
 |true=>
 simp only[CJ];by_cases h1:x.lease.epoch>x.master.activated
 ·simp only[if_pos h1];exact⟨_,rfl,rfl⟩
 ·simp only[if_neg h1];rcases fA with ⟨k1,k2,_⟩| ⟨k,_,k1,k2,_⟩
  ·rw[show GF (((),0,()),((x.now,x.servers,x.sides,x.master.configs,x.master.activated,x.masterUp,x.lease.epoch,x.lease.holder,x.lease.ends,x.places,()),()),())=_ from k1,show JP (((),x.servers,(x.servers.length:Int),0,()),((x.now,x.servers,x.sides,x.master.configs,x.master.activated,x.masterUp,x.lease.epoch,x.lease.holder,x.lease.ends,x.places,()),()),())=_ from k2];exact⟨_,rfl,rfl⟩
  ·rw[show GF (((),0,()),((x.now,x.servers,x.sides,x.master.configs,x.master.activated,x.masterUp,x.lease.epoch,x.lease.holder,x.lease.ends,x.places,()),()),())=_ from k1,show JP (((),x.servers,(x.servers.length:Int),0,()),((x.now,x.servers,x.sides,x.master.configs,x.master.activated,x.masterUp,x.lease.epoch,x.lease.holder,x.lease.ends,x.places,()),()),())=_ from k2];exact⟨_,rfl,rfl⟩
end
section
theorem Fm{c:nF}(h:FX maxLen c)(hv:Ek c=some (true,())):NQ c.replicas/\NQ c.witnesses/\c.primary∈c.replicas/\1<=c.epoch/\c.epoch<=20/\ ∀x∈c.replicas,x∉c.witnesses:=by
 unfold Ek at hv;simp only[EM,ao] at hv;cases hw:GG c.epoch 1 20 with
 |false=>rw[hw] at hv;cases hv
 |true=>
  rw[hw] at hv;rcases NR c.replicas h.1 with ⟨a1,a2,a3⟩| ⟨a1,a2⟩
  ·rcases NR c.witnesses h.2 with ⟨b1,b2,b3⟩| ⟨b1,b2⟩
   ·simp only[a1,b1,ao,CJ,(EG c.replicas c.primary h.1).1,RE _ _ a3 h.2,C1] at hv;by_cases hp:c.primary∈c.replicas
    ·rw[if_pos hp] at hv;refine⟨a3,b3,hp,(Eg.1 hw).1,(Eg.1 hw).2,λx hx hxw=> ?_⟩
     have hz: ((((c.replicas.filter λx=>decide (x∈c.witnesses)).length:Nat):Int)==0)=true:=by simpa using hv
     have hz: (c.replicas.filter λx=>decide (x∈c.witnesses)).length=0:=by simp only[beq_iff_eq] at hz;omega
     have:=ba hz;have hm:x∈c.replicas.filter λx=>decide (x∈c.witnesses):=by simp[D6,hx,hxw]
     rw[this] at hm;cases hm
    ·rw[if_neg hp] at hv;cases hv
   ·simp only[a1,b1,ao,CJ,BK] at hv;cases hv
  ·simp only[a1,ao,CJ,BK] at hv;cases hv
theorem I2{m:jY}(h:NY maxLen m)(hv:Er m=some (true,())): (∀k (hk:k<m.configs.length),Ek m.configs[k] =some (true,())/\m.configs[k].epoch=(k:Int)+1)/\0<=m.activated/\m.activated<=(m.configs.length:Int):=by
 obtain⟨hl,hc⟩:=h
 have fA:=CQ (B1:=Fe) (B2:=Fe) m.configs.length (λk=>(((),(k:Int),()),((m.configs,m.activated,()),()),())) (λk=>(((),(k:Int),()),((m.configs,m.activated,()),()),())) (.inr (((),(),()),((m.configs,m.activated,()),()),())) (.inr (((),(),()),((m.configs,m.activated,()),()),())) (λ_=> .inl (((),false,()),((m.configs,m.activated,()),()),())) (λ_=> .inl (((),false,()),((m.configs,m.activated,()),()),()))
  (λk=> ∀hk:k<m.configs.length,Ek m.configs[k] =some (true,())/\m.configs[k].epoch=(k:Int)+1) (λ_=>True)
  (by simp only[Fe];rw[C1,if_neg (by omega)])
  (by simp only[Fe];rw[C1,if_neg (by omega)])
  (λk hk=>by
    have c1: (k:Int)< (m.configs.length:Int):=by omega
    have c2: (0:Int)<=(k:Int):=by omega
    obtain⟨b,v1,v2⟩:=GP m.configs[k] (hc _ (DJ hk))
    have step:Fe (((),(k:Int),()),((m.configs,m.activated,()),()),())=br b (br (m.configs[k].epoch==((k+1:Nat):Int)) (some (.inl (((),((k+1:Nat):Int),()),((m.configs,m.activated,()),()),()))) (some (.inr (.inl (((),false,()),((m.configs,m.activated,()),()),()))))) (some (.inr (.inl (((),false,()),((m.configs,m.activated,()),()),())))):=by simp only[Fe,C1,B3,if_pos c1,if_pos c2,DG,aq hk,ao,v1,BI hl hk,Ef]
    rw[step];cases b with
    |false=>exact .inr ⟨rfl,rfl,trivial⟩
    |true=>
     rw[CJ,G4];by_cases he:m.configs[k].epoch=((k+1:Nat):Int)
     ·rw[if_pos he];exact .inl ⟨rfl,rfl,λ_=>⟨v1,by omega⟩⟩
     ·rw[if_neg he];exact .inr ⟨rfl,rfl,trivial⟩)
 unfold Er at hv;rcases fA with ⟨k1,_,k3⟩| ⟨k,_,k1,_,_⟩
 ·rw[show IK (((),0,()),((m.configs,m.activated,()),()),())=_ from k1] at hv;simp only[ao,DZ,EM,af,au,and_true] at hv;exact⟨λk hk=>k3 k hk hk,(Eg.1 hv).1,(Eg.1 hv).2⟩
 ·rw[show IK (((),0,()),((m.configs,m.activated,()),()),())=_ from k1] at hv;cases hv
theorem Gk{s:qj}{id:Int}(h:EA 1048576 s)(hv:Eh s id=some (true,())):0<=s.first/\s.first<=16/\s.log.length<=16/\0<=s.commit/\s.commit<=s.first+(s.log.length:Int)/\ET s.log=some (true,())/\ET s.learned=some (true,())/\0<=s.epoch/\s.epoch<=20:=by
 unfold Eh at hv;simp only[EM,ao,Ef] at hv;cases h1:GG s.version 1 2 with
 |false=>rw[h1] at hv;cases hv
 |true=>
 cases h2:GG s.epoch 0 20 with
 |false=>rw[h1,h2] at hv;cases hv
 |true=>
 rw[h1,h2] at hv;rcases isLog s.log (Ep h.2.1) with ⟨a1,a2,a3⟩| ⟨a1,a2⟩
 case inr=>simp only[a1,ao,CJ,BK] at hv;cases hv
 rcases isLog s.learned (Ep h.2.2) with ⟨b1,b2,b3⟩| ⟨b1,b2⟩
 case inr=>simp only[a1,b1,ao,CJ,BK] at hv;cases hv
 simp only[a1,b1,ao,CJ] at hv;cases hw:GG s.first 0 16 with
 |false=>rw[hw] at hv;cases hv
 |true=>
 have hf:=Eg.1 hw;rw[hw,vN (n:=s.first+(s.log.length:Int)) (by omega) (by omega)] at hv;simp only[CJ] at hv;cases h3:GG (s.first+(s.log.length:Int)) 0 16 with
 |false=>rw[h3] at hv;cases hv
 |true=>
 cases h4:GG s.commit 0 (s.first+(s.log.length:Int)) with
 |false=>rw[h3,h4] at hv;cases hv
 |true=>
 exact⟨hf.1,hf.2,a3,(Eg.1 h4).1,(Eg.1 h4).2,a1,b1,(Eg.1 h2).1,(Eg.1 h2).2⟩
structure VC (x:qg):Prop where
 len:x.servers.length=5
 ml:Er x.master=some (true,())
 sides:Fu x.sides=some (true,())
 places:Fb x.places=some (true,())
 lease:FR x.lease=some (true,())
 now:0<=x.now/\x.now<=999
 up:0<=x.masterUp/\x.masterUp<=3
 srv: ∀k (hk:k<x.servers.length),Eh x.servers[k] (k:Int)=some (true,())
theorem Es{x:qg}(h:Ez 1048576 x)(hv:Ee x=some (true,())):VC x:=by
 obtain⟨⟨hs1,hs2⟩,hsd,hml,hpl⟩:=h;have hm:=Ep hs1
 have fA:=CQ (B1:=El) (B2:=El) x.servers.length (λk=>(((),(k:Int),()),((x.now,x.servers,x.sides,x.master.configs,x.master.activated,x.masterUp,x.lease.epoch,x.lease.holder,x.lease.ends,x.places,()),()),())) (λk=>(((),(k:Int),()),((x.now,x.servers,x.sides,x.master.configs,x.master.activated,x.masterUp,x.lease.epoch,x.lease.holder,x.lease.ends,x.places,()),()),())) (.inr (((),()),(),())) (.inr (((),()),(),())) (λ_=> .inl ((false,()),(),())) (λ_=> .inl ((false,()),(),()))
  (λk=> ∀hk:k<x.servers.length,Eh x.servers[k] (k:Int)=some (true,())) (λ_=>True)
  (by simp only[El];rw[C1,if_neg (by omega)])
  (by simp only[El];rw[C1,if_neg (by omega)])
  (λk hk=>by
    have c1: (k:Int)< (x.servers.length:Int):=by omega
    have c2: (0:Int)<=(k:Int):=by omega
    have hsk:=hs2 _ (DJ hk);obtain⟨b,v1,v2⟩:=J3 x.servers[k] (k:Int) hsk;obtain⟨n,n1,n2⟩:=GU x.servers[k].learned (Ep hsk.2.2);obtain⟨c,d,d1,d2,d3⟩:=Mc x.master x.servers[k].config.epoch hml;have hcfg:=Ei hsk.1
    have step:El (((),(k:Int),()),((x.now,x.servers,x.sides,x.master.configs,x.master.activated,x.masterUp,x.lease.epoch,x.lease.holder,x.lease.ends,x.places,()),()),())=some (.inr (.inl ((false,()),(),())))\/(b=true/\El (((),(k:Int),()),((x.now,x.servers,x.sides,x.master.configs,x.master.activated,x.masterUp,x.lease.epoch,x.lease.holder,x.lease.ends,x.places,()),()),())=some (.inl (((),((k+1:Nat):Int),()),((x.now,x.servers,x.sides,x.master.configs,x.master.activated,x.masterUp,x.lease.epoch,x.lease.holder,x.lease.ends,x.places,()),()),()))):=by
     simp only[El,C1,B3,if_pos c1,if_pos c2,DG,aq hk,ao,v1,n1,BI hm hk,Ef,
      show (⟨x.master.configs,x.master.activated⟩:jY)=x.master from rfl,d1,I1 _ hcfg,(F9 c x.servers[k].config d3).1]
     cases b with
     |false=>exact .inl rfl
     |true=>
      simp only[CJ]
      repeat' split
      all_goals first |exact .inl trivial|exact .inr ⟨trivial,trivial⟩| (cases d<;>first |exact .inl rfl| (simp only[CJ];repeat' split)<;>first |exact .inl trivial|exact .inr ⟨trivial,trivial⟩)
    rcases step with h1| ⟨rfl,h1⟩
    ·rw[h1];exact .inr ⟨rfl,rfl,trivial⟩
    ·rw[h1];exact .inl ⟨rfl,rfl,λ_=>v1⟩)
 unfold Ee at hv;obtain⟨b1,a1,a2⟩:=Le x.sides (Ep hsd);obtain⟨b2,m1,m2⟩:=masterLog x.master (Fh hml);obtain⟨b3,l1,l2⟩:=MW x.lease;obtain⟨b4,p1,p2⟩:=KF x.places (Ep hpl);simp only[EM,a1,m1,l1,p1,ao,Ef,C1] at hv;cases h1:GG x.now 0 999 with
 |false=>rw[h1] at hv;cases hv
 |true=>
 cases h2: ((x.servers.length:Int)==5) with
 |false=>rw[h1,h2] at hv;cases hv
 |true=>
 cases b1 with
 |false=>rw[h1,h2] at hv;cases hv
 |true=>
 cases b2 with
 |false=>rw[h1,h2] at hv;cases hv
 |true=>
 cases h3:GG x.masterUp 0 3 with
 |false=>rw[h1,h2,h3] at hv;cases hv
 |true=>
 cases b3 with
 |false=>rw[h1,h2,h3] at hv;cases hv
 |true=>
 cases b4 with
 |false=>rw[h1,h2,h3] at hv;cases hv
 |true=>
 rw[h1,h2,h3] at hv;simp only[CJ] at hv;by_cases h4:x.lease.epoch>x.master.activated
 ·rw[if_pos h4] at hv;cases hv
 ·rw[if_neg h4] at hv;rcases fA with ⟨k1,_,k3⟩| ⟨k,_,k1,_,_⟩
  ·refine⟨?_,m1,a1,p1,l1,Eg.1 h1,Eg.1 h3,λk hk=>k3 k hk hk⟩;simp only[beq_iff_eq] at h2;omega
  ·rw[show GF (((),0,()),((x.now,x.servers,x.sides,x.master.configs,x.master.activated,x.masterUp,x.lease.epoch,x.lease.holder,x.lease.ends,x.places,()),()),())=_ from k1] at hv;cases hv
end
section
theorem YC(l:List rk)(hl:l.length<=maxLen):Dj (EX l) (Ia l):=by
 have fA:=CQ (B1:=GA) (B2:=EC) l.length (λk=>((l,(k:Int),()),(),())) (λk=>((l,(),(l.length:Int),(k:Int),()),(),())) (.inr (((),()),(),())) (.inr (((),()),(),())) (λ_=> .inl ((true,()),(),())) (λk=> .inl (((k:Int),()),(),()))
  (λ_=>True) (λ_=>True)
  (by simp only[GA];rw[C1,if_neg (by omega)])
  (by simp only[EC];rw[C1,if_neg (by omega)])
  (λk hk=>by
    have c1: (k:Int)< (l.length:Int):=by omega
    have c2: (0:Int)<=(k:Int):=by omega
    simp only[GA,EC,IZ,K7,HS,C1,B3,if_pos c1,if_pos c2,DG,aq hk,ao,BI hl hk];cases (l[k].op.kind==2) with
    |false=>exact .inl ⟨rfl,rfl,trivial⟩
    |true=>exact .inr ⟨rfl,rfl,trivial⟩)
 unfold EX Ia Fj Fs;rcases fA with ⟨k1,k2,_⟩| ⟨k,_,k1,k2,_⟩
 ·rw[show KU ((l,0,()),(),())=_ from k1,show FL ((l,(),(l.length:Int),0,()),(),())=_ from k2];exact⟨_,rfl,rfl⟩
 ·rw[show KU ((l,0,()),(),())=_ from k1,show FL ((l,(),(l.length:Int),0,()),(),())=_ from k2];simp only[ao,DU];rw[decide_eq_true (by omega)];exact⟨_,rfl,rfl⟩
end
section
section
variable {α:Type}
def Oa(w:α->Int):List α->Int
 | [] =>0
 |x::l=>w x+Oa w l
def JB(l:List α):Int:=(l.length:Int)
end
def SP(c:nF):Int:=JB c.replicas+JB c.witnesses
def NP(s:qj):Int:=SP s.config+JB s.log+JB s.learned
def tMl(m:jY):Int:=JB m.configs+Oa SP m.configs
def tSs(l:List qj):Int:=JB l+Oa NP l
def Y8(c:qg):Int:=tSs c.servers+JB c.sides+tMl c.master+JB c.places
theorem ZS{α:Type}(l:List α):0<=JB l:=by unfold JB;omega
theorem W5(c:nF):0<=SP c:=by unfold SP JB;omega
theorem ZQ(s:qj):0<=NP s:=by have:=W5 s.config;unfold NP JB;omega
end
section

end
section
theorem Qf{n c:Nat}(h:n<=1048577)(hc:c<=1000):n*c<=2 ^ 40:=by
 have h1:n*c<=1048577*1000:=Nat.mul_le_mul h hc;have h2: (2:Nat) ^ 40=1099511627776:=by decide
 omega
theorem MV(c:nF)(h:FX 1048576 c):Hk c=some (c,())/\FV c=some (c,()):=by have a:=h.1;have b:=h.2;unfold Hk FV;simp only[bF,B3,if_pos (Qf (DX a) (show 8<=1000 by decide)),if_pos (Qf (DX b) (show 8<=1000 by decide))];exact⟨trivial,trivial⟩
theorem IX(l:List rk)(h:l.length<=1048576):FT l=some (l,())/\Fq l=some (l,()):=by unfold FT Fq;simp only[bF,B3,if_pos (Qf (DX h) (show 56<=1000 by decide))];exact⟨trivial,trivial⟩
theorem Zg(l:List Int)(h:l.length<=1048576):IA l=some (l,()):=by unfold IA;simp only[B3,if_pos (Qf (DX h) (show 8<=1000 by decide))]
theorem VO(l:List uO)(h:l.length<=1048576):Kg l=some (l,()):=by unfold Kg;simp only[B3,if_pos (Qf (DX h) (show 24<=1000 by decide))]
theorem K4(s:qj)(h:EA 1048576 s):Hz s=some (s,())/\FW s=some (s,()):=by unfold Hz FW;simp only[(MV _ h.1).1,(MV _ h.1).2,(IX _ h.2.1).1,(IX _ h.2.1).2,(IX _ h.2.2).1,(IX _ h.2.2).2,ao];exact⟨trivial,trivial⟩
theorem F5{α:Type}{l:List α}{k:Nat}{x:α}(h:l[k]? =some x):l.take (k+1)=l.take k++ [x] :=by rw[DR,h];rfl
theorem L8{α:Type}(l:List α)(k:Nat)(x:α)(h:l.length<=1048576): (l.take k++ [x]).length<=1048577:=by rw[bJ,cP,cy];omega
theorem Ob(m:jY)(h:NY 1048576 m):KM m=some (m,())/\Jk m=some (m,()):=by
 obtain⟨hl,hc⟩:=h
 have k1:=B8 (B:=JT) m.configs (λk (b:List nF)=>(((),(),(),(k:Int),()),((m.configs,m.activated,()),((),0,()),((),m.activated,()),()),(b,()))) (λk b=>b=m.configs.take k) (λ_ _ _=>(((),(),()),(((),0,()),((),m.activated,()),()),(m.configs,())))
  (λb hb=>by simp only[JT];rw[C1,if_neg (by omega),hb,DP])
  (λk b c hx hb=>by
    have hk:=C8 hx;have c1: (k:Int)< (m.configs.length:Int):=by omega
    have c2: (0:Int)<=(k:Int):=by omega
    subst hb;refine .inl ⟨m.configs.take (k+1),?_,rfl,rfl⟩;simp only[JT,C1,B3,if_pos c1,if_pos c2,DG,hx,ao,(MV c (hc c (aA hx))).1,BI (Ep hl) hk,if_pos (Qf (L8 m.configs k c hl) (show 64<=1000 by decide)),F5 hx])
  0 [] (bM _) rfl
 have k2:=B8 (B:=H2) m.configs (λk (b:List nF)=>(((),(),m.configs,(m.configs.length:Int),(k:Int),()),(((),0,()),((),m.activated,()),()),(b,()))) (λk b=>b=m.configs.take k) (λ_ _ _=>(((),(),()),(((),0,()),((),m.activated,()),()),(m.configs,())))
  (λb hb=>by simp only[H2];rw[C1,if_neg (by omega),hb,DP])
  (λk b c hx hb=>by
    have hk:=C8 hx;have c1: (k:Int)< (m.configs.length:Int):=by omega
    have c2: (0:Int)<=(k:Int):=by omega
    subst hb;refine .inl ⟨m.configs.take (k+1),?_,rfl,rfl⟩;simp only[H2,C1,B3,if_pos c1,if_pos c2,DG,hx,ao,(MV c (hc c (aA hx))).2,BI (Ep hl) hk,if_pos (Qf (L8 m.configs k c hl) (show 64<=1000 by decide)),F5 hx])
  0 [] (bM _) rfl
 unfold KM Jk;rw[show QT (((),(),(),0,()),((m.configs,m.activated,()),((),0,()),((),m.activated,()),()),(([]:List nF),()))=_ from k1,show Ot (((),(),m.configs,(m.configs.length:Int),0,()),(((),0,()),((),m.activated,()),()),(([]:List nF),()))=_ from k2];exact⟨rfl,rfl⟩
theorem EL(x:qg)(ok:Ez 1048576 x):Fa x=some (x,())/\FH x=some (x,()):=by
 obtain⟨⟨hl,hs⟩,hsd,hml,hpl⟩:=ok
 have k1:=B8 (B:=JU) x.servers (λk (b:List qj)=>(((),(),(),(k:Int),()),((x.now,x.servers,x.sides,x.master.configs,x.master.activated,x.masterUp,x.lease.epoch,x.lease.holder,x.lease.ends,x.places,()),(0,(),(),(),0,0,0,0,0,(),()),(x.now,(),x.sides,x.master.configs,x.master.activated,x.masterUp,x.lease.epoch,x.lease.holder,x.lease.ends,x.places,()),()),(b,()))) (λk b=>b=x.servers.take k) (λ_ _ _=>(((),(),(),()),((x.now,x.servers,x.sides,x.master.configs,x.master.activated,x.masterUp,x.lease.epoch,x.lease.holder,x.lease.ends,x.places,()),(0,(),(),(),0,0,0,0,0,(),()),(x.now,(),x.sides,x.master.configs,x.master.activated,x.masterUp,x.lease.epoch,x.lease.holder,x.lease.ends,x.places,()),()),(x.servers,())))
  (λb hb=>by simp only[JU];rw[C1,if_neg (by omega),hb,DP])
  (λk b c hx hb=>by
    have hk:=C8 hx;have c1: (k:Int)< (x.servers.length:Int):=by omega
    have c2: (0:Int)<=(k:Int):=by omega
    subst hb;refine .inl ⟨x.servers.take (k+1),?_,rfl,rfl⟩;simp only[JU,C1,B3,if_pos c1,if_pos c2,DG,hx,ao,(K4 c (hs c (aA hx))).1,BI (Ep hl) hk,if_pos (Qf (L8 x.servers k c hl) (show 152<=1000 by decide)),F5 hx])
  0 [] (bM _) rfl
 have k2:=B8 (B:=Hv) x.servers (λk (b:List qj)=>(((),(),(),x.servers,(x.servers.length:Int),(k:Int),()),((x.now,x.servers,x.sides,x.master.configs,x.master.activated,x.masterUp,x.lease.epoch,x.lease.holder,x.lease.ends,x.places,()),(0,(),(),(),0,0,0,0,0,(),()),(x.now,(),x.sides,x.master.configs,x.master.activated,x.masterUp,x.lease.epoch,x.lease.holder,x.lease.ends,x.places,()),()),(b,()))) (λk b=>b=x.servers.take k) (λ_ _ _=>(((),(),(),()),((x.now,x.servers,x.sides,x.master.configs,x.master.activated,x.masterUp,x.lease.epoch,x.lease.holder,x.lease.ends,x.places,()),(0,(),(),(),0,0,0,0,0,(),()),(x.now,(),x.sides,x.master.configs,x.master.activated,x.masterUp,x.lease.epoch,x.lease.holder,x.lease.ends,x.places,()),()),(x.servers,())))
  (λb hb=>by simp only[Hv];rw[C1,if_neg (by omega),hb,DP])
  (λk b c hx hb=>by
    have hk:=C8 hx;have c1: (k:Int)< (x.servers.length:Int):=by omega
    have c2: (0:Int)<=(k:Int):=by omega
    subst hb;refine .inl ⟨x.servers.take (k+1),?_,rfl,rfl⟩;simp only[Hv,C1,B3,if_pos c1,if_pos c2,DG,hx,ao,(K4 c (hs c (aA hx))).2,BI (Ep hl) hk,if_pos (Qf (L8 x.servers k c hl) (show 152<=1000 by decide)),F5 hx])
  0 [] (bM _) rfl
 unfold Fa FH
 rw[show QU (((),(),(),0,()),((x.now,x.servers,x.sides,x.master.configs,x.master.activated,x.masterUp,x.lease.epoch,x.lease.holder,x.lease.ends,x.places,()),(0,(),(),(),0,0,0,0,0,(),()),(x.now,(),x.sides,x.master.configs,x.master.activated,x.masterUp,x.lease.epoch,x.lease.holder,x.lease.ends,x.places,()),()),(([]:List qj),()))=_ from k1,
  show N2 (((),(),(),x.servers,(x.servers.length:Int),0,()),((x.now,x.servers,x.sides,x.master.configs,x.master.activated,x.masterUp,x.lease.epoch,x.lease.holder,x.lease.ends,x.places,()),(0,(),(),(),0,0,0,0,0,(),()),(x.now,(),x.sides,x.master.configs,x.master.activated,x.masterUp,x.lease.epoch,x.lease.holder,x.lease.ends,x.places,()),()),(([]:List qj),()))=_ from k2]
 have em: (⟨x.master.configs,x.master.activated⟩:jY)=x.master:=rfl;simp only[ao,bF,em,(Ob _ hml).1,(Ob _ hml).2,Zg _ hsd,VO _ hpl,B3,if_pos (Qf (DX hsd) (show 8<=1000 by decide)),if_pos (Qf (DX hpl) (show 24<=1000 by decide))];exact⟨trivial,trivial⟩
theorem RK(x:qg)(id:Int)(ok:Ez 1048576 x): ∃b,HB x id=some (b,())/\Fd x id=some (b,())/\(b=true->Ee x=some (true,())/\0<=id/\id<5):=by
 obtain⟨v,v1,v2⟩:=Fp x ok;unfold HB Fd;simp only[v1,v2,ao,EM,Jo];cases v with
 |false=>exact⟨false,rfl,rfl,nofun⟩
 |true=>refine⟨GG id 0 4,rfl,rfl,λh=>⟨rfl,?_⟩⟩;have:=Eg.1 h;omega
end
section
theorem Zj(n:Int)(h0:0<=n)(h1:n<=1000000):Jc n=some ([],()):=by
 unfold Jc;have e1:IntKind.wrap .i64 ((0:Int)-0)=0:=vN (by decide) (by decide);have e2:IntKind.wrap .i64 (n-0)=n:=by rw[vN (by omega) (by omega)];omega
 simp only[e1,e2,C1,if_neg (show ¬n<0 by omega)];by_cases h:n>0
 ·have e: (2:Int) ^ 40=1099511627776:=by decide
  have c1:0<n/\n*((8:Nat):Int)<=2 ^ 40:=⟨h,by omega⟩
  have c2: (0:Int)<=0/\(0:Int)<=0/\(0:Int)<=((n.toNat:Nat):Int):=by omega
  simp only[if_pos h,B3,if_pos c1,if_pos c2,and_self,if_true];simp
 ·simp only[if_neg h]
theorem Xd(l:List (List Int))(hl:l.length<=10)(h: ∀a∈l,a.length<=1000):Jv l=some (l.flatten,()):=by
 have hm:l.length<=maxLen:=by unfold maxLen;omega
 have tot: ∀k,(l.take k).flatten.length<=k*1000:=by
  intro k
  induction k with
  |zero=>simp
  |succ k ih=>
   cases hx:l[k]? with
   |none=>
    have hle:l.length<=k:=by simpa using hx
    rw[bW hle] at ih;rw[bW (DX hle)];exact aX ih (bq _ (cK k))
   |some a=>rw[F5 hx,D3,bJ];have:=h a (aA hx);simp only[List.flatten_cons,List.flatten_nil,bP];rw[Nat.succ_mul];exact Nat.add_le_add ih this
 have k1:=B8 (B:=Hw) l (λk (n:Int)=>((l,n,l,(l.length:Int),(k:Int),()),(),())) (λk n=>n=((l.take k).flatten.length:Int)) (λ_ _ _=>((l,(l.flatten.length:Int),()),(),()))
  (λn hn=>by simp only[Hw];rw[C1,if_neg (by omega),hn,DP])
  (λk n a hx hn=>by
    have hk:=C8 hx;have c1: (k:Int)< (l.length:Int):=by omega
    have c2: (0:Int)<=(k:Int):=by omega
    have t:=tot k;have ha:=h a (aA hx);have hk10:k*1000<=10000:=by omega
    refine .inl ⟨n+(a.length:Int),?_,?_,rfl⟩
    ·simp only[Hw,C1,B3,if_pos c1,if_pos c2,DG,hx,ao,BI hm hk,vN (n:=n+(a.length:Int)) (by omega) (by omega),if_neg (show ¬n+(a.length:Int)<0 by omega)]
    ·rw[F5 hx,D3,bJ,hn];simp)
  0 0 (bM _) (by simp)
 have t:=tot l.length;rw[DP] at t
 have k2:=B8 (B:=He) l (λk (b:List Int)=>(((),l,(l.length:Int),(k:Int),()),(),(b,()))) (λk b=>b=(l.take k).flatten) (λ_ _ _=>(((),()),(),(l.flatten,())))
  (λb hb=>by simp only[He];rw[C1,if_neg (by omega),hb,DP])
  (λk b a hx hb=>by
    have hk:=C8 hx;have c1: (k:Int)< (l.length:Int):=by omega
    have c2: (0:Int)<=(k:Int):=by omega
    have t:=tot k;have ha:=h a (aA hx);have hs: (b++a).length*8<=2 ^ 40:=Qf (by rw[hb,bJ];omega) (by decide);refine .inl ⟨b++a,?_,?_,rfl⟩
    ·simp only[He,C1,B3,if_pos c1,if_pos c2,DG,hx,ao,BI hm hk,if_pos hs]
    ·rw[F5 hx,D3,hb];simp)
  0 [] (bM _) (by simp)
 unfold Jv;rw[show N3 ((l,0,l,(l.length:Int),0,()),(),())=_ from k1];simp only[ao,Zj _ (show (0:Int)<=(l.flatten.length:Int) by omega) (by omega)];rw[show ND (((),l,(l.length:Int),0,()),(),([],()))=_ from k2];rfl
end
section
def SS(l:List Int):Prop:=l.Pairwise (· < ·)
theorem SS.uniq: ∀ {a b:List Int},SS a->SS b->(∀y,y∈a↔y∈b)->a=b
 | [],[],_,_,_=>rfl
 | [],b::l,_,_,h=>by have:=(h b).2 aK;cases this
 |a::l,[],_,_,h=>by have:=(h a).1 aK;cases this
 |a::l,b::m,ha,hb,h=>by
  obtain⟨a1,a2⟩:=DS.1 ha;obtain⟨b1,b2⟩:=DS.1 hb
  have hab:a=b:=by
   rcases aZ.1 ((h a).1 aK) with e|e
   ·exact e
   ·rcases aZ.1 ((h b).2 aK) with f|f
    ·exact f.symm
    ·have:=b1 a e;have:=a1 b f;omega
  subst hab
  have hlm:l=m:=SS.uniq a2 b2 λy=>by
   constructor
   ·intro hy;rcases aZ.1 ((h y).1 (aI _ hy)) with e|e
    ·have:=a1 y hy;omega
    ·exact e
   ·intro hy;rcases aZ.1 ((h y).2 (aI _ hy)) with e|e
    ·have:=b1 y hy;omega
    ·exact e
  rw[hlm]
theorem UR{A B:List Int}{x:Int}(h:SS (A++B))(ha: ∀y∈A,y<x)(hb: ∀y∈B,x<y):SS (A++ [x] ++B):=by
 obtain⟨h1,h2,h3⟩:=DY.1 h;refine DY.2 ⟨DY.2 ⟨h1,D5 _ _,λa h b hb'=> ?_⟩,h2,λa h b hb'=> ?_⟩
 ·rw[aL.1 hb'];exact ha a h
 ·rcases bC.1 h with h|h
  ·exact h3 a h b hb'
  ·rw[aL.1 h];exact hb b hb'
theorem abf(l:List Int)(x:Int)(hl:l.length<=1000)(hs:SS l): ∃r,I0 l x=some (r,())/\SS r/\(∀y,y∈r↔y=x\/y∈l)/\r.length<=l.length+1/\(x∉l->r.length=l.length+1):=by
 have hm:l.length<=maxLen:=by unfold maxLen;omega
 rcases Ko (B:=Jj) l.length (λk=>((l,x,(k:Int),()),(),())) ((l,x,(l.length:Int),()),(),()) (λk=>((l,x,(k:Int),()),(),())) (λk=>match l[k]? with |some y=> !decide (y<x)|none=>false)
  (by simp only[Jj];rw[C1,if_neg (by omega)])
  (λk hk=>by
    have c1: (k:Int)< (l.length:Int):=by omega
    have c2: (0:Int)<=(k:Int):=by omega
    simp only[Jj,C1,B3,if_pos c1,if_pos c2,DG,aq hk,ao,BI hm hk];by_cases h:l[k]<x<;>simp[h]) with ⟨k1,k2⟩| ⟨i,hi,k1,k2,k3⟩
 ·have all: ∀y∈l,y<x:=by
   intro y hy;obtain⟨k,hk,rfl⟩:=aU hy;have:=k2 k hk;rw[aq hk] at this;simpa using this
  refine⟨l++ [x],UJ l x hl all,?_,?_,?_,λ_=>by simp⟩
  ·have:=UR (A:=l) (B:=[]) (x:=x) (by simpa using hs) all (by simp);simpa using this
  ·intro y;simp[or_comm]
  ·simp
 ·rw[aq hi] at k2;simp only[bN,decide_eq_false_iff_not,Int.not_lt] at k2
  have lt: ∀y∈l.take i,y<x:=by
   intro y hy;obtain⟨j,hj,rfl⟩:=aU hy;have hj':j<i:=by simp at hj;omega
   have:=k3 j hj';rw[aq (by omega)] at this;rw[D4];simpa using this
  have hd:l.drop i=l[i]::l.drop (i+1):=cg hi;have hsp:l.take i++l.drop i=l:=List.take_append_drop i l
  have ge: ∀y∈l.drop i,l[i] <=y:=by
   intro y hy;rw[hd] at hy;rcases aZ.1 hy with rfl|hy
   ·exact cU _
   ·have h2:SS (l.drop i):=List.Pairwise.sublist (List.drop_sublist i l) hs;rw[hd] at h2;exact Int.le_of_lt ((DS.1 h2).1 y hy)
  unfold I0;rw[show Qw ((l,x,0,()),(),())=_ from k1];have c1: (i:Int)< (l.length:Int):=by omega
  have c2: (0:Int)<=(i:Int):=by omega
  simp only[ao,C1,G4,B3,if_pos c1,if_pos c2,DG,aq hi,bF];by_cases he:l[i] =x
  ·simp only[if_pos he,if_pos (IC (show l.length<=1048576 by omega))];refine⟨l,rfl,hs,λy=>⟨.inr,?_⟩,by omega,λh=>absurd (by rw[<-he];exact DJ hi) h⟩
   rintro (rfl|h)
   ·rw[<-he];exact DJ hi
   ·exact h
  ·have d1: (0:Int)<=0/\(0:Int)<=(i:Int)/\(i:Int)<=(l.length:Int):=by omega
   have d2: (0:Int)<=(i:Int)/\(i:Int)<=(l.length:Int)/\(l.length:Int)<=(l.length:Int):=by omega
   have e1: (l.drop i).take (l.length-i)=l.drop i:=bW (by simp);simp only[if_neg he,if_pos d1,if_pos d2,D7,cE,D0,e1];rw[if_pos (IC (by simp;omega)),if_pos (IC (by simp;omega)),if_pos (IC (by simp;omega))];refine⟨_,rfl,UR (by rw[hsp];exact hs) lt (λy hy=> ?_),λy=> ?_,by simp;omega,λ_=>by simp;omega⟩
   ·have:=ge y hy;omega
   ·conv=>rhs;rw[<-hsp]
    simp only[bC,aL];constructor
    ·rintro ((h|h)|h)
     ·exact .inr (.inl h)
     ·exact .inl h
     ·exact .inr (.inr h)
    ·rintro (h|h|h)
     ·exact .inl (.inr h)
     ·exact .inl (.inl h)
     ·exact .inr h
theorem aaF{β:Type}(l:List Int)(hl:l.length<=500){mk:Nat->List Int->β}{ε:Type}{B:β->Option (β⊕ε)}{E:List Int->ε}
  (h0: ∀v,B (mk l.length v)=some (.inr (E v)))
  (h1: ∀k v x,l[k]? =some x->B (mk k v)=(I0 v x).bind λy=>some (.inl (mk (k+1) y.1)))
  (v:List Int) (hv:SS v) (hvl:v.length<=500): ∃r,nx B (mk 0 v)=some (E r)/\SS r/\(∀y,y∈r↔y∈v\/y∈l)/\r.length<=v.length+l.length:=by
 have go: ∀ (n k:Nat) (v:List Int),k+n=l.length->SS v->v.length+n<=1000-> ∃r,nx B (mk k v)=some (E r)/\SS r/\(∀y,y∈r↔y∈v\/y∈l.drop k)/\r.length<=v.length+n:=by
  intro n
  induction n with
  |zero=>
   intro k v hk hv _;have :k=l.length:=by omega
   subst this;exact⟨v,lM (h0 v),hv,by simp,by omega⟩
  |succ n ih=>
   intro k v hk hv hn;have hlt:k<l.length:=by omega
   obtain⟨r,r1,r2,r3,r4,_⟩:=abf v l[k] (by omega) hv;obtain⟨s,s1,s2,s3,s4⟩:=ih (k+1) r (by omega) r2 (by omega);refine⟨s,?_,s2,λy=> ?_,by omega⟩
   ·rw[sr (by rw[h1 k v _ (aq hlt),r1];rfl)];exact s1
   ·rw[s3,r3,cg hlt,aZ];constructor
    ·rintro ((h|h)|h)
     ·exact .inr (.inl h)
     ·exact .inl h
     ·exact .inr (.inr h)
    ·rintro (h|h|h)
     ·exact .inl (.inr h)
     ·exact .inl (.inl h)
     ·exact .inr h
 obtain⟨r,h1,h2,h3,h4⟩:=go l.length 0 v (by omega) hv (by omega);rw[cE] at h3;exact⟨r,h1,h2,h3,h4⟩
theorem YO(a b:List Int)(ha:a.length<=100)(hb:b.length<=100): ∃r,Ih a b=some (r,())/\SS r/\(∀y,y∈r↔y∈a\/y∈b)/\r.length<=a.length+b.length:=by
 have am:a.length<=maxLen:=by unfold maxLen;omega
 have bm:b.length<=maxLen:=by unfold maxLen;omega
 obtain⟨r,r1,r2,r3,r4⟩:=aaF (B:=Hb) (mk:=λk v=>((a,b,(),(k:Int),()),(),(v,()))) (E:=λv=>((b,(),()),(),(v,()))) a (by omega)
  (λv=>by simp only[Hb];rw[C1,if_neg (by omega)])
  (λk v x hx=>by
    have hk:=C8 hx;have c1: (k:Int)< (a.length:Int):=by omega
    have c2: (0:Int)<=(k:Int):=by omega
    simp only[Hb,C1,B3,if_pos c1,if_pos c2,DG,hx,ao,BI am hk])
  [] List.Pairwise.nil (bM _)
 obtain⟨s,s1,s2,s3,s4⟩:=aaF (B:=Hc) (mk:=λk v=>((b,(),(k:Int),()),(),(v,()))) (E:=λv=>(((),()),(),(v,()))) b (by omega)
  (λv=>by simp only[Hc];rw[C1,if_neg (by omega)])
  (λk v x hx=>by
    have hk:=C8 hx;have c1: (k:Int)< (b.length:Int):=by omega
    have c2: (0:Int)<=(k:Int):=by omega
    simp only[Hc,C1,B3,if_pos c1,if_pos c2,DG,hx,ao,BI bm hk])
  r r2 (by simp at r4;omega)
 unfold Ih;rw[show NB ((a,b,(),0,()),(),([],()))=_ from r1];simp only[ao];rw[show NC ((b,(),0,()),(),(r,()))=_ from s1];refine⟨s,rfl,s2,λy=> ?_,by simp at r4;omega⟩;rw[s3,r3];simp
def SL(l:List Int):Prop:=l.Pairwise (· <= ·)
theorem ZN(A R:List Int)(a x:Int): ((A++a::x::R).set (A.length+1) a).set A.length x=A++x::a::R:=by
 induction A with
 |nil=>rfl
 |cons b A ih=>simp only[cG,bD,List.set_cons_succ,ih]
theorem XZ(D:List Int)(n k:Int)(x:Int)(hn:n<=12): ∀ (A C:List Int),A.length+C.length+D.length<=12->SL (A++C)->(∀c∈C,x<c)->
  ∃Q,FD (((),0,n,k,(A.length:Int),()),(),(A++x:: (C++D),()))=some (((),0,n,k,()),(),(Q++D,()))/\SL Q/\Q.Perm (x:: (A++C)):=by
 intro A
 induction h:A.length generalizing A with
 |zero=>intro C hl hs hc;have :A= [] :=da.1 h;subst this;refine⟨x::C,lM ?_,DS.2 ⟨λc h=>Int.le_of_lt (hc c h),hs⟩,by simp⟩;simp only[EE,C1];rw[if_neg (by simp)];rfl
 |succ m ih=>
  intro C hl hs hc;obtain⟨A',a,rfl⟩: ∃A' a,A=A'++ [a] :=⟨A.dropLast,A.getLast (by intro e;subst e;simp at h),(List.dropLast_concat_getLast _).symm⟩
  have hm:A'.length=m:=by simpa using h
  have c1: ((m+1:Nat):Int)>0:=by omega
  have hlen: ((A'++ [a])++x:: (C++D)).length=m+2+C.length+D.length:=by simp;omega
  have c2: (0:Int)<=((m+1:Nat):Int)/\((m+1:Nat):Int)< (((A'++ [a])++x:: (C++D)).length:Int):=by rw[hlen];omega
  have c3: (0:Int)<=((m+1-1:Nat):Int)/\((m+1-1:Nat):Int)< (((A'++ [a])++x:: (C++D)).length:Int):=by rw[hlen];omega
  have e1: ((A'++ [a])++x:: (C++D))[m+1]? =some x:=by rw[<-h,bc (by simp)];simp
  have e2: ((A'++ [a])++x:: (C++D))[m+1-1]? =some a:=by rw[aW (by simp;omega),bc (by omega)];simp[hm]
  have pw:IntKind.wrap .i64 (((m+1:Nat):Int)-1)=((m+1-1:Nat):Int):=BH (by omega) (by unfold maxLen;omega)
  have less:It x a=some (decide (x<a),()):=by unfold It IU;simp only[beq_self_eq_true,df,ao,BK]
  by_cases hxa:x<a
  ·have hsw: (((A'++ [a])++x:: (C++D)).set (m+1) a).set (m+1-1) x=A'++x:: ((a::C)++D):=by
    have:=ZN A' (C++D) a x;rw[hm] at this;simpa using this
   have c5:m+1-1< (((A'++ [a])++x:: (C++D)).set (m+1) a).length:=by rw[DL,hlen];omega
   have hz:=aq c5
   obtain⟨Q,q1,q2,q3⟩:=ih A' hm (a::C) (by simp at hl ⊢;omega) (by simpa using hs) (λc h=>by
    rcases aZ.1 h with rfl|h
    ·exact hxa
    ·exact hc c h)
   refine⟨Q,?_,q2,q3.trans (by simp)⟩;unfold FD at q1 ⊢;rw[<-q1];refine sr ?_;simp only[EE,C1,B3,if_pos c1,if_pos c2,pw,if_pos c3,DG,e1,e2,ao,less,if_pos hxa,hz,hsw];rfl
  ·have hall: ∀y∈A',y<=a:=by
    intro y hy;have h1:SL (A'++ [a]):=(DY.1 hs).1;exact (DY.1 h1).2.2 y hy a (by simp)
   refine⟨(A'++ [a])++x::C,?_,?_,?_⟩
   ·refine lM ?_;rw[show (A'++ [a])++x::C++D=(A'++ [a])++x:: (C++D) by simp];simp only[EE,C1,B3,if_pos c1,if_pos c2,pw,if_pos c3,DG,e1,e2,ao,less,if_neg hxa]
   ·obtain⟨p1,p2,p3⟩:=DY.1 hs;refine DY.2 ⟨p1,DS.2 ⟨λc h=>Int.le_of_lt (hc c h),p2⟩,λy hy z hz=> ?_⟩
    have hyx:y<=x:=by
     rcases bC.1 hy with h|h
     ·have:=hall y h;omega
     ·rw[aL.1 h];omega
    rcases aZ.1 hz with rfl|hz
    ·exact hyx
    ·have:=hc z hz;omega
   ·exact List.perm_middle
theorem ST(l:List Int)(hl:l.length<=12): ∃r,EJ l 0 (l.length:Int)=some (r,())/\SL r/\r.Perm l:=by
 have hm:l.length<=maxLen:=by unfold maxLen;omega
 unfold EJ;cases l with
 |nil=>
  refine⟨[],?_,List.Pairwise.nil,List.Perm.refl _⟩
  rw[show FC (((),0,(([]:List Int).length:Int),IntKind.wrap .i64 (0+1),()),(),([],()))=some ((()),(),([],())) from lM (by rw[show IntKind.wrap .i64 ((0:Int)+1)=((1:Nat):Int) from by rw[vN (by omega) (by omega)];rfl];simp only[Eo,C1];rw[if_neg (by simp)])]
  rfl
 |cons b l=>
  generalize hL:b::l=L at hl hm;have hpos:0<L.length:=by rw[<-hL];simp
  have outer:=CP (B:=Eo) (λs=> ∃ (k:Nat) (Q:List Int),0<k/\k<=L.length/\Q.length=k/\SL Q/\Q.Perm (L.take k)/\s=(((),0,(L.length:Int),(k:Int),()),(),(Q++L.drop k,()))) (λs=>L.length-s.1.2.2.2.1.toNat) (λe=> ∃Q:List Int,SL Q/\Q.Perm L/\e=((()),(),(Q,())))
   (λs hs=>by
     obtain⟨k,Q,h0,hk,hq,hq2,hq3,rfl⟩:=hs;by_cases hlt:k<L.length
     ·have c1: (k:Int)< (L.length:Int):=by omega
      obtain⟨R,r1,r2,r3⟩:=XZ (L.drop (k+1)) (L.length:Int) (k:Int) L[k] (by omega) Q [] (by simp;omega) (by simpa using hq2) (by simp);have hd:L.drop k=L[k]::L.drop (k+1):=cg hlt;rw[hq,bF,<-hd] at r1;refine .inl ⟨(((),0,(L.length:Int),((k+1:Nat):Int),()),(),(R++L.drop (k+1),())),?_,⟨k+1,R,by omega,by omega,?_,r2,?_,rfl⟩,?_⟩
      ·simp only[Eo,C1,if_pos c1,r1,ao,BI hm hlt]
      ·rw[r3.length_eq];simp[hq]
      ·rw[DR,aq hlt];refine r3.trans ?_;rw[bP];refine List.Perm.trans ?_ (List.perm_append_comm);simpa using hq3
      ·simp only[DG];omega
     ·have :k=L.length:=by omega
      subst this;refine .inr ⟨_,by simp only[Eo,C1];rw[if_neg (by omega)],Q,hq2,by simpa using hq3,by simp⟩)
   (s:=(((),0,(L.length:Int),((1:Nat):Int),()),(),(L,()))) ⟨1,L.take 1,by omega,by omega,by simp;omega,by rw[<-hL];simp[SL],List.Perm.refl _,by rw[List.take_append_drop]⟩
  obtain⟨e,h1,Q,q1,q2,rfl⟩:=outer;rw[show IntKind.wrap .i64 ((0:Int)+1)=((1:Nat):Int) from by rw[vN (by omega) (by omega)];rfl,show FC (((),0,(L.length:Int),((1:Nat):Int),()),(),(L,()))=_ from h1];exact⟨Q,rfl,q1,q2⟩
theorem aaL{n:Nat}(hn:n<=12): ∃m,Oc (IntKind.wrap .u64 (n:Int))=some (m,()):=by
 have :n<=5\/n=6\/n=7\/n=8\/n=9\/n=10\/n=11\/n=12:=by omega
 rcases this with h|rfl|rfl|rfl|rfl|rfl|rfl|rfl
 ·exact RI h
 ·exact⟨3,by kernel_rfl⟩
 ·exact⟨3,by kernel_rfl⟩
 ·exact⟨4,by kernel_rfl⟩
 ·exact⟨4,by kernel_rfl⟩
 ·exact⟨4,by kernel_rfl⟩
 ·exact⟨4,by kernel_rfl⟩
 ·exact⟨4,by kernel_rfl⟩
theorem ZK(l:List Int)(hl:l.length<=12): ∃r,Hl l=some (r,())/\SL r/\r.Perm l:=by
 obtain⟨m,hm⟩:=aaL hl;obtain⟨r,r1,r2,r3⟩:=ST l hl
 have hp:Fk l 0 (l.length:Int) m=some (r,()):=by
  unfold Fk
  have :Hm (((),0,(l.length:Int),m,true,true,()),(),(l,()))=some ((()),(),(r,())):=by refine lM ?_;simp only[FE];rw[vN (by omega) (by omega),C1,if_pos (by omega),r1,ao,B6 r3.length_eq]
  rw[this];rfl
 unfold Hl;simp only[hm,ao,hp];exact⟨r,B6 r3.length_eq _ _,r2,r3⟩
theorem TY(l:List Int)(hl:l.length<=1000)(hs:SL l)(k0:Nat)(h0:0<k0)(hk:k0<l.length)(hss:SS (l.take k0))(heq:l[k0] =l[k0-1]):
  ∃e,LM (((),(k0:Int),(k0,l.length-k0),1,()),(),(l,()))=some e/\ ∃ (kk:Nat) (v:List Int),e=(((),(kk:Int),()),(),(v,()))/\kk<=l.length/\v.length=l.length/\SS (v.take kk)/\ ∀y,y∈v.take kk↔y∈l:=by
 have hm:l.length<=maxLen:=by unfold maxLen;omega
 have mem0: ∀y,y∈l.take k0↔y∈l.take (k0+1):=by
  intro y;rw[DR,aq hk,heq];simp only[Option.toList_some,bC,aL];refine⟨.inl,?_⟩
  rintro (h|rfl)
  ·exact h
  ·rw[List.mem_take_iff_getElem];exact⟨k0-1,by omega,rfl⟩
 refine CP (B:=Gl) (λs=> ∃ (kk k2:Nat) (v:List Int),s=(((),(kk:Int),(k0,l.length-k0),(k2:Int),()),(),(v,()))/\0<k2/\k0+k2<=l.length/\k0<=kk/\kk+1<=k0+k2/\v.length=l.length/\SS (v.take kk)/\(∀y,y∈v.take kk↔y∈l.take (k0+k2))/\v.drop (k0+k2-1)=l.drop (k0+k2-1)) (λs=>l.length-s.1.2.2.2.1.toNat) _
  (λs hI=> ?_) (s:=(((),(k0:Int),(k0,l.length-k0),((1:Nat):Int),()),(),(l,()))) ⟨k0,1,l,rfl,by omega,by omega,by omega,by omega,rfl,hss,mem0,rfl⟩
 obtain⟨kk,k2,v,rfl,a1,a2,a3,a4,a5,a6,a7,a8⟩:=hI;by_cases hlt:k0+k2<l.length
 ·left;have c1: (k2:Int)< ((l.length-k0:Nat):Int):=by omega
  have c2: (0:Int)<=(k2:Int)/\(k2:Int)< ((l.length-k0:Nat):Int):=by omega
  have c3: (0:Int)<=((k2-1:Nat):Int)/\((k2-1:Nat):Int)< ((l.length-k0:Nat):Int):=by omega
  have c4: (0:Int)<=(kk:Int)/\(kk:Int)< (v.length:Int):=by omega
  have g1:v[k0+(k2-1)]? =some l[k0+k2-1] :=by have:=congrArg (λz:List Int=>z[0]?) a8;simp only[bf,bH] at this;rw[show k0+(k2-1)=k0+k2-1 by omega,this];exact aq _
  have g2:v[k0+k2]? =some l[k0+k2] :=by have:=congrArg (λz:List Int=>z[1]?) a8;simp only[bf] at this;rw[show k0+k2-1+1=k0+k2 by omega] at this;rw[this];exact aq _
  have g3:v[kk]? =some (v[kk]'(by omega)):=aq _;have hle:l[k0+k2-1] <=l[k0+k2] :=DQ.1 hs _ _ (by omega) hlt (by omega)
  have hdd:v.drop (k0+k2)=l.drop (k0+k2):=by have:=congrArg (List.drop 1) a8;simpa [cn,show k0+k2-1+1=k0+k2 by omega] using this
  have hta:l.take (k0+k2+1)=l.take (k0+k2)++ [l[k0+k2]] :=by rw[DR,aq hlt];rfl
  have inb: ∀y∈l.take (k0+k2),y<=l[k0+k2-1] :=by
   intro y hy;obtain⟨j,hj,rfl⟩:=aU hy;have hj':j<k0+k2:=by simp at hj;omega
   rw[D4];by_cases e:j=k0+k2-1
   ·subst e;exact cU _
   ·exact DQ.1 hs _ _ (by omega) (by omega) (by omega)
  have hkm:k2<l.length:=by omega
  have hkm':kk<l.length:=by omega
  simp only[Gl,C1,Ef,G4,B3,if_pos c1,if_pos c2,BH a1 (by unfold maxLen;omega),if_pos c3,DG,g1,g2,ao,BI hm hkm,BI hm hkm',if_pos c4,g3];by_cases he:l[k0+k2] =l[k0+k2-1]
  ·simp only[if_pos he];refine⟨_,rfl,⟨kk,k2+1,v,rfl,by omega,by omega,a3,by omega,a5,a6,λy=> ?_,hdd⟩,?_⟩
   ·rw[a7,show k0+(k2+1)=k0+k2+1 by omega,hta,he];simp only[bC,aL];refine⟨.inl,?_⟩
    rintro (h|rfl)
    ·exact h
    ·rw[List.mem_take_iff_getElem];exact⟨k0+k2-1,by omega,rfl⟩
   ·simp only[DG];omega
  ·simp only[if_neg he];have hts: (v.set kk l[k0+k2]).take (kk+1)=v.take kk++ [l[k0+k2]] :=yJ _ (by omega);refine⟨_,rfl,⟨kk+1,k2+1,v.set kk l[k0+k2],rfl,by omega,by omega,by omega,by omega,by simp[a5],?_,λy=> ?_,?_⟩,?_⟩
   ·rw[hts]
    have:=UR (A:=v.take kk) (B:=[]) (x:=l[k0+k2]) (by simpa using a6) (λy hy=>by have:=inb y ((a7 y).1 hy);omega) (by simp)
    simpa using this
   ·rw[hts,show k0+(k2+1)=k0+k2+1 by omega,hta];simp only[bC,a7]
   ·rw[show k0+(k2+1)-1=k0+k2 by omega,List.drop_set_of_lt (by omega),hdd]
   ·simp only[DG];omega
 ·right;have hkk:k0+k2=l.length:=by omega
  refine⟨_,by simp only[Gl,C1];rw[if_neg (by omega)],kk,v,rfl,by omega,a5,a6,λy=> ?_⟩;rw[a7,hkk,DP]
theorem VN(l:List Int)(hl:l.length<=1000)(hs:SL l): ∃r,Gi l=some (r,())/\SS r/\(∀y,y∈r↔y∈l)/\r.length<=l.length:=by
 have hm:l.length<=maxLen:=by unfold maxLen;omega
 unfold Gi;rw[C1];split
 ·refine⟨l,rfl,?_,λ_=>Iff.rfl,ay _⟩
  match l with
  | [] =>exact List.Pairwise.nil
  | [a] =>exact D5 _ _
  |a::b::l=>simp at*;omega
 ·have fA:=CP (B:=Fc) (λs=> ∃k:Nat,0<k/\k<=l.length/\SS (l.take k)/\s=(((),(k:Int),()),(),(l,()))) (λs=>l.length-s.1.2.1.toNat)
   (λe=>(e= .inr (((),(),()),(),(l,()))/\SS l)\/ ∃ (kk:Nat) (W:List Int),e= .inl (((),(0,kk),()),(),(W,()))/\kk<=W.length/\kk<=l.length/\SS (W.take kk)/\ ∀y,y∈W.take kk↔y∈l)
   (λs hI=>by
     obtain⟨k,h0,hkl,hss,rfl⟩:=hI;by_cases hk:k<l.length
     ·have c1: (k:Int)< (l.length:Int):=by omega
      have c2: (0:Int)<=(k:Int)/\(k:Int)< (l.length:Int):=by omega
      have c3: (0:Int)<=((k-1:Nat):Int)/\((k-1:Nat):Int)< (l.length:Int):=by omega
      have c4: (0:Int)<=(k:Int)/\(k:Int)<=(l.length:Int)/\(l.length:Int)<=(l.length:Int):=by omega
      have e1:l[k]? =some l[k] :=aq hk;have e2:l[k-1]? =some l[k-1] :=aq (by omega);by_cases he:l[k] =l[k-1]
      ·right;obtain⟨e,f1,kk,v,rfl,f2,f3,f4,f5⟩:=TY l hl hs k h0 hk hss he;have d1: (0:Int)<=(kk:Int)/\(kk:Int)<=(v.length:Int)/\(v.length:Int)<=(v.length:Int):=by omega
       have d2:kk+(v.length-kk)<=v.length:=by omega
       have d3: (0:Int)<=0/\(0:Int)<=(kk:Int)/\(kk:Int)<=(v.length:Int):=by omega
       simp only[Fc,C1,B3,if_pos c1,if_pos c2,BH h0 (by omega),if_pos c3,DG,e1,e2,ao,G4,if_pos he,if_pos c4,aP];rw[f1];simp only[ao,DG,if_pos d1,if_pos d2,if_pos d3,D7,D0]
       have ht: (v.take kk++List.replicate (v.length-kk) 0++v.drop (kk+(v.length-kk))).take kk=v.take kk:=by rw[bi,List.take_append_of_le_length (by simp;omega),List.take_take,Nat.min_self]
       refine⟨_,rfl,.inr ⟨kk,_,rfl,by simp;omega,f2,by rw[ht];exact f4,λy=>by rw[ht];exact f5 y⟩⟩
      ·left;have hle:l[k-1] <=l[k] :=DQ.1 hs _ _ (by omega) hk (by omega);refine⟨(((),((k+1:Nat):Int),()),(),(l,())),?_,⟨k+1,by omega,by omega,?_,rfl⟩,?_⟩
       ·simp only[Fc,C1,B3,if_pos c1,if_pos c2,BH h0 (by omega),if_pos c3,DG,e1,e2,ao,G4,BI hm hk,if_neg he]
       ·rw[DR,e1]
        have:=UR (A:=l.take k) (B:=[]) (x:=l[k]) (by simpa using hss) (λy hy=>by
         obtain⟨j,hj,rfl⟩:=aU hy;have hj':j<k:=by simp at hj;omega
         rw[D4]
         have :l[j] <=l[k-1] :=by
          by_cases e:j=k-1
          ·subst e;exact cU _
          ·exact DQ.1 hs _ _ (by omega) (by omega) (by omega)
         omega) (by simp)
        simpa using this
       ·simp only[DG];omega
     ·have hk':k=l.length:=by omega
      subst hk';rw[DP] at hss;exact .inr ⟨_,by simp only[Fc,C1];rw[if_neg (by omega)],.inl ⟨rfl,hss⟩⟩)
   (s:=(((),((1:Nat):Int),()),(),(l,()))) ⟨1,by omega,by omega,by
     cases l with
     |nil=>exact List.Pairwise.nil
     |cons a l=>exact D5 _ _,rfl⟩
  obtain⟨e,h1,h2⟩:=fA;rw[show Jp (((),1,()),(),(l,()))=_ from h1];rcases h2 with ⟨rfl,h2⟩| ⟨kk,W,rfl,h3,h4,h5,h6⟩
  ·exact⟨l,rfl,h2,λ_=>Iff.rfl,ay _⟩
  ·refine⟨W.take kk,?_,h5,h6,by simp;omega⟩;simp only[ao,DU];exact B6 ⟨trivial,h3⟩ _ _
theorem Xa(l:List Int)(hl:l.length<=12): ∃r,Io l=some (r,())/\SS r/\(∀y,y∈r↔y∈l)/\r.length<=l.length:=by obtain⟨s,s1,s2,s3⟩:=ZK l hl;have sl:=s3.length_eq;obtain⟨r,r1,r2,r3,r4⟩:=VN s (by omega) s2;unfold Io IA;rw[B6 (IC (by omega)),ao,s1,ao,B6 sl,r1];exact⟨r,rfl,r2,λy=>by rw[r3,s3.mem_iff],by omega⟩
theorem abW(a b:List Int)(h:a.length+b.length<=12): ∃r,Ih a b=some (r,())/\I6 a b=some (r,())/\SS r/\(∀y,y∈r↔y∈a\/y∈b)/\r.length<=a.length+b.length:=by
 obtain⟨r,r1,r2,r3,r4⟩:=YO a b (by omega) (by omega);obtain⟨s,s1,s2,s3,s4⟩:=Xa (a++b) (by simp;omega);have hrs:r=s:=r2.uniq s2 λy=>by rw[r3,s3,bC]
 subst hrs;refine⟨r,r1,?_,r2,r3,r4⟩;unfold I6
 have hc:=Xd [a,b] (by simp) (by intro x hx;simp only[aZ,List.not_mem_nil,or_false] at hx;rcases hx with rfl|rfl<;>omega)
 rw[hc,ao,show ([a,b]:List (List Int)).flatten=a++b by simp,s1];rfl
end
section
theorem H6(m:jY)(e:Int)(h:NY 1048576 m)(hv:Er m=some (true,())): ∃c b,Fz m e=some (c,b,())/\Iu m e=some (c,b,())/\FX maxLen c/\(b=GG e 1 (m.configs.length:Int))/\(b=true->Ek c=some (true,())/\c.epoch=e)/\(b=false->c=⟨0,0,[],[]⟩):=by
 obtain⟨b,m1,m2⟩:=masterLog m (Fh h);rw[hv] at m1;simp only[af,au,and_true] at m1;subst m1;obtain⟨f1,_,_⟩:=I2 (Fh h) hv;have zero:FX maxLen ⟨0,0,[],[]⟩:=⟨bM _,bM _⟩
 have hl:=h.1;unfold Fz Iu;simp only[hv,m2,EM,Jo,ao,Ef,CJ];cases hw:GG e 1 (m.configs.length:Int) with
 |false=>exact⟨_,_,rfl,rfl,zero,rfl,nofun,λ_=>rfl⟩
 |true=>
  have hw:=Eg.1 hw;simp only[CJ];rw[vN (n:=e-1) (by omega) (by omega)];have hlt: (e-1).toNat<m.configs.length:=by omega
  have hk:=h.2 _ (DJ hlt)
  have copy: ∀c:nF,FX 1048576 c->Hk c=some (c,())/\FV c=some (c,()):=by intro c hc;unfold Hk FV;simp only[bF];rw[B6 (IC hc.1),B6 (IC hc.2)];exact⟨rfl,rfl⟩
  rw[B6 (by omega),B6 (by omega),aq hlt];simp only[ao,(copy _ hk).1,(copy _ hk).2];refine⟨_,_,rfl,rfl,Ei hk,rfl,λ_=>⟨(f1 _ hlt).1,?_⟩,nofun⟩;rw[(f1 _ hlt).2];omega
theorem Hs(x:qg)(ok:Ez 1048576 x)(hv:Ee x=some (true,())): ∃c b,Ej x.master=some (c,b,())/\Fg x.master=some (c,b,())/\FX maxLen c/\(b=decide (x.master.activated>0))/\(b=true->Ek c=some (true,())/\c.epoch=x.master.activated)/\(b=false->c=⟨0,0,[],[]⟩):=by
 have vc:=Es ok hv;obtain⟨_,f2,f3⟩:=I2 (Fh ok.2.2.1) vc.ml;obtain⟨c,b,c1,c2,c3,c4,c5,c6⟩:=H6 x.master x.master.activated ok.2.2.1 vc.ml;unfold Ej Fg;rw[c1,c2];refine⟨c,b,rfl,rfl,c3,?_,c5,c6⟩;rw[c4];unfold GG;rw[decide_eq_true f3,de];by_cases h:x.master.activated>0
 ·rw[decide_eq_true h,decide_eq_true (by omega)]
 ·rw[decide_eq_false h,decide_eq_false (by omega)]
end
section
def PR(p:Nat->Bool)(n:Nat):List Int:=((List.range n).filter p).map λ(k:Nat)=>(k:Int)
theorem U0(p:Nat->Bool)(n:Nat):PR p (n+1)=PR p n++if p n=true then [(n:Int)] else [] :=by
 unfold PR;rw[List.range_succ,DW,bI]
 congr 1
 cases h:p n<;>simp[h]
theorem Uc(p:Nat->Bool)(n:Nat)(x:Int):x∈PR p n↔ ∃k:Nat,k<n/\p k=true/\x=(k:Int):=by
 unfold PR;simp only[aG,D6,bw];constructor
 ·rintro⟨k,⟨h1,h2⟩,rfl⟩;exact⟨k,h1,h2,rfl⟩
 ·rintro⟨k,h1,h2,rfl⟩;exact⟨k,⟨h1,h2⟩,rfl⟩
theorem WK(p:Nat->Bool)(n:Nat): (PR p n).length<=n:=by unfold PR;rw[aH];exact aX (D8 _ _) (by simp)
theorem WJ(p:Nat->Bool){n:Nat}(hn:n<=5):NQ (PR p n):=by
 have hp: (PR p n).Pairwise (· < ·):=by unfold PR;rw[List.pairwise_map];exact (List.Pairwise.filter _ List.pairwise_lt_range).imp λh=>by omega
 intro k hk;have hm: (PR p n)[k] ∈PR p n:=DJ hk;obtain⟨j,h1,_,h2⟩:=(Uc p n _).1 hm;exact⟨⟨by omega,by omega⟩,λh0=>DQ.1 hp (k-1) k (by omega) hk (by omega)⟩
theorem Zm(p q:Nat->Bool)(n:Nat): (PR p n).filter (λx=>decide (x∈PR q n))=PR (λk=>p k&&q k) n:=by
 unfold PR;rw[List.filter_map,List.filter_filter]
 congr 1
 apply List.filter_congr;intro k hk;have hk:=bw.1 hk
 have : (((λx=>decide (x∈PR q n))∘λ(k:Nat)=>(k:Int)) k)=q k:=by
  show decide ((k:Int)∈PR q n)=q k;cases hq:q k with
  |true=>exact decide_eq_true ((Uc q n _).2 ⟨k,hk,hq,rfl⟩)
  |false=>
   refine decide_eq_false λh=> ?_;obtain⟨j,_,h1,h2⟩:=(Uc q n _).1 h;have :j=k:=by omega
   subst this;rw[hq] at h1;cases h1
 have e:decide ((k:Int)∈List.map (λ(k:Nat)=>(k:Int)) (List.filter q (List.range n)))=q k:=this;simp only[Function.comp,e,Bool.and_comm]
def VH(x:qg)(k:Nat):Bool:=match x.servers[k]? with |some s=>s.up|none=>false
def OT(l:List Int)(k:Nat):Bool:=match l[k]? with |some s=>s==0|none=>false
theorem ZT{p:Nat->Bool}{k:Nat}(h:k<=1000)(y:Int): (PR p k++ [y]).length*8<=2 ^ 40:=by have:=WK p k;refine IC ?_;rw[bJ,cy];omega
theorem XH(x:qg)(hl:x.servers.length=5)(hv:Ee x=some (true,())):Ln x=some (PR (VH x) 5,()):=by
 have ex: (⟨x.now,x.servers,x.sides,⟨x.master.configs,x.master.activated⟩,x.masterUp,⟨x.lease.epoch,x.lease.holder,x.lease.ends⟩,x.places⟩:qg)=x:=rfl
 have fA:=B8 (B:=IT) x.servers (λk (b:List Int)=>(((),(),(k:Int),()),((x.now,x.servers,x.sides,x.master.configs,x.master.activated,x.masterUp,x.lease.epoch,x.lease.holder,x.lease.ends,x.places,()),()),(b,()))) (λk b=>b=PR (VH x) k) (λ_ _ _=>(((),()),(),(PR (VH x) 5,())))
  (λb hb=>by simp only[IT];rw[C1,if_neg (by omega),hb,hl])
  (λk b s hs hb=>by
    have hk:=C8 hs;have c1: (k:Int)< (x.servers.length:Int):=by omega
    have c2: (0:Int)<=(k:Int):=by omega
    have hup:VH x k=s.up:=by unfold VH;rw[hs]
    subst hb;simp only[IT,C1,B3,if_pos c1,if_pos c2,DG,hs,ao,ex,hv,CJ,BI (n:=5) (by decide) (by omega:k<5),if_pos (ZT (p:=VH x) (k:=k) (by omega) (k:Int))];refine .inl ⟨PR (VH x) (k+1),?_,rfl,trivial⟩;rw[U0,hup];cases s.up
    ·simp;rfl
    ·rfl)
  0 [] (bM _) rfl
 unfold Ln;rw[show Pa (((),(),0,()),((x.now,x.servers,x.sides,x.master.configs,x.master.activated,x.masterUp,x.lease.epoch,x.lease.holder,x.lease.ends,x.places,()),()),([],()))=_ from fA];rfl
theorem IP{l:List Int}(hl:l.length<=maxLen)(hv:Fu l=some (true,())):l.length=5:=by
 obtain⟨b,h1,h2⟩:=Le l hl;rw[hv] at h1;simp only[af,au,and_true] at h1;subst h1;unfold JK at h2;cases h: ((l.length:Int)==5) with
 |false=>rw[h] at h2;cases h2
 |true=>simp only[beq_iff_eq] at h;omega
theorem Wu(l:List Int)(hl:l.length=5)(hv:Fu l=some (true,())):Kd l=some (PR (OT l) 5,()):=by
 have fA:=B8 (B:=H3) l (λk (b:List Int)=>((l,(),(k:Int),()),(),(b,()))) (λk b=>b=PR (OT l) k) (λ_ _ _=>(((),()),(),(PR (OT l) 5,())))
  (λb hb=>by simp only[H3];rw[C1,if_neg (by omega),hb,hl])
  (λk b s hs hb=>by
    have hk:=C8 hs;have c1: (k:Int)< (l.length:Int):=by omega
    have c2: (0:Int)<=(k:Int):=by omega
    have hup:OT l k=(s==0):=by unfold OT;rw[hs]
    subst hb;simp only[H3,C1,B3,if_pos c1,if_pos c2,DG,hs,ao,hv,CJ,BI (n:=5) (by decide) (by omega:k<5),if_pos (ZT (p:=OT l) (k:=k) (by omega) (k:Int))];refine .inl ⟨PR (OT l) (k+1),?_,rfl,trivial⟩;rw[U0,hup];cases (s==0)
    ·simp;rfl
    ·rfl)
  0 [] (bM _) rfl
 unfold Kd;rw[show Ov ((l,(),0,()),(),([],()))=_ from fA];rfl
def TW(x:qg)(k:Nat):Bool:=VH x k&&OT x.sides k
theorem abp(x:qg)(ok:Ez 1048576 x)(hv:Ee x=some (true,())):Mm x=some (PR (TW x) 5,()):=by have vc:=Es ok hv;have hsl:=IP (Ep ok.2.1) vc.sides;unfold Mm;rw[XH x vc.len hv,Wu x.sides hsl vc.sides];simp only[ao];rw[RE _ _ (WJ _ (ay 5)) (aX (WK _ _) (by decide)),Zm];rfl
end
section
def Hq(x:qg)(a:Int):Int:=(x.sides[a.toNat]?).getD 0
theorem Lx(x:qg)(ok:Ez 1048576 x)(vc:VC x){a b:Int}(ha:0<=a/\a<5)(hb:0<=b/\b<5):ES x.sides a b=some (Hq x a==Hq x b,())/\HN x.sides a b=some (Hq x a==Hq x b,()):=by
 have hl:=Ep ok.2.1;have h5:=IP hl vc.sides;obtain⟨v,s1,s2⟩:=Le x.sides hl;rw[vc.sides] at s1;simp only[af,au,and_true] at s1;subst s1;have wa:GG a 0 4=true:=Eg.2 (by omega);have wb:GG b 0 4=true:=Eg.2 (by omega);have la:a.toNat<x.sides.length:=by omega
 have lb:b.toNat<x.sides.length:=by omega
 unfold ES HN Hq;simp only[vc.sides,s2,EM,Jo,wa,wb,ao,CJ,B3,if_pos ha.1,if_pos hb.1,aq la,aq lb,aV,and_self]
theorem HY{x:qg}(ok:Ez 1048576 x)(vc:VC x){a:Int}(ha:0<=a/\a<5): ∃s,x.servers[a.toNat]? =some s/\EA 1048576 s/\Eh s a=some (true,()):=by
 have hlt:a.toNat<x.servers.length:=by rw[vc.len];omega
 refine⟨_,aq hlt,ok.1.2 _ (DJ hlt),?_⟩;have:=vc.srv _ hlt
 rwa [DT ha.1] at this
def Ub(x:qg)(a b:Int):Bool:=(Hq x a==Hq x b)&&(match x.servers[b.toNat]?,x.servers[a.toNat]? with
 |some m,some p=>m.up&&(m.epoch==p.epoch)&&decide (m.commit<=(p.log.length:Int))&&decide (m.config=p.config)
 | _,_=>false)
theorem abx(x:qg)(ok:Ez 1048576 x)(vc:VC x){a b:Int}(ha:0<=a/\a<5)(hb:0<=b/\b<5):F0 x a b=some (Ub x a b,())/\WI x a b=some (Ub x a b,()):=by obtain⟨p,p1,p2,_⟩:=HY ok vc ha;obtain⟨m,m1,m2,_⟩:=HY ok vc hb;obtain⟨h1,h2⟩:=Lx x ok vc ha hb;obtain⟨e1,e2⟩:=F9 m.config p.config (Ei m2.1);unfold F0 WI Ub;simp only[p1,m1,h1,h2,e1,e2,B3,if_pos ha.1,if_pos hb.1,ao];cases (Hq x a==Hq x b)<;>cases m.up<;>cases (m.epoch==p.epoch)<;>cases (decide (m.commit<=(p.log.length:Int)))<;>cases (decide (m.config=p.config))<;>exact⟨rfl,rfl⟩
theorem MQ(s:qj)(id:Int)(h:EA 1048576 s): ∃b,Ew s id=some (b,())/\Mf s id=some (b,()):=by obtain⟨v,v1,v2⟩:=J3 s id h;obtain⟨n,n1,n2,_⟩:=KX s.config id (Ei h.1);unfold Ew Mf;simp only[v1,v2,n1,n2,ao];cases v<;>cases s.up<;>cases (n==1)<;>exact⟨_,rfl,rfl⟩
theorem Hi(c:nF)(h:FX maxLen c): ∃l,EO c=some (l,())/\JX c=some (l,())/\l.length<=10/\(∀y∈l,0<=y/\y<5)/\SS l/\(Ek c=some (true,())-> ∀y,y∈l↔y∈c.replicas\/y∈c.witnesses):=by
 obtain⟨v,v1,v2⟩:=GP c h;unfold EO JX;simp only[v1,v2,ao,Ef];cases v with
 |false=>exact⟨[],rfl,rfl,bM _,nofun,List.Pairwise.nil,nofun⟩
 |true=>
  obtain⟨a1,a2,_⟩:=Fm h v1;have l1:=a1.len;have l2:=a2.len;obtain⟨r,r1,r2,r3,r4,r5⟩:=abW c.replicas c.witnesses (by omega)
  have rng: ∀ {l:List Int},NQ l-> ∀y∈l,0<=y/\y<5:=by intro l ha y hy;obtain⟨k,hk,rfl⟩:=aU hy;have:=(ha k hk).1;omega
  simp only[CJ,r1,r2,ao];refine⟨r,rfl,rfl,by omega,λy hy=> ?_,r3,λ_=>r4⟩;rcases (r4 y).1 hy with h|h
  ·exact rng a1 y h
  ·exact rng a2 y h
end
section
def KE(s:qj):List rk:=if GG s.commit s.first (s.first+(s.log.length:Int))=true then s.log.take (s.commit-s.first).toNat else []
theorem Qi(s:qj)(id:Int)(h:EA 1048576 s)(hv:Eh s id=some (true,())):EB s=some (KE s,())/\IE s=some (KE s,()):=by
 obtain⟨f1,f2,f3,f4,f5,_⟩:=Gk h hv;unfold EB IE KE;rw[vN (n:=s.first+(s.log.length:Int)) (by omega) (by omega)];simp only[EM,Jo,ao,Ef,C1,if_neg (show ¬s.first<0 by omega)];cases hw:GG s.commit s.first (s.first+(s.log.length:Int)) with
 |false=>exact⟨rfl,rfl⟩
 |true=>
  have hw:=Eg.1 hw;have d1: (0:Int)<=0/\(0:Int)<=s.commit-s.first/\s.commit-s.first<=(s.log.length:Int):=by omega
  have hs: (s.log.take (s.commit-s.first).toNat).length*56<=2 ^ 40:=by
   have : (s.log.take (s.commit-s.first).toNat).length<=16:=by simp;omega
   have e: (2:Nat) ^ 40=1099511627776:=by decide
   omega
  simp only[CJ,if_true];rw[vN (n:=s.commit-s.first) (by omega) (by omega)];simp only[B3,if_pos d1,FT,Fq,D7,cE,D0,bF,if_pos hs,ao];exact⟨trivial,trivial⟩
end
section
theorem abl{s:qj}{id:Int}(h:EA 1048576 s)(hv:Eh s id=some (true,())):s.config=⟨0,0,[],[]⟩\/Ek s.config=some (true,()):=by
 have hc:=Ei h.1;by_cases hz:s.config=⟨0,0,[],[]⟩
 ·exact .inl hz
 ·right;obtain⟨b,v1,_⟩:=GP s.config hc;cases b with
  |true=>exact v1
  |false=>
   exfalso
   have hr:EP s.config id=some (0,()):=by unfold EP;rw[v1];rfl
   unfold Eh at hv;simp only[EM,ao,Ef,I1 s.config hc,hr,C1,if_neg hz] at hv;cases h1:GG s.version 1 2 with
   |false=>rw[h1] at hv;cases hv
   |true=>
   cases h2:GG s.epoch 0 20 with
   |false=>rw[h1,h2] at hv;cases hv
   |true=>
   rcases isLog s.log (Ep h.2.1) with ⟨a1,a2,a3⟩| ⟨a1,a2⟩
   case inr=>simp only[h1,h2,a1,ao,CJ,BK] at hv;cases hv
   rcases isLog s.learned (Ep h.2.2) with ⟨b1,b2,b3⟩| ⟨b1,b2⟩
   case inr=>simp only[h1,h2,a1,b1,ao,CJ,BK] at hv;cases hv
   obtain⟨n,n1,n2⟩:=GU s.log (Ep h.2.1);simp only[h1,h2,a1,b1,n1,ao,CJ] at hv;cases h3:GG s.first 0 16<;>rw[h3] at hv
   ·cases hv
   ·cases h4:GG (IntKind.wrap .i64 (s.first+(s.log.length:Int))) 0 16<;>rw[h4] at hv
    ·cases hv
    ·cases h5:GG s.commit 0 (IntKind.wrap .i64 (s.first+(s.log.length:Int)))<;>rw[h5] at hv
     ·cases hv
     ·cases h6:s.intact<;>rw[h6] at hv
      ·cases hv
      ·simp only[CJ] at hv
       repeat' split at hv
       all_goals cases hv
def data(s:qj)(id:Int):List rk:=if id∈s.config.replicas then (if (KE s).length>s.learned.length then KE s else s.learned) else s.learned
theorem T0(s:qj)(id:Int)(h:EA 1048576 s)(hv:Eh s id=some (true,())):HA s id=some (data s id,())/\Hy s id=some (data s id,()):=by
 have hc:=Ei h.1;obtain⟨p1,p2⟩:=Qi s id h hv
 have hs:s.learned.length*56<=2 ^ 40:=by
  have e: (2:Nat) ^ 40=1099511627776:=by decide
  have:=h.2.2;omega
 have cmp: ((KE s).length:Int)>(s.learned.length:Int)↔(KE s).length>s.learned.length:=by omega
 have hrep:Lf s id=some (decide (id∈s.config.replicas),()):=by unfold Lf;rw[(EG s.config.replicas id hc.1).2];rfl
 have himpl:Hy s id=some (data s id,()):=by
  unfold Hy Fq data;simp only[p2,hrep,ao,C1,B3,if_pos hs,cmp];split
  ·split<;>rfl
  ·rfl
 refine⟨?_,himpl⟩
 have hrole: ∃r,EP s.config id=some (r,())/\((r=1\/r=2)↔id∈s.config.replicas):=by
  rcases abl h hv with hz|hvc
  ·refine⟨0,?_,?_⟩
   ·rw[hz];rfl
   ·rw[hz];simp
  ·obtain⟨_,_,hpr,_⟩:=Fm hc hvc;unfold EP;simp only[hvc,ao,Ef,CJ,G4,(EG s.config.replicas id hc.1).1,(EG s.config.witnesses id hc.2).1,C1];by_cases h1:id=s.config.primary
   ·rw[if_pos h1];exact⟨1,rfl,by simp[h1,hpr]⟩
   ·rw[if_neg h1];by_cases h2:id∈s.config.replicas
    ·rw[if_pos h2];exact⟨2,rfl,by simp[h2]⟩
    ·rw[if_neg h2];split
     ·exact⟨3,rfl,by simp[h2]⟩
     ·exact⟨0,rfl,by simp[h2]⟩
 obtain⟨r,r1,r2⟩:=hrole;unfold HA FT data;simp only[r1,p1,bF,B3,if_pos hs,ao,G4,C1,cmp];by_cases h1:r=1
 ·rw[if_pos h1,if_pos (r2.1 (.inl h1))];split<;>rfl
 ·rw[if_neg h1];by_cases h2:r=2
  ·rw[if_pos h2,if_pos (r2.1 (.inr h2))];split<;>rfl
  ·rw[if_neg h2,if_neg (λh=>by rcases r2.2 h with h|h<;>contradiction)]
end
section
theorem XW(n:Int)(h0:0<=n)(h1:n<=1000000):Ij n=some ([],()):=by
 unfold Ij;have e1:IntKind.wrap .i64 ((0:Int)-0)=0:=vN (by decide) (by decide);have e2:IntKind.wrap .i64 (n-0)=n:=by rw[vN (by omega) (by omega)];omega
 simp only[e1,e2,C1,if_neg (show ¬n<0 by omega)];by_cases h:n>0
 ·have e: (2:Int) ^ 40=1099511627776:=by decide
  have c1:0<n/\n*((56:Nat):Int)<=2 ^ 40:=⟨h,by omega⟩
  have c2: (0:Int)<=0/\(0:Int)<=0/\(0:Int)<=((n.toNat:Nat):Int):=by omega
  simp only[if_pos h,B3,if_pos c1,if_pos c2,and_self,if_true];simp
 ·simp only[if_neg h]
theorem Zf(l:List (List rk))(hl:l.length<=10)(h: ∀a∈l,a.length<=1000):HC l=some (l.flatten,()):=by
 have hm:l.length<=maxLen:=by unfold maxLen;omega
 have tot: ∀k,(l.take k).flatten.length<=k*1000:=by
  intro k
  induction k with
  |zero=>simp
  |succ k ih=>
   cases hx:l[k]? with
   |none=>
    have hle:l.length<=k:=by simpa using hx
    rw[bW hle] at ih;rw[bW (DX hle)];exact aX ih (bq _ (cK k))
   |some a=>rw[F5 hx,D3,bJ];have:=h a (aA hx);simp only[List.flatten_cons,List.flatten_nil,bP];rw[Nat.succ_mul];exact Nat.add_le_add ih this
 have k1:=B8 (B:=GR) l (λk (n:Int)=>((l,n,l,(l.length:Int),(k:Int),()),(),())) (λk n=>n=((l.take k).flatten.length:Int)) (λ_ _ _=>((l,(l.flatten.length:Int),()),(),()))
  (λn hn=>by simp only[GR];rw[C1,if_neg (by omega),hn,DP])
  (λk n a hx hn=>by
    have hk:=C8 hx;have c1: (k:Int)< (l.length:Int):=by omega
    have c2: (0:Int)<=(k:Int):=by omega
    have t:=tot k;have ha:=h a (aA hx);have hk10:k*1000<=10000:=by omega
    refine .inl ⟨n+(a.length:Int),?_,?_,rfl⟩
    ·simp only[GR,C1,B3,if_pos c1,if_pos c2,DG,hx,ao,BI hm hk,vN (n:=n+(a.length:Int)) (by omega) (by omega),if_neg (show ¬n+(a.length:Int)<0 by omega)]
    ·rw[F5 hx,D3,bJ,hn];simp)
  0 0 (bM _) (by simp)
 have t:=tot l.length;rw[DP] at t
 have k2:=B8 (B:=GB) l (λk (b:List rk)=>(((),l,(l.length:Int),(k:Int),()),(),(b,()))) (λk b=>b=(l.take k).flatten) (λ_ _ _=>(((),()),(),(l.flatten,())))
  (λb hb=>by simp only[GB];rw[C1,if_neg (by omega),hb,DP])
  (λk b a hx hb=>by
    have hk:=C8 hx;have c1: (k:Int)< (l.length:Int):=by omega
    have c2: (0:Int)<=(k:Int):=by omega
    have t:=tot k;have ha:=h a (aA hx);have hs: (b++a).length*56<=2 ^ 40:=Qf (by rw[hb,bJ];omega) (by decide);refine .inl ⟨b++a,?_,?_,rfl⟩
    ·simp only[GB,C1,B3,if_pos c1,if_pos c2,DG,hx,ao,BI hm hk,if_pos hs]
    ·rw[F5 hx,D3,hb];simp)
  0 [] (bM _) (by simp)
 unfold HC;rw[show M2 ((l,0,l,(l.length:Int),0,()),(),())=_ from k1];simp only[ao,XW _ (show (0:Int)<=(l.flatten.length:Int) by omega) (by omega)];rw[show Mx (((),l,(l.length:Int),0,()),(),([],()))=_ from k2];rfl
theorem XR(x y:rk): ((x.epoch==y.epoch)&&((x.op.client==y.op.client)&&((x.op.seq==y.op.seq)&&((x.op.kind==y.op.kind)&&((x.op.object==y.op.object)&&((x.op.old==y.op.old)&&((x.op.value==y.op.value)&&true)))))))=decide (x=y):=by obtain⟨a,b,c,d,e,f,g⟩:=x;obtain⟨a',b',c',d',e',f',g'⟩:=y;rw[bO];simp[and_assoc]
theorem aaR(a b:List rk)(ha:a.length<=maxLen):Ii a b=some (decide (a=b),()):=by
 unfold Ii;rw[Ef,G4];split
 ·rename_i hl;have hl:a.length=b.length:=by omega
  rcases Ko (B:=Hf) a.length (λk=>((a,b,(a.length:Int),(k:Int),()),(),())) (.inr (((),()),(),())) (λ_=> .inl ((false,()),(),())) (λk=>decide (a[k]? ≠b[k]?))
   (by simp only[Hf];rw[C1,if_neg (by omega)])
   (λk hk=>by
     have c1: (k:Int)< (a.length:Int):=by omega
     have c2: (0:Int)<=(k:Int):=by omega
     have hk':k<b.length:=by omega
     simp only[Hf,XR,Ef,C1,B3,if_pos c1,if_pos c2,DG,aq hk,aq hk',ao,BI ha hk];by_cases h:a[k] =b[k]<;>simp[h]) with ⟨k1,k2⟩| ⟨i,hi,k1,k2,_⟩
  ·rw[show KV ((a,b,(a.length:Int),0,()),(),())=_ from k1]
   have :a=b:=List.ext_getElem hl λk h1 h2=>by have:=k2 k h1;rw[aq h1,aq h2] at this;simpa using this
   rw[decide_eq_true this];rfl
  ·rw[show KV ((a,b,(a.length:Int),0,()),(),())=_ from k1]
   have :a≠b:=λh=>by rw[h] at k2;simp at k2
   rw[decide_eq_false this];rfl
 ·rename_i hl;have :a≠b:=λh=>hl (by rw[h]);rw[decide_eq_false this]
theorem NS(a b:List rk)(ha:a.length<=maxLen): ∃n:Nat,GO a b=some ((n:Int),())/\n<=a.length/\n<=b.length/\a.take n=b.take n/\(n<a.length->n<b.length->a[n]? ≠b[n]?):=by
 rcases Ko (B:=Gy) a.length (λk=>((a,b,(k:Int),()),(),())) ((((a.length:Nat):Int),()),(),()) (λk=>(((k:Int),()),(),())) (λk=>decide (a[k]? ≠b[k]?))
  (by simp only[Gy];rw[C1,if_neg (by omega)])
  (λk hk=>by
    have c1: (k:Int)< (a.length:Int):=by omega
    have c2: (0:Int)<=(k:Int):=by omega
    by_cases hk':k<b.length
    ·have c3: (k:Int)< (b.length:Int):=by omega
     simp only[Gy,XR,C1,B3,if_pos c1,if_pos c2,if_pos c3,DG,aq hk,aq hk',ao,BI ha hk];by_cases h:a[k] =b[k]<;>simp[h]
    ·have c3: ¬ (k:Int)< (b.length:Int):=by omega
     simp only[Gy,C1,if_pos c1,if_neg c3,aq hk,cx (show b.length<=k by omega)];simp) with ⟨k1,k2⟩| ⟨i,hi,k1,k2,k3⟩
 ·have eq: ∀k,k<a.length->a[k]? =b[k]? :=λk hk=>by simpa using k2 k hk
  have hl:a.length<=b.length:=by
   rcases bn a.length with h|h
   ·omega
   ·have:=eq (a.length-1) (by omega);rw[aq (by omega)] at this;have:=C8 this.symm;omega
  refine⟨a.length,?_,ay _,hl,?_,λh=>absurd h (dA _)⟩
  ·unfold GO;rw[show KS ((a,b,0,()),(),())=_ from k1];rfl
  ·refine bz λk=> ?_;rw[bk,bk];split
   ·exact eq k (by assumption)
   ·rfl
 ·have eq: ∀k,k<i->a[k]? =b[k]? :=λk hk=>by simpa using k3 k hk
  have hl:i<=b.length:=by
   rcases bn i with h|h
   ·omega
   ·have:=eq (i-1) (by omega);rw[aq (by omega)] at this;have:=C8 this.symm;omega
  refine⟨i,?_,by omega,hl,?_,λ_ _=>by simpa using k2⟩
  ·unfold GO;rw[show KS ((a,b,0,()),(),())=_ from k1];rfl
  ·refine bz λk=> ?_;rw[bk,bk];split
   ·exact eq k (by assumption)
   ·rfl
theorem X5(a:List rk)(n:Int)(t:List rk)(ha:a.length<=1048576)(ht:t.length<=1048576): ∃l b,Gd a n t=some (l,b,())/\Mg a n t=some (l,b,())/\l.length<=19:=by
 unfold Gd Mg Ma Mh;rcases isLog a (Ep ha) with ⟨a1,a2,a3⟩| ⟨a1,a2⟩
 case inr=>simp only[a1,a2,ao];exact⟨_,_,rfl,rfl,bM _⟩
 rcases isLog t (Ep ht) with ⟨t1,t2,t3⟩| ⟨t1,t2⟩
 case inr=>simp only[a1,a2,t1,t2,ao];exact⟨_,_,rfl,rfl,bM _⟩
 simp only[a1,a2,t1,t2,ao,Ef,CJ,EM,Jo];by_cases c1: (t.length:Int)<=3
 case neg=>simp only[C1,if_neg c1];exact⟨_,_,rfl,rfl,bM _⟩
 rw[vN (n:=16-(t.length:Int)) (by omega) (by omega)];cases hw:GG n 0 (16-(t.length:Int)) with
 |false=>simp only[C1,if_pos c1];exact⟨_,_,rfl,rfl,bM _⟩
 |true=>
  have hw:=Eg.1 hw;simp only[C1,if_pos c1,CJ]
  have rest: ∃l b,(if n>(a.length:Int) then some (([]:List rk),false,()) else iteP (0<=n/\n<=(a.length:Int)/\(a.length:Int)<=(a.length:Int)) ((GO ((a.drop n.toNat).take ((a.length:Int).toNat-n.toNat)) t).bind λy3=>if y3.1< (if (t.length:Int)< (IntKind.wrap .i64 ((a.length:Int)-n)) then (t.length:Int) else (IntKind.wrap .i64 ((a.length:Int)-n))) then some (([]:List rk),false,()) else ((FT a).bind λy4=>iteP (0<=y3.1/\y3.1<=(t.length:Int)/\(t.length:Int)<=(t.length:Int)) (iteP ((y4.1++((t.drop y3.1.toNat).take ((t.length:Int).toNat-y3.1.toNat))).length*56<=2 ^ 40) ((ET (y4.1++((t.drop y3.1.toNat).take ((t.length:Int).toNat-y3.1.toNat)))).bind λy5=>br y5.1 (some ((y4.1++((t.drop y3.1.toNat).take ((t.length:Int).toNat-y3.1.toNat))),true,())) (some (([]:List rk),false,()))) none) none)) none)=some (l,b,())/\
    (if n>(a.length:Int) then some (([]:List rk),false,()) else iteP (0<=(if (IntKind.wrap .i64 ((a.length:Int)-n))< (t.length:Int) then (IntKind.wrap .i64 ((a.length:Int)-n)) else (t.length:Int))/\(if (IntKind.wrap .i64 ((a.length:Int)-n))< (t.length:Int) then (IntKind.wrap .i64 ((a.length:Int)-n)) else (t.length:Int))<=(t.length:Int)/\(t.length:Int)<=(t.length:Int)) ((HC ([a,((t.drop (if (IntKind.wrap .i64 ((a.length:Int)-n))< (t.length:Int) then (IntKind.wrap .i64 ((a.length:Int)-n)) else (t.length:Int)).toNat).take ((t.length:Int).toNat-(if (IntKind.wrap .i64 ((a.length:Int)-n))< (t.length:Int) then (IntKind.wrap .i64 ((a.length:Int)-n)) else (t.length:Int)).toNat))]:List (List rk))).bind λy3=>iteP (0<=n/\n<=(IntKind.wrap .i64 (n+(if (IntKind.wrap .i64 ((a.length:Int)-n))< (t.length:Int) then (IntKind.wrap .i64 ((a.length:Int)-n)) else (t.length:Int))))/\(IntKind.wrap .i64 (n+(if (IntKind.wrap .i64 ((a.length:Int)-n))< (t.length:Int) then (IntKind.wrap .i64 ((a.length:Int)-n)) else (t.length:Int))))<=(a.length:Int)) (iteP (0<=(0:Int)/\(0:Int)<=(if (IntKind.wrap .i64 ((a.length:Int)-n))< (t.length:Int) then (IntKind.wrap .i64 ((a.length:Int)-n)) else (t.length:Int))/\(if (IntKind.wrap .i64 ((a.length:Int)-n))< (t.length:Int) then (IntKind.wrap .i64 ((a.length:Int)-n)) else (t.length:Int))<=(t.length:Int)) ((Ii ((a.drop n.toNat).take ((IntKind.wrap .i64 (n+(if (IntKind.wrap .i64 ((a.length:Int)-n))< (t.length:Int) then (IntKind.wrap .i64 ((a.length:Int)-n)) else (t.length:Int)))).toNat-n.toNat)) ((t.drop (0:Int).toNat).take ((if (IntKind.wrap .i64 ((a.length:Int)-n))< (t.length:Int) then (IntKind.wrap .i64 ((a.length:Int)-n)) else (t.length:Int)).toNat-(0:Int).toNat))).bind λy4=>br y4.1 ((IY y3.1).bind λy5=>br y5.1 (some (y3.1,true,())) (some (([]:List rk),false,()))) (some (([]:List rk),false,()))) none) none) none)=some (l,b,())/\l.length<=19:=by
   by_cases c2:n>(a.length:Int)
   ·simp only[if_pos c2];exact⟨_,_,rfl,rfl,bM _⟩
   ·rw[vN (n:=(a.length:Int)-n) (by omega) (by omega)];obtain⟨i,rfl⟩: ∃i:Nat,n=(i:Int):=⟨n.toNat,by omega⟩
    have hm: (if (a.length:Int)-(i:Int)< (t.length:Int) then (a.length:Int)-(i:Int) else (t.length:Int))=((min t.length (a.length-i):Nat):Int):=by split<;>omega
    have hm2: (if (t.length:Int)< (a.length:Int)-(i:Int) then (t.length:Int) else (a.length:Int)-(i:Int))=((min t.length (a.length-i):Nat):Int):=by split<;>omega
    rw[hm,hm2];generalize hM:min t.length (a.length-i)=m;have d1: (0:Int)<=(i:Int)/\(i:Int)<=(a.length:Int)/\(a.length:Int)<=(a.length:Int):=by omega
    have d2: (0:Int)<=(m:Int)/\(m:Int)<=(t.length:Int)/\(t.length:Int)<=(t.length:Int):=by omega
    have d3: (0:Int)<=(i:Int)/\(i:Int)<=((i:Int)+(m:Int))/\((i:Int)+(m:Int))<=(a.length:Int):=by omega
    have d4: (0:Int)<=0/\(0:Int)<=(m:Int)/\(m:Int)<=(t.length:Int):=by omega
    have e1: (a.drop i).take (a.length-i)=a.drop i:=bW (by simp);have e2: (t.drop m).take (t.length-m)=t.drop m:=bW (by simp);have e3: ((i:Int)+(m:Int)).toNat-i=m:=by omega
    have hc:=Zf [a,t.drop m] (by simp) (by
     intro z hz;simp only[aZ,List.not_mem_nil,or_false] at hz;rcases hz with rfl|rfl
     ·omega
     ·simp;omega)
    rw[show ([a,t.drop m]:List (List rk)).flatten=a++t.drop m by simp] at hc;rw[vN (n:=(i:Int)+(m:Int)) (by omega) (by omega)];have hx: (a++t.drop m).length<=19:=by simp;omega
    have hxm: (a++t.drop m).length<=maxLen:=by unfold maxLen;omega
    have he:=aaR ((a.drop i).take m) (t.take m) (by simp[maxLen];omega);obtain⟨k,k1,k2,k3,k4,k5⟩:=NS (a.drop i) t (by simp[maxLen];omega);simp only[if_neg c2,B3,if_pos d1,if_pos d2,if_pos d3,if_pos d4,DG,D7,cE,D0,e1,e2,e3,hc,he,k1,ao,C1];have hk:k<=m:=by simp at k2;omega
    by_cases hkm:k=m
    ·subst hkm;simp only[if_neg (show ¬ ((k:Int)< (k:Int)) by omega),(IX a ha).1,ao,if_pos d2,e2,if_pos k4];rw[if_pos (Qf (by omega) (by decide))];rcases isLog (a++t.drop k) hxm with ⟨z1,z2,_⟩| ⟨z1,z2⟩
     ·simp only[z1,z2,ao];exact⟨_,_,rfl,rfl,hx⟩
     ·simp only[z1,z2,ao];exact⟨_,_,rfl,rfl,bM _⟩
    ·have hlt:k<m:=by omega
     have hne: ¬ (a.drop i).take m=t.take m:=λh=>by have:=congrArg (λz:List rk=>z[k]?) h;simp only[bk,if_pos hlt] at this;exact k5 (by simp;omega) (by omega) this
     simp only[if_pos (show ((k:Int)< (m:Int)) by omega),if_neg hne];exact⟨_,_,rfl,rfl,bM _⟩
  by_cases h0:n=0
  ·simp only[G4,if_pos h0,CJ];exact rest
  ·simp only[G4,if_neg h0];by_cases h3: (t.length:Int)=3
   ·simp only[h3,beq_self_eq_true,CJ];rw[h3] at rest;exact rest
   ·have : ((t.length:Int)==3)=false:=by simpa using h3
    simp only[this,BK];exact⟨_,_,rfl,rfl,bM _⟩
end
section
theorem VE(x:uL):Dj (KL x) (KG x):=by
 obtain⟨b,h1,h2⟩:=MW x;unfold KL KG;simp only[h1,h2,ao];cases b with
 |false=>simp only[Bool.not_false,CJ];cases ((x.epoch==0)&&((x.holder==0)&&((x.ends==0)&&true)))<;>exact⟨_,rfl,rfl⟩
 |true=>
  simp only[df,BK];cases he:x.ends==0 with
  |true=>
   cases hz: ((x.epoch==0)&&((x.holder==0)&&(true&&true))) with
   |true=>exact⟨_,rfl,rfl⟩
   |false=>
    exfalso;unfold GS at h2;rw[he,hz] at h2;simp only[BK,Jo,ao] at h2
    have hw:GG x.ends 1 1049=false:=by rw[Bool.eq_false_iff];intro hw;have:=Eg.1 hw;simp only[beq_iff_eq] at he;omega
    rw[hw] at h2;revert h2;cases GG x.epoch 1 20<;>cases GG x.holder 0 4<;>intro h2<;>cases h2
  |false=>
   have hz: ((x.epoch==0)&&((x.holder==0)&&(false&&true)))=false:=by cases x.epoch==0<;>cases x.holder==0<;>rfl
   rw[hz];exact⟨_,rfl,rfl⟩
theorem MY(x:uL)(n:Int):Dj (HT x n) (GJ x n):=by obtain⟨b,h1,h2⟩:=MW x;obtain⟨t,t1,t2⟩:=VE x;unfold HT GJ;simp only[h1,h2,t1,t2,EM,Jo,ao];cases b<;>cases GG n 0 999<;>exact⟨_,rfl,rfl⟩
end
section
theorem Qz{l:List uO}(hl:l.length<=maxLen)(hv:Fb l=some (true,())):l.length=5:=by
 obtain⟨b,h1,h2⟩:=KF l hl;rw[hv] at h1;simp only[af,au,and_true] at h1;subst h1;unfold JV at h2;cases h: ((l.length:Int)==5) with
 |false=>rw[h] at h2;cases h2
 |true=>simp only[beq_iff_eq] at h;omega
end
section
theorem VD(a b:List Int)(ha:NQ a)(hb:b.length<=maxLen):GD a b=some (a.filter λx=> !decide (x∈b),()):=by
 have hl:=ha.len;have hm:a.length<=maxLen:=by unfold maxLen;omega
 have hp:=ha.pair
 have fA:=B8 (B:=Gz) a (λk (out:List Int)=>((a,b,(),(k:Int),()),(),(out,()))) (λk out=>out=(a.take k).filter λx=> !decide (x∈b)) (λk r out=>(((),()),(),(out++r.filter λx=> !decide (x∈b),())))
  (λout hb=>by simp only[Gz];rw[C1,if_neg (by omega)];simp)
  (λk out x hx hout=>by
    have hk:=C8 hx;have c1: (k:Int)< (a.length:Int):=by omega
    have c2: (0:Int)<=(k:Int):=by omega
    have hxe:a[k] =x:=by rw[aq hk] at hx;exact Option.some.inj hx
    simp only[Gz,Ef,C1,B3,if_pos c1,if_pos c2,DG,hx,ao,(EG b x hb).1,BI hm hk];by_cases hin:x∈b
    ·simp only[if_pos hin];refine .inl ⟨out,rfl,?_,?_⟩
     ·rw[hout,DR,hx,DW];simp[hin]
     ·simp[hin]
    ·have hlt: ∀y∈out,y<x:=by
      intro y hy;rw[hout,D6] at hy;obtain⟨i,hi,he⟩:=aU hy.1;have hi':i<k:=by simp at hi;omega
      rw[D4] at he;rw[<-he,<-hxe];exact DQ.1 hp i k (by omega) hk hi'
     have hol:out.length<=1000:=by rw[hout];have:=D8 (λx=> !decide (x∈b)) (a.take k);simp only[cP] at this;omega
     simp only[if_neg hin,UJ out x hol hlt,ao];refine .inl ⟨out++ [x],rfl,?_,?_⟩
     ·rw[hout,DR,hx,DW];simp[hin]
     ·simp[hin])
  0 [] (bM _) rfl
 unfold GD;rw[show Mw ((a,b,(),0,()),(),([],()))=_ from fA];rfl
end
section
theorem TX{l:List Int}(h:SS l)(hr: ∀y∈l,0<=y/\y<5):NQ l:=by intro k hk;have:=hr _ (DJ hk);exact⟨by omega,λh0=>DQ.1 h _ _ (by omega) hk (by omega)⟩
theorem RB{l:List Int}(h:NQ l):FJ l=some (true,())/\G5 l=some (true,()):=by
 have hl:=h.len;have hm:l.length<=maxLen:=by unfold maxLen;omega
 obtain⟨_,_,h1,h2⟩:=MZ (B1:=F7) (B2:=F6) l.length (λk (_:Unit)=>((l,(k:Int),()),(),())) (λk _=>((l,l,(l.length:Int),(k:Int),()),(),())) (λ_ _=>True) (λ_=> .inr (((),()),(),())) (λ_=> .inr (((),()),(),()))
  (λ_ _=>by simp only[F7,F6,C1];exact⟨if_neg (by omega),if_neg (by omega)⟩)
  (λk _ hk _=>by
    have c1: (k:Int)< (l.length:Int):=by omega
    have c2: (0:Int)<=(k:Int):=by omega
    obtain⟨r1,r2⟩:=h k hk;have w:GG l[k] 0 4=true:=Eg.2 r1;refine⟨(),?_⟩;simp only[F7,F6,C1,B3,if_pos c1,if_pos c2,DG,aq hk,ao,EM,Jo,w,df,BK,BI hm hk];by_cases h0:0<k
    ·have c3: (k:Int)>0:=by omega
     have c4: (0:Int)<=((k-1:Nat):Int):=by omega
     have e2:l[k-1]? =some l[k-1] :=aq (by omega);have:=r2 h0;simp only[if_pos c3,BH h0 (by omega),if_pos c4,DG,e2,ao,if_neg (show ¬l[k-1] ≥l[k] by omega),if_neg (show ¬l[k] <=l[k-1] by omega),and_self]
    ·simp only[if_neg (show ¬ (k:Int)>0 by omega),and_self])
  () trivial
 unfold FJ G5;rw[show Kq ((l,0,()),(),())=_ from h1,show Kn ((l,l,(l.length:Int),0,()),(),())=_ from h2];exact⟨rfl,rfl⟩
end
section
theorem XX{α:Type}{w:α->Int}{l:List α}{k:Nat}{x:α}(h:l[k]? =some x)(y:α):Oa w (l.set k y)=Oa w l-w x+w y:=by
 induction l generalizing k with
 |nil=>cases h
 |cons z l ih=>
  cases k with
  |zero=>
   have :z=x:=by simpa using h
   subst this;simp only[List.set_cons_zero,Oa];omega
  |succ k=>
   have h:l[k]? =some x:=by simpa using h
   simp only[List.set_cons_succ,Oa,ih h];omega
end
section
theorem TP{m:jY}(h:NY 1048576 m)(hv:Er m=some (true,())):m.configs.length<=20:=by
 obtain⟨f,_,_⟩:=I2 (Fh h) hv;rcases bn m.configs.length with h0|h0
 ·omega
 ·have hk:m.configs.length-1<m.configs.length:=by omega
  obtain⟨f1,f2⟩:=f _ hk;have:=(Fm (Ei (h.2 _ (DJ hk))) f1).2.2.2.2.1;omega
theorem RG(m:jY)(e:Int)(h:NY 1048576 m): ∃r b,Fw m e=some (r,b,())/\H7 m e=some (r,b,())/\NY 1048576 r/\tMl r=tMl m/\(b=false->r=m)/\(b=true->r=⟨m.configs,e⟩/\Er m=some (true,())/\e=(m.configs.length:Int)/\m.activated<e):=by
 obtain⟨v,v1,v2⟩:=masterLog m (Fh h);unfold Fw H7;simp only[(Ob m h).1,(Ob m h).2,v1,v2,ao,Ef,G4,C1];cases v with
 |false=>exact⟨m,false,rfl,rfl,h,rfl,λ_=>rfl,nofun⟩
 |true=>
  simp only[CJ];by_cases h1:e=(m.configs.length:Int)
  ·by_cases h2:e<=m.activated
   ·simp only[if_pos h1,if_pos h2];exact⟨m,false,rfl,rfl,h,rfl,λ_=>rfl,nofun⟩
   ·simp only[if_pos h1,if_neg h2];exact⟨⟨m.configs,e⟩,true,rfl,rfl,h,rfl,nofun,λ_=>⟨rfl,trivial,h1,by omega⟩⟩
  ·simp only[if_neg h1];exact⟨m,false,rfl,rfl,h,rfl,λ_=>rfl,nofun⟩
def cutAt(l:List rk):Nat:=l.length-3
theorem RJ(l:List rk)(hl:l.length<=1048576): (if IntKind.wrap .i64 ((l.length:Int)-3)>0 then IntKind.wrap .i64 ((l.length:Int)-3) else 0)=((cutAt l:Nat):Int):=by rw[vN (by omega) (by omega)];unfold cutAt;split<;>omega
theorem Zh(l:List rk)(hl:l.length<=1048576)(hv:IY l=some (true,())):Nq l=some (((cutAt l:Nat):Int),l.drop (cutAt l),()):=by
 unfold Nq;have hc:cutAt l<=l.length:=by unfold cutAt;omega
 have c1: (0:Int)<=((cutAt l:Nat):Int)/\((cutAt l:Nat):Int)<=(l.length:Int)/\(l.length:Int)<=(l.length:Int):=by omega
 have ht: ((l.drop (cutAt l)).take (l.length-cutAt l))=l.drop (cutAt l):=bW (by simp);simp only[hv,ao,df,BK,RJ l hl,B3,if_pos c1,DG,ht,(IX (l.drop (cutAt l)) (by simp;omega)).2]
def U1(s:qj)(c:nF)(l:List rk)(w:Bool):qj:=if w=true then ⟨s.up,true,s.version,c.epoch,c,((cutAt l:Nat):Int),l.drop (cutAt l),(l.length:Int),[]⟩ else ⟨s.up,true,s.version,c.epoch,c,0,l,(l.length:Int),[]⟩
theorem Zn{s:qj}{c:nF}{l:List rk}{w:Bool}(hc:FX 1048576 c)(hl:l.length<=1048576):EA 1048576 (U1 s c l w)/\NP (U1 s c l w)<=SP c+JB l:=by
 unfold U1;cases w
 ·refine⟨⟨hc,hl,bM _⟩,?_⟩;simp only[NP,JB,aQ,if_false,bU];omega
 ·refine⟨⟨hc,by simp;omega,bM _⟩,?_⟩;simp only[NP,JB,if_true,bU,co];omega
theorem SU(s:qj)(c:nF)(id:Int)(l:List rk)(hs:EA 1048576 s)(hc:FX 1048576 c)(hl:l.length<=1048576): ∃r b,FI s c id l=some (r,b,())/\IH s c id l=some (r,b,())/\EA 1048576 r/\NP r<=NP s+SP c+JB l/\(b=false->r=s)/\(b=true-> ∃w,r=U1 s c l w):=by
 obtain⟨n,r1,r2,_⟩:=KX c id (Ei hc);obtain⟨e,e1,e2⟩:=GU l (Ep hl);obtain⟨q,q1,q2⟩:=YC l (Ep hl);have t1:=ZQ s;have t2:=W5 c;have t3:=ZS l;have no: ∃r b,some (s,false,())=some (r,b,())/\some (s,false,())=some (r,b,())/\EA 1048576 r/\NP r<=NP s+SP c+JB l/\(b=false->r=s)/\(b=true-> ∃w,r=U1 s c l w):=⟨s,false,rfl,rfl,hs,by omega,λ_=>rfl,nofun⟩
 unfold FI IH;simp only[r1,r2,(K4 s hs).1,(K4 s hs).2,(MV c hc).1,(MV c hc).2,(IX l hl).1,(IX l hl).2,EM,Jo,e1,e2,q1,q2,ao,Ef,C1];have hcut:cutAt l<=l.length:=by unfold cutAt;omega
 have c1: (0:Int)<=((cutAt l:Nat):Int)/\((cutAt l:Nat):Int)<=(l.length:Int)/\(l.length:Int)<=(l.length:Int):=by omega
 have ht: ((l.drop (cutAt l)).take (l.length-cutAt l))=l.drop (cutAt l):=bW (by simp);cases hn:n==0 with
 |true=>exact no
 |false=>
 rcases isLog l (Ep hl) with ⟨a1,a2,_⟩| ⟨a1,a2⟩
 case inr=>simp only[a1,a2,ao,BK];exact no
 simp only[a1,a2,ao,CJ,BK,RJ l hl,B3,if_pos c1,DG,ht,(IX (l.drop (cutAt l)) (by simp;omega)).1,Zh l hl a2];cases GG s.version 1 2 with
 |false=>exact no
 |true=>
 cases GG s.epoch 0 c.epoch with
 |false=>exact no
 |true=>
 simp only[CJ];by_cases he:e>c.epoch
 ·simp only[if_pos he];exact no
 simp only[if_neg he]
 have yes: ∀w,∃r b,some (U1 s c l w,true,())=some (r,b,())/\some (U1 s c l w,true,())=some (r,b,())/\EA 1048576 r/\NP r<=NP s+SP c+JB l/\(b=false->r=s)/\(b=true-> ∃w,r=U1 s c l w):=by intro w;obtain⟨o1,o2⟩:=Zn (s:=s) (c:=c) (l:=l) (w:=w) hc hl;exact⟨_,true,rfl,rfl,o1,by omega,nofun,λ_=>⟨w,rfl⟩⟩
 cases s.version==1 with
 |false=>
  cases n==3 with
  |false=>exact yes false
  |true=>exact yes true
 |true=>
  cases q with
  |true=>exact no
  |false=>
   cases n==3 with
   |false=>exact yes false
   |true=>exact yes true
end
section

end
section

end
section

end
section
theorem XP(s:qj)(id:Int)(h:EA 1048576 s): (data s id).length<=1048576:=by
 have h1:=h.2.1;have h2:=h.2.2
 have h3: (KE s).length<=s.log.length:=by
  unfold KE;split
  ·simp;omega
  ·exact bM _
 unfold data;split
 ·split<;>omega
 ·exact h2
end
section
abbrev fx(x:qg):Int×List qj×List Int×List nF×Int×Int×Int×Int×Int×List uO×Unit:=(x.now,x.servers,x.sides,x.master.configs,x.master.activated,x.masterUp,x.lease.epoch,x.lease.holder,x.lease.ends,x.places,())
abbrev XT(s:qj):Bool×Bool×Int×Int×Int×Int×List Int×List Int×Int×List rk×Int×List rk×Unit:=(s.up,s.intact,s.version,s.epoch,s.config.epoch,s.config.primary,s.config.replicas,s.config.witnesses,s.first,s.log,s.commit,s.learned,())
structure W8 (x x':qg):Prop where
 sides:x'.sides=x.sides
 master:x'.master=x.master
 srv: ∀ (k:Nat) (s:qj),x.servers[k]? =some s-> ∃e,x'.servers[k]? =some (⟨s.up,s.intact,s.version,e,s.config,s.first,s.log,s.commit,s.learned⟩:qj)
theorem W8.refl(x:qg):W8 x x:=⟨rfl,rfl,λ_ s h=>⟨s.epoch,h⟩⟩
theorem W8.side{x x':qg}(h:W8 x x')(a:Int):Hq x' a=Hq x a:=by unfold Hq;rw[h.sides]
theorem XJ{x:qg}(ok:Ez 1048576 x)(hv:Ee x=some (true,())): ∃c d,Ej x.master=some (c,d,())/\Fg x.master=some (c,d,())/\FX maxLen c/\c.replicas.length<=5/\c.witnesses.length<=5/\(∀z∈c.replicas,0<=z/\z<5)/\(∀z∈c.witnesses,0<=z/\z<5)/\(d=false->c=⟨0,0,[],[]⟩):=by
 obtain⟨c,d,d1,d2,d3,d4,d5,d6⟩:=Hs x ok hv
 have rng: ∀ {l:List Int},NQ l-> ∀y∈l,0<=y/\y<5:=by intro l ha y hy;obtain⟨k,hk,rfl⟩:=aU hy;have:=(ha k hk).1;omega
 cases d with
 |false=>exact⟨c,false,d1,d2,d3,by rw[d6 rfl];simp,by rw[d6 rfl];simp,by rw[d6 rfl];simp,by rw[d6 rfl];simp,d6⟩
 |true=>obtain⟨a1,a2,_⟩:=Fm d3 (d5 rfl).1;exact⟨c,true,d1,d2,d3,a1.len,a2.len,rng a1,rng a2,nofun⟩
section
variable {x x':qg} (ok:Ez 1048576 x) (ok':Ez 1048576 x') (hv:Ee x=some (true,())) (hv':Ee x'=some (true,())) (se:W8 x x') {id:Int} (hid:0<=id/\id<5)
include ok ok' hv hv' se hid
theorem PL: ∃l,Fn x id=some (l,())/\G6 x' id=some (l,())/\l.length<=5/\ ∀z∈l,0<=z/\z<5:=by
 have vc:=Es ok hv;have vc':=Es ok' hv';obtain⟨c,d,d1,d2,d3,r5,_,inr,_,d6⟩:=XJ ok hv;have rm:c.replicas.length<=maxLen:=by unfold maxLen;omega
 have tI:GG id 0 4=true:=Eg.2 (by omega)
 have hgood:Fd x' id=some (true,()):=by obtain⟨v,w1,w2⟩:=Fp x' ok';rw[hv'] at w1;simp only[af,au,and_true] at w1;subst w1;unfold Fd;simp only[w2,ao,Jo,tI,CJ]
 unfold Fn G6;have d2':Fg x'.master=some (c,d,()):=by rw[se.master];exact d2
 simp only[d1,d2',hgood,ao,Ef,CJ];cases d with
 |false=>
  have hc:=d6 rfl;subst hc
  rw[show Kr ((id,(),(),(),false,0,()),(fx x,(0,0,(),(),()),()),([],[],[],()))=some (((),()),(),([],())) from lM (by simp only[FS];rfl)]
  exact⟨[],rfl,rfl,bM _,nofun⟩
 |true=>
  obtain⟨l,q,k1,k2⟩:=MZ (B1:=FS) (B2:=H0) c.replicas.length (λk (b:List Int)=>((id,(),(),(),true,(k:Int),()),(fx x,(c.epoch,c.primary,(),(),()),()),(b,c.replicas,c.witnesses,()))) (λk b=>((id,(),(),(),(),(c.replicas.length:Int),(k:Int),()),(fx x',(c.epoch,c.primary,(),(),()),()),(b,c.replicas,c.witnesses,()))) (λk b=>b.length<=k/\ ∀z∈b,0<=z/\z<5) (λb=>(((),()),(),(b,()))) (λb=>(((),()),(),(b,())))
   (λb _=>by simp only[FS,H0,C1];exact⟨if_neg (by omega),if_neg (by omega)⟩)
   (λk b hk hb=>by
     have c1: (k:Int)< (c.replicas.length:Int):=by omega
     have c2: (0:Int)<=(k:Int)/\(k:Int)< (c.replicas.length:Int):=by omega
     have hz:=inr _ (DJ hk);generalize hzz:c.replicas[k] =z at hz;have hg:c.replicas[k]? =some z:=by rw[<-hzz];exact aq hk
     obtain⟨s,s1,s2,_⟩:=HY ok vc hz;obtain⟨e,e1⟩:=se.srv _ _ s1;obtain⟨h1,_⟩:=Lx x ok vc hid hz;obtain⟨_,h2⟩:=Lx x' ok' vc' hid hz;rw[se.side,se.side] at h2;have h40: (b++ [z]).length*8<=2 ^ 40:=IC (by simp;omega)
     simp only[FS,H0,KH,fx,C1,CJ,B3,if_pos c1,if_pos c2,DG,hg,ao,
      show (⟨x.now,x.servers,x.sides,(⟨x.master.configs,x.master.activated⟩:jY),x.masterUp,(⟨x.lease.epoch,x.lease.holder,x.lease.ends⟩:uL),x.places⟩:qg)=x from rfl,hv,EM,tI,if_pos hz.1,s1,e1,h1,h2,if_pos h40,BI rm hk]
     have hb': (b++ [z]).length<=k+1/\ ∀y∈b++ [z],0<=y/\y<5:=⟨by simp;omega,λy hy=>by
      rcases bC.1 hy with h|h
      ·exact hb.2 y h
      ·rw[aL.1 h];exact hz⟩
     have hb'':b.length<=k+1/\ ∀y∈b,0<=y/\y<5:=⟨by omega,hb.2⟩
     cases s.up<;>cases (s.config.epoch==c.epoch)<;>cases (Hq x id==Hq x z)<;>simp only[CJ,BK,ao]<;>first |exact⟨b++ [z],rfl,rfl,hb'⟩|exact⟨b,rfl,rfl,hb''⟩)
   [] ⟨bM _,nofun⟩
  rw[show Kr ((id,(),(),(),true,0,()),(fx x,(c.epoch,c.primary,(),(),()),()),([],c.replicas,c.witnesses,()))=_ from k1,
   show Oo ((id,(),(),(),(),(c.replicas.length:Int),0,()),(fx x',(c.epoch,c.primary,(),(),()),()),([],c.replicas,c.witnesses,()))=_ from k2]
  exact⟨l,rfl,rfl,by omega,q.2⟩
theorem RH: ∃n,FK x id=some (n,())/\HF x' id=some (n,())/\(n= -1\/(0<=n/\n<5)):=by
 have vc:=Es ok hv;obtain⟨l,l1,l2,l3,inl⟩:=PL ok ok' hv hv' se hid;have lm:l.length<=maxLen:=by unfold maxLen;omega
 obtain⟨n,q,k1,k2⟩:=MZ (B1:=F8) (B2:=HZ) l.length (λk (b:Int)=>(((),b,(),(k:Int),()),(fx x,()),(l,()))) (λk b=>(((),b,(),(l.length:Int),(k:Int),()),(fx x',()),(l,()))) (λ_ b=>b= -1\/(0<=b/\b<5)) (λb=>((b,()),(),())) (λb=>((b,()),(),()))
  (λb _=>by simp only[F8,HZ,C1];exact⟨if_neg (by omega),if_neg (by omega)⟩)
  (λk b hk hb=>by
    have c1: (k:Int)< (l.length:Int):=by omega
    have c2: (0:Int)<=(k:Int)/\(k:Int)< (l.length:Int):=by omega
    have hz:=inl _ (DJ hk);generalize hzz:l[k] =z at hz;have hg:l[k]? =some z:=by rw[<-hzz];exact aq hk
    obtain⟨s,s1,s2,_⟩:=HY ok vc hz;obtain⟨e,e1⟩:=se.srv _ _ s1;simp only[F8,HZ,fx,C1,B3,if_pos c1,if_pos c2,DG,hg,ao,if_pos hz.1,s1,e1,BI lm hk];rcases hb with rfl|hb
    ·exact⟨z,rfl,rfl,.inr hz⟩
    ·obtain⟨t,t1,t2,_⟩:=HY ok vc hb;obtain⟨f,f1⟩:=se.srv _ _ t1;simp only[if_neg (show ¬b<0 by omega),if_pos hb.1,t1,f1,ao];by_cases h: (s.log.length:Int)>(t.log.length:Int)
     ·simp only[if_pos h];exact⟨z,rfl,rfl,.inr hz⟩
     ·simp only[if_neg h];exact⟨b,rfl,rfl,.inr hb⟩)
  (-1) (.inl rfl)
 unfold FK HF;simp only[l1,l2,ao];rw[show Mu (((),(-1),(),0,()),(fx x,()),(l,()))=_ from k1,show Mt (((),(-1),(),(l.length:Int),0,()),(fx x',()),(l,()))=_ from k2];exact⟨n,rfl,rfl,q⟩
omit ok hv se in
theorem XV:Fd x' id=some (true,()):=by obtain⟨v,w1,w2⟩:=Fp x' ok';rw[hv'] at w1;simp only[af,au,and_true] at w1;subst w1;unfold Fd;simp only[w2,ao,Jo,Eg.2 (show 0<=id/\id<=4 by omega),CJ]
theorem UT{c:nF}{w w':qj}{z j:Int}(hw:EA 1048576 w)(h1:w'.first=w.first)(h2:w'.log=w.log)(b:List rk×Bool)(hb:b.1.length<=19/\(b.2=false->b.1= [])): ∃r:List rk×Bool,(r.1.length<=19/\(r.2=false->r.1= []))/\
  IL ((id,(),(),b.2,(),true,j,(),0,()),(fx x,(c.epoch,c.primary,(),(),()),XT w,()),(b.1,c.replicas,c.witnesses,()))=some ((id,(),(),r.2,(),true,j,()),(fx x,(c.epoch,c.primary,(),(),()),()),(r.1,c.replicas,c.witnesses,()))/\
  N1 ((id,(),(),(),b.2,(),(),z,j,x'.servers,(x'.servers.length:Int),0,()),(fx x',(c.epoch,c.primary,(),(),()),XT w',()),(b.1,c.witnesses,c.replicas,()))=some ((id,(),(),(),r.2,(),z,j,()),(fx x',(c.epoch,c.primary,(),(),()),()),(r.1,c.witnesses,c.replicas,())):=by
 have vc:=Es ok hv;have vc':=Es ok' hv'
 refine MZ (B1:=FG) (B2:=Hu) 5 (λk (b:List rk×Bool)=>((id,(),(),b.2,(),true,j,(),(k:Int),()),(fx x,(c.epoch,c.primary,(),(),()),XT w,()),(b.1,c.replicas,c.witnesses,()))) (λk b=>((id,(),(),(),b.2,(),(),z,j,x'.servers,(x'.servers.length:Int),(k:Int),()),(fx x',(c.epoch,c.primary,(),(),()),XT w',()),(b.1,c.witnesses,c.replicas,()))) (λ_ b=>b.1.length<=19/\(b.2=false->b.1= [])) (λb=>((id,(),(),b.2,(),true,j,()),(fx x,(c.epoch,c.primary,(),(),()),()),(b.1,c.replicas,c.witnesses,()))) (λb=>((id,(),(),(),b.2,(),z,j,()),(fx x',(c.epoch,c.primary,(),(),()),()),(b.1,c.witnesses,c.replicas,())))
  (λb _=> ?_) (λk b hk hb=> ?_) b hb
 ·simp only[FG,Hu,C1,vc'.len];exact⟨if_neg (by omega),if_neg (by omega)⟩
 ·have c1: (k:Int)<5:=by omega
  have c1': (k:Int)< (x'.servers.length:Int):=by rw[vc'.len];omega
  have c2: (0:Int)<=(k:Int):=by omega
  have hkk:0<=(k:Int)/\(k:Int)<5:=⟨c2,c1⟩
  obtain⟨s,s1,s2,s3⟩:=HY ok vc hkk;obtain⟨t,t1,t2,t3⟩:=HY ok' vc' hkk;obtain⟨e,e1⟩:=se.srv _ _ s1;rw[t1] at e1;have e1:=Option.some.inj e1;obtain⟨g1,_⟩:=Lx x ok vc hid hkk;obtain⟨_,g2⟩:=Lx x' ok' vc' hid hkk;rw[se.side,se.side] at g2;have dt:data t (k:Int)=data s (k:Int):=by rw[e1];rfl
  have tup:t.up=s.up:=by rw[e1]
  obtain⟨q1,_⟩:=T0 s (k:Int) s2 s3;obtain⟨_,q2⟩:=T0 t (k:Int) t2 t3;rw[dt] at q2;have dl: (data s (k:Int)).length<=1048576:=XP s _ s2;obtain⟨l,f,j1,j2,j3⟩:=X5 (data s (k:Int)) w.first w.log dl hw.2.1;have sw:=BI (n:=5) (by decide) hk;rw[DG] at s1 t1;simp only[FG,Hu,fx,XT,C1,Ef,B3,if_pos c1,if_pos c1',if_pos c2,DG,s1,t1,ao,tup,g1,g2,q1,q2,h1,h2,j1,j2,sw];cases s.up with
  |false=>exact⟨b,rfl,rfl,hb⟩
  |true=>
   cases (Hq x id==Hq x (k:Int)) with
   |false=>exact⟨b,rfl,rfl,hb⟩
   |true=>
    cases f with
    |false=>exact⟨b,rfl,rfl,hb⟩
    |true=>
     simp only[CJ];cases hb2:b.2 with
     |false=>exact⟨(l,true),rfl,rfl,j3,nofun⟩
     |true=>
      simp only[CJ];by_cases h: (l.length:Int)>(b.1.length:Int)
      ·simp only[if_pos h];exact⟨(l,true),rfl,rfl,j3,nofun⟩
      ·simp only[if_neg h];exact⟨b,by rw[hb2],by rw[hb2],hb⟩
theorem SQ: ∃l b,Fo x id=some (l,b,())/\HH x' id=some (l,b,())/\l.length<=19:=by
 have vc:=Es ok hv;have vc':=Es ok' hv';obtain⟨c,d,d1,d2,d3,_,r5,_,inw,d6⟩:=XJ ok hv;have rm:c.witnesses.length<=maxLen:=by unfold maxLen;omega
 have tI:GG id 0 4=true:=Eg.2 (by omega);have hgood:=XV ok' hv' hid;have d2':Fg x'.master=some (c,d,()):=by rw[se.master];exact d2
 unfold Fo HH;simp only[d1,d2',hgood,ao,Ef,CJ];cases d with
 |false=>
  have hc:=d6 rfl;subst hc
  rw[show Ks ((id,(),(),false,(),false,0,()),(fx x,(0,0,(),(),()),()),([],[],[],()))=some (((),false,()),(),([],())) from lM (by simp only[Fv];rfl)]
  exact⟨[],false,rfl,rfl,bM _⟩
 |true=>
  obtain⟨r,q,k1,k2⟩:=MZ (B1:=Fv) (B2:=H1) c.witnesses.length (λk (b:List rk×Bool)=>((id,(),(),b.2,(),true,(k:Int),()),(fx x,(c.epoch,c.primary,(),(),()),()),(b.1,c.replicas,c.witnesses,()))) (λk b=>((id,(),(),(),b.2,(),(c.witnesses.length:Int),(k:Int),()),(fx x',(c.epoch,c.primary,(),(),()),()),(b.1,c.witnesses,c.replicas,()))) (λ_ b=>b.1.length<=19/\(b.2=false->b.1= [])) (λb=>(((),b.2,()),(),(b.1,()))) (λb=>(((),b.2,()),(),(b.1,())))
   (λb _=>by simp only[Fv,H1,C1];exact⟨if_neg (by omega),if_neg (by omega)⟩)
   (λk b hk hb=>by
     have c1: (k:Int)< (c.witnesses.length:Int):=by omega
     have c2: (0:Int)<=(k:Int)/\(k:Int)< (c.witnesses.length:Int):=by omega
     have hz:=inw _ (DJ hk);generalize hzz:c.witnesses[k] =z at hz;have hg:c.witnesses[k]? =some z:=by rw[<-hzz];exact aq hk
     obtain⟨s,s1,s2,_⟩:=HY ok vc hz;obtain⟨e,e1⟩:=se.srv _ _ s1;obtain⟨h1,_⟩:=Lx x ok vc hid hz;obtain⟨_,h2⟩:=Lx x' ok' vc' hid hz;rw[se.side,se.side] at h2;obtain⟨r,r1,r2,r3⟩:=UT ok ok' hv hv' se hid (c:=c) (w:=s) (w':=⟨s.up,s.intact,s.version,e,s.config,s.first,s.log,s.commit,s.learned⟩) (z:=(c.witnesses.length:Int)) (j:=(k:Int)) s2 rfl rfl b hb;simp only[fx,XT] at r2 r3
     simp only[Fv,H1,KH,fx,C1,Ef,CJ,B3,if_pos c1,if_pos c2,DG,hg,ao,
      show (⟨x.now,x.servers,x.sides,(⟨x.master.configs,x.master.activated⟩:jY),x.masterUp,(⟨x.lease.epoch,x.lease.holder,x.lease.ends⟩:uL),x.places⟩:qg)=x from rfl,hv,EM,tI,if_pos hz.1,s1,e1,h1,h2,r2,r3,BI rm hk]
     cases s.up<;>cases (s.config.epoch==c.epoch)<;>cases (Hq x id==Hq x z)<;>simp only[CJ,BK,ao]<;>first |exact⟨b,rfl,rfl,hb⟩|exact⟨r,rfl,rfl,r1⟩)
   ([],false) ⟨bM _,λ_=>rfl⟩
  rw[show Ks ((id,(),(),false,(),true,0,()),(fx x,(c.epoch,c.primary,(),(),()),()),([],c.replicas,c.witnesses,()))=_ from k1,
   show Oq ((id,(),(),(),false,(),(c.witnesses.length:Int),0,()),(fx x',(c.epoch,c.primary,(),(),()),()),([],c.witnesses,c.replicas,()))=_ from k2]
  simp only[ao];obtain⟨l,f⟩:=r;cases f with
  |true=>exact⟨l,true,rfl,rfl,q.1⟩
  |false=>have:=q.2 rfl;simp only at this;subst this;exact⟨[],false,rfl,rfl,bM _⟩
theorem TU: ∃l b,Fy x id=some (l,b,())/\Im x' id=some (l,b,())/\l.length<=1048576:=by
 have vc:=Es ok hv;have tI:GG id 0 4=true:=Eg.2 (by omega);have hgood:=XV ok' hv' hid;obtain⟨n,n1,n2,n3⟩:=RH ok ok' hv hv' se hid;obtain⟨l,b,l1,l2,l3⟩:=SQ ok ok' hv hv' se hid;unfold Fy Im;rw[se.master];simp only[hv,hgood,EM,tI,n1,n2,l1,l2,ao,Ef,CJ];cases (x.master.activated==0) with
 |true=>exact⟨[],true,rfl,rfl,bM _⟩
 |false=>
  simp only[BK,C1];rcases n3 with rfl|hn
  ·simp only[if_neg (show ¬ (-1:Int)≥0 by omega)];exact⟨l,b,rfl,rfl,by omega⟩
  ·obtain⟨s,s1,s2,_⟩:=HY ok vc hn;obtain⟨e,e1⟩:=se.srv _ _ s1;simp only[if_pos (show n≥0 by omega),B3,if_pos hn.1,s1,e1,ao,(IX _ s2.2.1).1,(IX _ s2.2.1).2];exact⟨_,_,rfl,rfl,s2.2.1⟩
end
end
section
structure SV (m:jY) (s:qj) (k:Int):Prop where
 val:Eh s k=some (true,())
 ep:s.epoch<=(m.configs.length:Int)
 lrn: ∃e,Hh s.learned=some (e,())/\e<=m.activated
 cfg:s.config=⟨0,0,[],[]⟩\/(Fz m s.config.epoch=some (s.config,true,())/\s.config.epoch<=m.activated)
theorem abm(x:qg)(ok:Ez 1048576 x)(k:Nat)(hk:k<x.servers.length):
  (SV x.master x.servers[k] (k:Int)/\El (((),(k:Int),()),((x.now,x.servers,x.sides,x.master.configs,x.master.activated,x.masterUp,x.lease.epoch,x.lease.holder,x.lease.ends,x.places,()),()),())=some (.inl (((),((k+1:Nat):Int),()),((x.now,x.servers,x.sides,x.master.configs,x.master.activated,x.masterUp,x.lease.epoch,x.lease.holder,x.lease.ends,x.places,()),()),())))\/
  (¬SV x.master x.servers[k] (k:Int)/\El (((),(k:Int),()),((x.now,x.servers,x.sides,x.master.configs,x.master.activated,x.masterUp,x.lease.epoch,x.lease.holder,x.lease.ends,x.places,()),()),())=some (.inr (.inl ((false,()),(),())))):=by
 obtain⟨⟨hs1,hs2⟩,hsd,hml,hpl⟩:=ok;have hm:=Ep hs1;have c1: (k:Int)< (x.servers.length:Int):=by omega
 have c2: (0:Int)<=(k:Int):=by omega
 have hsk:=hs2 _ (DJ hk);obtain⟨b,v1,v2⟩:=J3 x.servers[k] (k:Int) hsk;obtain⟨n,n1,n2⟩:=GU x.servers[k].learned (Ep hsk.2.2);obtain⟨c,d,d1,d2,d3⟩:=Mc x.master x.servers[k].config.epoch hml;have hcfg:=Ei hsk.1
 simp only[El,C1,B3,if_pos c1,if_pos c2,DG,aq hk,ao,v1,n1,BI hm hk,Ef,
  show (⟨x.master.configs,x.master.activated⟩:jY)=x.master from rfl,d1,I1 _ hcfg,(F9 c x.servers[k].config d3).1]
 cases b with
 |false=>exact .inr ⟨(λh=>(by have h:=v1.symm.trans h.val;cases h)),rfl⟩
 |true=>
  simp only[CJ];by_cases h1:x.servers[k].epoch>(x.master.configs.length:Int)
  ·simp only[if_pos h1];exact .inr ⟨λh=>by have:=h.ep;omega,trivial⟩
  ·simp only[if_neg h1];by_cases h2:n>x.master.activated
   ·simp only[if_pos h2];refine .inr ⟨λh=> ?_,trivial⟩;obtain⟨e,e1,e2⟩:=h.lrn;rw[n1] at e1;simp only[af,au,and_true] at e1;omega
   ·simp only[if_neg h2];by_cases h3:x.servers[k].config=⟨0,0,[],[]⟩
    ·simp only[if_pos h3];exact .inl ⟨⟨v1,by omega,⟨n,n1,by omega⟩,.inl h3⟩,trivial⟩
    ·simp only[if_neg h3];cases d with
     |false=>
      refine .inr ⟨λh=> ?_,rfl⟩;rcases h.cfg with h| ⟨h,_⟩
      ·exact h3 h
      ·rw[d1] at h;cases h
     |true=>
      simp only[CJ];by_cases h4:c=x.servers[k].config
      ·simp only[if_pos h4];by_cases h5:x.servers[k].config.epoch>x.master.activated
       ·simp only[if_pos h5];refine .inr ⟨λh=> ?_,trivial⟩;rcases h.cfg with h| ⟨_,h⟩
        ·exact h3 h
        ·omega
       ·simp only[if_neg h5];exact .inl ⟨⟨v1,by omega,⟨n,n1,by omega⟩,.inr ⟨by rw[d1,h4],by omega⟩⟩,trivial⟩
      ·simp only[if_neg h4];refine .inr ⟨λh=> ?_,trivial⟩;rcases h.cfg with h| ⟨h,_⟩
       ·exact h3 h
       ·rw[d1] at h;simp only[af,au,and_true] at h;exact h4 h
theorem US(x:qg)(ok:Ez 1048576 x):
  ((∀k (hk:k<x.servers.length),SV x.master x.servers[k] (k:Int))/\GF (((),0,()),((x.now,x.servers,x.sides,x.master.configs,x.master.activated,x.masterUp,x.lease.epoch,x.lease.holder,x.lease.ends,x.places,()),()),())=some (.inr (((),()),(),())))\/
  ((∃k,∃hk:k<x.servers.length,¬SV x.master x.servers[k] (k:Int))/\GF (((),0,()),((x.now,x.servers,x.sides,x.master.configs,x.master.activated,x.masterUp,x.lease.epoch,x.lease.holder,x.lease.ends,x.places,()),()),())=some (.inl ((false,()),(),()))):=by
 have fA:=CQ (B1:=El) (B2:=El) x.servers.length (λk=>(((),(k:Int),()),((x.now,x.servers,x.sides,x.master.configs,x.master.activated,x.masterUp,x.lease.epoch,x.lease.holder,x.lease.ends,x.places,()),()),())) (λk=>(((),(k:Int),()),((x.now,x.servers,x.sides,x.master.configs,x.master.activated,x.masterUp,x.lease.epoch,x.lease.holder,x.lease.ends,x.places,()),()),())) (.inr (((),()),(),())) (.inr (((),()),(),())) (λ_=> .inl ((false,()),(),())) (λ_=> .inl ((false,()),(),()))
  (λk=> ∀hk:k<x.servers.length,SV x.master x.servers[k] (k:Int)) (λk=> ∃hk:k<x.servers.length,¬SV x.master x.servers[k] (k:Int))
  (by simp only[El];rw[C1,if_neg (by omega)])
  (by simp only[El];rw[C1,if_neg (by omega)])
  (λk hk=>by
    rcases abm x ok k hk with ⟨h1,h2⟩| ⟨h1,h2⟩
    ·exact .inl ⟨h2,h2,λ_=>h1⟩
    ·exact .inr ⟨h2,h2,hk,h1⟩)
 rcases fA with ⟨k1,_,k3⟩| ⟨k,hk,k1,_,k3⟩
 ·exact .inl ⟨λk hk=>k3 k hk hk,k1⟩
 ·exact .inr ⟨⟨k,k3⟩,k1⟩
theorem LP{x:qg}(ok:Ez 1048576 x)(hv:Ee x=some (true,())): ∀k (hk:k<x.servers.length),SV x.master x.servers[k] (k:Int):=by
 rcases US x ok with ⟨h,_⟩| ⟨_,h⟩
 ·exact h
 ·exfalso;obtain⟨b1,a1,_⟩:=Le x.sides (Ep ok.2.1);obtain⟨b2,m1,_⟩:=masterLog x.master (Fh ok.2.2.1);obtain⟨b3,l1,_⟩:=MW x.lease;obtain⟨b4,p1,_⟩:=KF x.places (Ep ok.2.2.2);unfold Ee at hv;simp only[EM,a1,m1,l1,p1,ao,h,DU] at hv;revert hv;cases GG x.now 0 999<;>cases ((x.servers.length:Int)==5)<;>cases b1<;>cases b2<;>cases GG x.masterUp 0 3<;>cases b3<;>cases b4<;>cases decide (x.lease.epoch>x.master.activated)<;>intro hv<;>cases hv
theorem QI{x:qg}(ok:Ez 1048576 x)(hv:Ee x=some (true,()))(S:List qj)(hl:S.length=x.servers.length)(hok: ∀s∈S,EA 1048576 s)(hS: ∀k (hk:k<S.length),SV x.master S[k] (k:Int)):
  Ez 1048576 ⟨x.now,S,x.sides,x.master,x.masterUp,x.lease,x.places⟩/\Ee ⟨x.now,S,x.sides,x.master,x.masterUp,x.lease,x.places⟩=some (true,()):=by
 have ok2:Ez 1048576 ⟨x.now,S,x.sides,x.master,x.masterUp,x.lease,x.places⟩:=⟨⟨by show S.length<=_;rw[hl];exact ok.1.1,hok⟩,ok.2.1,ok.2.2.1,ok.2.2.2⟩
 refine⟨ok2,?_⟩;rcases US x ok with ⟨_,h1⟩| ⟨⟨k,hk,h0⟩,_⟩
 ·rcases US ⟨x.now,S,x.sides,x.master,x.masterUp,x.lease,x.places⟩ ok2 with ⟨_,h2⟩| ⟨⟨k,hk,h0⟩,_⟩
  ·have hv':=hv;unfold Ee at hv' ⊢;rw[h1] at hv';rw[h2];simp only[hl];exact hv'
  ·exact absurd (hS k hk) h0
 ·exact absurd (LP ok hv k hk) h0
theorem SV.old{m:jY}{s:qj}{k:Int}(h:SV m s k)(hm:NY 1048576 m)(hv:Er m=some (true,())):s.config.epoch<=(m.configs.length:Int):=by
 obtain⟨_,f2,f3⟩:=I2 (Fh hm) hv;rcases h.cfg with h| ⟨_,h⟩
 ·rw[h];show (0:Int)<=_;omega
 ·omega
end
section
theorem TH{α:Type}{w:α->Int}: ∀ {a b:List α},a.length=b.length->(∀ (j:Nat) (ha:j<a.length) (hb:j<b.length),w a[j] =w b[j])->Oa w a=Oa w b
 | [],[],_,_=>rfl
 |x::a,y::b,h,h2=>by
  have h0:=h2 0 (by simp) (by simp);simp only[List.getElem_cons_zero] at h0
  have ih:=TH (w:=w) (a:=a) (b:=b) (by simpa using h) λj ha hb=>by have:=h2 (j+1) (by simpa using ha) (by simpa using hb);simpa using this
  unfold Oa;rw[h0,ih]
abbrev Ho(s:qj)(e:Int):qj:=⟨s.up,s.intact,s.version,e,s.config,s.first,s.log,s.commit,s.learned⟩
theorem YW{s:qj}{id:Int}(h:EA 1048576 s)(hv:Eh s id=some (true,())):s.config.epoch<=s.epoch:=by
 have hc:=Ei h.1;obtain⟨_,_,_,_,_,_,_,e0,_⟩:=Gk h hv;by_cases hz:s.config=⟨0,0,[],[]⟩
 ·rw[hz];exact e0
 ·refine Int.not_lt.1 λhlt=> ?_;unfold Eh at hv;simp only[EM,ao,Ef,I1 s.config hc,C1,if_neg hz,if_pos hlt] at hv;cases h1:GG s.version 1 2 with
  |false=>rw[h1] at hv;cases hv
  |true=>
  cases h2:GG s.epoch 0 20 with
  |false=>rw[h1,h2] at hv;cases hv
  |true=>
  rcases isLog s.log (Ep h.2.1) with ⟨a1,a2,a3⟩| ⟨a1,a2⟩
  case inr=>simp only[h1,h2,a1,ao,CJ,BK] at hv;cases hv
  rcases isLog s.learned (Ep h.2.2) with ⟨b1,b2,b3⟩| ⟨b1,b2⟩
  case inr=>simp only[h1,h2,a1,b1,ao,CJ,BK] at hv;cases hv
  simp only[h1,h2,a1,b1,ao,CJ] at hv;cases h3:GG s.first 0 16<;>rw[h3] at hv
  ·cases hv
  ·cases h4:GG (IntKind.wrap .i64 (s.first+(s.log.length:Int))) 0 16<;>rw[h4] at hv
   ·cases hv
   ·cases h5:GG s.commit 0 (IntKind.wrap .i64 (s.first+(s.log.length:Int)))<;>rw[h5] at hv
    ·cases hv
    ·cases h6:s.intact<;>rw[h6] at hv<;>cases hv
theorem ZR{s:qj}{id:Int}(h:EA 1048576 s)(hv:Eh s id=some (true,())){e:Int}(h1:s.epoch<=e)(h2:e<=20):Eh (Ho s e) id=some (true,()):=by have hle:=YW h hv;obtain⟨_,_,_,_,_,_,_,e0,e20⟩:=Gk h hv;have w1:GG s.epoch 0 20=true:=Eg.2 (by omega);have w2:GG e 0 20=true:=Eg.2 (by omega);unfold Eh at hv ⊢;simp only[EM,ao,C1,w1,w2,if_neg (show ¬s.epoch<s.config.epoch by omega),if_neg (show ¬e<s.config.epoch by omega)] at hv ⊢;exact hv
theorem ab6{m:jY}{s:qj}{k:Int}(ok:EA 1048576 s)(h:SV m s k){e:Int}(h1:s.epoch<=e)(h2:e<=(m.configs.length:Int))(h3:m.configs.length<=20):SV m (Ho s e) k:=
 ⟨ZR ok h.val h1 (by omega),h2,h.lrn,h.cfg⟩
theorem WA(s:qj)(e:Int)(h:EA 1048576 s): ∃ep b,Gh s e=some (Ho s ep,b,())/\J9 s e=some (Ho s ep,b,())/\(ep=s.epoch\/(ep=e/\s.epoch<=e)):=by
 unfold Gh J9;simp only[(K4 s h).1,(K4 s h).2,EM,Jo,ao,Ef,C1];cases GG e 1 20 with
 |false=>exact⟨s.epoch,false,rfl,rfl,.inl rfl⟩
 |true=>
  simp only[CJ];by_cases h1:e<=s.epoch
  ·by_cases h2:s.epoch<0
   ·simp only[if_pos h1,if_pos h2];exact⟨s.epoch,false,rfl,rfl,.inl rfl⟩
   ·simp only[if_pos h1,if_neg h2];exact⟨s.epoch,false,rfl,rfl,.inl rfl⟩
  ·by_cases h2:s.epoch<0
   ·simp only[if_neg h1,if_pos h2];exact⟨s.epoch,false,rfl,rfl,.inl rfl⟩
   ·simp only[if_neg h1,if_neg h2];exact⟨e,true,rfl,rfl,.inr ⟨rfl,by omega⟩⟩
abbrev GH(x:qg)(S:List qj):qg:=⟨x.now,S,x.sides,x.master,x.masterUp,x.lease,x.places⟩
theorem Q4(x:qg)(ok:Ez 1048576 x)(hv:Ee x=some (true,())){id e:Int}(hid:0<=id/\id<5): ∃S,E0 x id e=some (GH x S,())/\GK x id e=some (GH x S,())/\Ez 1048576 (GH x S)/\Ee (GH x S)=some (true,())/\W8 x (GH x S)/\Oa NP S=Oa NP x.servers:=by
 have vc:=Es ok hv;have hml:=TP ok.2.2.1 vc.ml;obtain⟨v,v1,v2⟩:=Fp x ok;rw[hv] at v1;simp only[af,au,and_true] at v1;subst v1;obtain⟨c,d,d1,d2,d3,_⟩:=XJ ok hv;obtain⟨m,m1,m2,m3,m4,m5,_⟩:=Hi c d3;have mm:m.length<=maxLen:=by unfold maxLen;omega
 have same:GH x x.servers=x:=rfl;unfold E0 GK;simp only[(EL x ok).1,(EL x ok).2,d1,d2,hv,v2,EM,Jo,ao,Ef,CJ];cases d with
 |false=>exact⟨x.servers,rfl,rfl,ok,hv,W8.refl x,rfl⟩
 |true=>
  simp only[CJ];cases hw:GG e 1 (x.master.configs.length:Int) with
  |false=>exact⟨x.servers,rfl,rfl,ok,hv,W8.refl x,rfl⟩
  |true=>
   have hw:=Eg.1 hw
   obtain⟨S,q,k1,k2⟩:=MZ (B1:=Ff) (B2:=FU) m.length
    (λk (S:List qj)=>((id,e,(),(),(),(),(k:Int),()),(fx x,(0,(),(),(),0,0,0,0,0,(),()),(x.now,(),(),(),x.master.activated,x.masterUp,x.lease.epoch,x.lease.holder,x.lease.ends,(),()),()),(m,S,x.sides,x.master.configs,x.places,())))
    (λk S=>((id,e,(),(),(),(),(m.length:Int),(k:Int),()),(fx x,(0,(),(),(),0,0,0,0,0,(),()),(x.now,(),(),(),x.master.activated,x.masterUp,x.lease.epoch,x.lease.holder,x.lease.ends,(),()),()),(m,S,x.sides,x.master.configs,x.places,())))
    (λk S=>S.length=x.servers.length/\ ∀ (j:Nat) (s:qj),x.servers[j]? =some s-> ∃ep,S[j]? =some (Ho s ep)/\(ep=s.epoch\/(ep=e/\s.epoch<=e))/\((∀y∈m.drop k,y≠(j:Int))\/ep=s.epoch))
    (λS=>(((),(),()),((0,(),(),(),0,0,0,0,0,(),()),(x.now,(),(),(),x.master.activated,x.masterUp,x.lease.epoch,x.lease.holder,x.lease.ends,(),()),()),(S,x.sides,x.master.configs,x.places,())))
    (λS=>(((),(),()),((0,(),(),(),0,0,0,0,0,(),()),(x.now,(),(),(),x.master.activated,x.masterUp,x.lease.epoch,x.lease.holder,x.lease.ends,(),()),()),(S,x.sides,x.master.configs,x.places,())))
    (λS _=>by simp only[Ff,FU,C1];exact⟨if_neg (by omega),if_neg (by omega)⟩)
    (λk S hk hS=>by
      have c1: (k:Int)< (m.length:Int):=by omega
      have c2: (0:Int)<=(k:Int)/\(k:Int)< (m.length:Int):=by omega
      have hz:=m4 _ (DJ hk);have hdr:m.drop k=m[k]::m.drop (k+1):=cg hk
      have hnot: ∀y∈m.drop (k+1),y≠m[k] :=by have h2:SS (m.drop k):=List.Pairwise.sublist (List.drop_sublist k m) m5;rw[hdr] at h2;intro y hy;have:=(DS.1 h2).1 y hy;omega
      generalize hzz:m[k] =z at hz hdr hnot;have hg:m[k]? =some z:=by rw[<-hzz];exact aq hk
      obtain⟨s,s1,s2,_⟩:=HY ok vc hz;obtain⟨h1,h2⟩:=Lx x ok vc hid hz
      have hSz:S[z.toNat]? =some s:=by
       obtain⟨ep,p1,_,p3⟩:=hS.2 _ s s1;rcases p3 with p3|rfl
       ·exact absurd (by omega:z=(z.toNat:Int)) (p3 z (by rw[hdr];exact aK))
       ·exact p1
      have hlt:z.toNat<S.length:=C8 hSz;have c3:0<=z/\z< (S.length:Int):=by omega
      obtain⟨ep,b,q1,q2,q3⟩:=WA s e s2
      have hkeep:S.length=x.servers.length/\ ∀ (j:Nat) (s:qj),x.servers[j]? =some s-> ∃ep,S[j]? =some (Ho s ep)/\(ep=s.epoch\/(ep=e/\s.epoch<=e))/\((∀y∈m.drop (k+1),y≠(j:Int))\/ep=s.epoch):=by refine⟨hS.1,λj t ht=> ?_⟩;obtain⟨ep,p1,p2,p3⟩:=hS.2 j t ht;exact⟨ep,p1,p2,p3.imp (λh y hy=>h y (by rw[hdr];exact aI _ hy)) (λh=>h)⟩
      simp only[Ff,FU,fx,C1,B3,if_pos c1,if_pos c2,DG,hg,ao,if_pos hz.1,if_pos c3,s1,hSz,h1,h2,aP,ay,if_true,cE,DP,q1,q2,BI mm hk];cases s.up with
      |false=>exact⟨S,rfl,rfl,hkeep⟩
      |true=>
       cases (Hq x id==Hq x z) with
       |false=>exact⟨S,rfl,rfl,hkeep⟩
       |true=>
        refine⟨S.set z.toNat (Ho s ep),rfl,rfl,by simp[hS.1],λj t ht=> ?_⟩;by_cases hj:j=z.toNat
        ·subst hj;rw[s1] at ht;have ht:=Option.some.inj ht;subst ht;refine⟨ep,by rw[DK hlt],q3,.inl λy hy h=>hnot y hy (by omega)⟩
        ·obtain⟨ep',p1,p2,p3⟩:=hkeep.2 j t ht;exact⟨ep',by rw[DN (λh=>hj h.symm)];exact p1,p2,p3⟩)
    x.servers ⟨rfl,λj s h=>⟨s.epoch,h,.inl rfl,.inr rfl⟩⟩
   simp only[CJ,m1,m2,ao]
   rw[show LC ((id,e,(),(),(),(),0,()),(fx x,(0,(),(),(),0,0,0,0,0,(),()),(x.now,(),(),(),x.master.activated,x.masterUp,x.lease.epoch,x.lease.holder,x.lease.ends,(),()),()),(m,x.servers,x.sides,x.master.configs,x.places,()))=_ from k1,
    show LB ((id,e,(),(),(),(),(m.length:Int),0,()),(fx x,(0,(),(),(),0,0,0,0,0,(),()),(x.now,(),(),(),x.master.activated,x.masterUp,x.lease.epoch,x.lease.holder,x.lease.ends,(),()),()),(m,x.servers,x.sides,x.master.configs,x.places,()))=_ from k2]
   have at_: ∀j (hj:j<S.length),∃s,x.servers[j]? =some s/\ ∃ep,S[j] =Ho s ep/\(ep=s.epoch\/(ep=e/\s.epoch<=e)):=by
    intro j hj;have hj':j<x.servers.length:=by rw[<-q.1];exact hj
    obtain⟨ep,p1,p2,_⟩:=q.2 j _ (aq hj');rw[aq hj] at p1;exact⟨_,aq hj',ep,Option.some.inj p1,p2⟩
   have sv:=LP ok hv
   have fin:=QI ok hv S q.1 (λs hs=>by
     obtain⟨j,hj,rfl⟩:=aU hs;obtain⟨t,t1,ep,t2,_⟩:=at_ j hj;rw[t2];exact ok.1.2 t (aA t1))
    (λj hj=>by obtain⟨t,t1,ep,t2,t3⟩:=at_ j hj;have hj':j<x.servers.length:=C8 t1;have svj:=sv j hj';rw[aq hj'] at t1;rw[Option.some.inj t1] at svj;have okt:=ok.1.2 x.servers[j] (DJ hj');rw[Option.some.inj t1] at okt;rw[t2];have:=svj.ep;exact ab6 okt svj (by omega) (by omega) hml)
   refine⟨S,rfl,rfl,fin.1,fin.2,⟨rfl,rfl,λj s h=>by obtain⟨ep,p1,_⟩:=q.2 j s h;exact⟨ep,p1⟩⟩,TH q.1 λj ha hb=> ?_⟩
   obtain⟨t,t1,ep,t2,_⟩:=at_ j ha;rw[aq hb] at t1;rw[t2,<-Option.some.inj t1];rfl
end
section
abbrev z0:Int×Unit×Unit×Unit×Int×Int×Int×Int×Int×Unit×Unit:=(0,(),(),(),0,0,0,0,0,(),())
abbrev fy(x:qg):Int×Unit×Unit×Unit×Int×Int×Int×Int×Int×Unit×Unit:=(x.now,(),(),(),x.master.activated,x.masterUp,x.lease.epoch,x.lease.holder,x.lease.ends,(),())
theorem VX(x:qg)(S:List qj)(hS:S.length=5/\ ∀s∈S,EA 1048576 s)(n:nF)(hn:FX 1048576 n)(htn:SP n<=20)(l:List rk)(hl:l.length<=1048576)(m:List Int)(m3:m.length<=10)(m4: ∀y∈m,0<=y/\y<5): ∃T,((T.length=5/\ ∀s∈T,EA 1048576 s)/\Oa NP T<=Oa NP S+(m.length:Int)*1048600)/\
  Lb (((),(),(),(),(),(),0,()),(fx x,z0,fy x,(n.epoch,n.primary,(),(),()),()),(l,m,S,x.sides,x.master.configs,x.places,n.replicas,n.witnesses,()))=some (((),(),(),(),()),(fx x,z0,fy x,(n.epoch,n.primary,(),(),()),()),(T,x.sides,x.master.configs,x.places,n.replicas,n.witnesses,()))/\
  O9 (((),(),(),(),(),(m.length:Int),0,()),(z0,(n.epoch,n.primary,(),(),()),fy x,()),(l,m,n.replicas,n.witnesses,S,x.sides,x.master.configs,x.places,()))=some (((),(),(),()),(z0,(n.epoch,n.primary,(),(),()),fy x,()),(n.replicas,n.witnesses,T,x.sides,x.master.configs,x.places,())):=by
 have mm:m.length<=maxLen:=by unfold maxLen;omega
 refine MZ (B1:=G7) (B2:=IQ) m.length (λk (S:List qj)=>(((),(),(),(),(),(),(k:Int),()),(fx x,z0,fy x,(n.epoch,n.primary,(),(),()),()),(l,m,S,x.sides,x.master.configs,x.places,n.replicas,n.witnesses,()))) (λk S=>(((),(),(),(),(),(m.length:Int),(k:Int),()),(z0,(n.epoch,n.primary,(),(),()),fy x,()),(l,m,n.replicas,n.witnesses,S,x.sides,x.master.configs,x.places,()))) (λk S'=>(S'.length=5/\ ∀s∈S',EA 1048576 s)/\Oa NP S'<=Oa NP S+(k:Int)*1048600)
  (λT=>(((),(),(),(),()),(fx x,z0,fy x,(n.epoch,n.primary,(),(),()),()),(T,x.sides,x.master.configs,x.places,n.replicas,n.witnesses,()))) (λT=>(((),(),(),()),(z0,(n.epoch,n.primary,(),(),()),fy x,()),(n.replicas,n.witnesses,T,x.sides,x.master.configs,x.places,())))
  (λS _=> ?_) (λk S' hk hS'=> ?_) S ⟨hS,by omega⟩
 ·simp only[G7,IQ,C1];exact⟨if_neg (by omega),if_neg (by omega)⟩
 ·have c1: (k:Int)< (m.length:Int):=by omega
  have c2: (0:Int)<=(k:Int)/\(k:Int)< (m.length:Int):=by omega
  have hz:=m4 _ (DJ hk);generalize hzz:m[k] =z at hz;have hg:m[k]? =some z:=by rw[<-hzz];exact aq hk
  obtain⟨hS',hsum⟩:=hS';have hlt:z.toNat<S'.length:=by rw[hS'.1];omega
  have c3:0<=z/\z< (S'.length:Int):=by rw[hS'.1];omega
  have s1:S'[z.toNat]? =some S'[z.toNat] :=aq hlt;have s2:=hS'.2 _ (DJ hlt);generalize S'[z.toNat] =s at s1 s2;obtain⟨r,b,r1,r2,r3,r4,_⟩:=SU s n z l s2 hn hl;have zl:JB l=(l.length:Int):=rfl;simp only[G7,IQ,fx,fy,z0,C1,B3,if_pos c1,if_pos c2,DG,hg,ao,if_pos c3,s1,aP,ay,if_true,cE,DP,r1,r2,BI mm hk];refine⟨S'.set z.toNat r,rfl,rfl,⟨by simp[hS'.1],λt ht=> ?_⟩,by rw[XX s1];omega⟩;rcases cX ht with h|h
  ·exact hS'.2 t h
  ·rw[h];exact r3
theorem YZ(x:qg)(ok:Ez 1048576 x)(vc:VC x)(S:List qj)(ok':Ez 1048576 (GH x S))(vc':VC (GH x S))(se:W8 x (GH x S))(n:nF)(l:List rk)(m:List Int)(m3:m.length<=10)(m4: ∀y∈m,0<=y/\y<5):
  (Nc (((),(),(),(),(),(),0,()),(fx x,z0,fy x,(n.epoch,n.primary,(),(),()),()),(l,m,S,x.sides,x.master.configs,x.places,n.replicas,n.witnesses,()))=some (.inr (((),(),(),(),(),(),(),()),(fx x,z0,fy x,(n.epoch,n.primary,(),(),()),()),(l,m,S,x.sides,x.master.configs,x.places,n.replicas,n.witnesses,())))/\EU m (GH x S)=some (false,()))\/
  (Nc (((),(),(),(),(),(),0,()),(fx x,z0,fy x,(n.epoch,n.primary,(),(),()),()),(l,m,S,x.sides,x.master.configs,x.places,n.replicas,n.witnesses,()))=some (.inl (((),(),10,(),(),(),(),()),(fx x,fy x,fy x,(n.epoch,n.primary,(),(),()),()),(l,m,S,x.sides,x.master.configs,x.places,n.replicas,n.witnesses,())))/\EU m (GH x S)=some (true,())):=by
 have mm:m.length<=maxLen:=by unfold maxLen;omega
 have hsl:=IP (Ep ok.2.1) vc.sides;have hsl':=IP (Ep ok'.2.1) vc'.sides
 have fA:=CQ (B1:=GI) (B2:=EY) m.length (λk=>(((),(),(),(),(),(),(k:Int),()),(fx x,z0,fy x,(n.epoch,n.primary,(),(),()),()),(l,m,S,x.sides,x.master.configs,x.places,n.replicas,n.witnesses,()))) (λk=>((m,(GH x S,()),(m.length:Int),(k:Int),()),(),()))
  (.inr (((),(),(),(),(),(),(),()),(fx x,z0,fy x,(n.epoch,n.primary,(),(),()),()),(l,m,S,x.sides,x.master.configs,x.places,n.replicas,n.witnesses,()))) (.inr (((),()),(),()))
  (λ_=> .inl (((),(),10,(),(),(),(),()),(fx x,fy x,fy x,(n.epoch,n.primary,(),(),()),()),(l,m,S,x.sides,x.master.configs,x.places,n.replicas,n.witnesses,()))) (λk=> .inl (((k:Int),()),(),()))
  (λ_=>True) (λ_=>True)
  (by simp only[GI];rw[C1,if_neg (by omega)])
  (by simp only[EY];rw[C1,if_neg (by omega)])
  (λk hk=>by
    have c1: (k:Int)< (m.length:Int):=by omega
    have c2: (0:Int)<=(k:Int)/\(k:Int)< (m.length:Int):=by omega
    have hz:=m4 _ (DJ hk);generalize hzz:m[k] =z at hz;have hg:m[k]? =some z:=by rw[<-hzz];exact aq hk
    obtain⟨s,s1,s2,_⟩:=HY ok vc hz;obtain⟨e,e1⟩:=se.srv _ _ s1;have hside:z.toNat<x.sides.length:=by omega
    have d1:x.sides[z.toNat]? =some x.sides[z.toNat] :=aq hside
    have hu:Js z (GH x S)=some (!(s.up&&(x.sides[z.toNat] ==0)),()):=by have e1':S[z.toNat]? =some (Ho s e):=e1;unfold Js NT;simp only[B3,if_pos hz.1,e1',ao,d1];cases s.up<;>rfl
    simp only[GI,EY,fx,fy,z0,C1,Ef,B3,if_pos c1,if_pos c2,if_pos c2.1,DG,hg,ao,if_pos hz.1,s1,d1,hu,BI mm hk];cases s.up with
    |false=>exact .inr ⟨rfl,rfl,trivial⟩
    |true=>
     cases (x.sides[z.toNat] ==0) with
     |false=>exact .inr ⟨rfl,rfl,trivial⟩
     |true=>exact .inl ⟨rfl,rfl,trivial⟩)
 unfold EU FO;rcases fA with ⟨k1,k2,_⟩| ⟨k,_,k1,k2,_⟩
 ·refine .inl ⟨k1,?_⟩;rw[show Gt ((m,(GH x S,()),(m.length:Int),0,()),(),())=_ from k2];rfl
 ·refine .inr ⟨k1,?_⟩;rw[show Gt ((m,(GH x S,()),(m.length:Int),0,()),(),())=_ from k2];simp only[ao,DU];rw[decide_eq_true (by omega)]
theorem Wv(x:qg)(ok:Ez 1048576 x)(vc:VC x)(S:List qj)(se:W8 x (GH x S))(n:nF)(l:List rk)(m:List Int)(m3:m.length<=10)(m4: ∀y∈m,0<=y/\y<5){b:Bool}(hb:EX l=some (b,())):
  (IW (((),(),(),(),(),(),0,()),(fx x,z0,fy x,(n.epoch,n.primary,(),(),()),()),(l,m,S,x.sides,x.master.configs,x.places,n.replicas,n.witnesses,()))=some (.inr (((),(),(),(),(),(),(),()),(fx x,z0,fy x,(n.epoch,n.primary,(),(),()),()),(l,m,S,x.sides,x.master.configs,x.places,n.replicas,n.witnesses,())))/\(b=false\/EV m (GH x S)=some (false,())))\/
  (IW (((),(),(),(),(),(),0,()),(fx x,z0,fy x,(n.epoch,n.primary,(),(),()),()),(l,m,S,x.sides,x.master.configs,x.places,n.replicas,n.witnesses,()))=some (.inl (((),(),6,(),(),(),(),()),(fx x,fy x,fy x,(n.epoch,n.primary,(),(),()),()),(l,m,S,x.sides,x.master.configs,x.places,n.replicas,n.witnesses,())))/\b=true/\EV m (GH x S)=some (true,())):=by
 have mm:m.length<=maxLen:=by unfold maxLen;omega
 have common: ∀k,(hk:k<m.length)-> ∃s:qj,FF (((),(),(),(),(),(),(k:Int),()),(fx x,z0,fy x,(n.epoch,n.primary,(),(),()),()),(l,m,S,x.sides,x.master.configs,x.places,n.replicas,n.witnesses,()))=(if (s.version==1&&b)=true then some (.inr (.inl (((),(),6,(),(),(),(),()),(fx x,fy x,fy x,(n.epoch,n.primary,(),(),()),()),(l,m,S,x.sides,x.master.configs,x.places,n.replicas,n.witnesses,())))) else some (.inl (((),(),(),(),(),(),((k+1:Nat):Int),()),(fx x,z0,fy x,(n.epoch,n.primary,(),(),()),()),(l,m,S,x.sides,x.master.configs,x.places,n.replicas,n.witnesses,()))))/\
   EF ((m,(GH x S,()),(m.length:Int),(k:Int),()),(),())=(if (s.version==1)=true then some (.inr (.inl (((k:Int),()),(),()))) else some (.inl ((m,(GH x S,()),(m.length:Int),((k+1:Nat):Int),()),(),()))):=by
  intro k hk;have c1: (k:Int)< (m.length:Int):=by omega
  have c2: (0:Int)<=(k:Int)/\(k:Int)< (m.length:Int):=by omega
  have hz:=m4 _ (DJ hk);generalize hzz:m[k] =z at hz;have hg:m[k]? =some z:=by rw[<-hzz];exact aq hk
  obtain⟨s,s1,s2,_⟩:=HY ok vc hz;obtain⟨e,e1⟩:=se.srv _ _ s1;have e1':S[z.toNat]? =some (Ho s e):=e1;refine⟨s,?_,?_⟩
  ·simp only[FF,fx,fy,z0,C1,B3,if_pos c1,if_pos c2,DG,hg,ao,if_pos hz.1,s1,hb,BI mm hk];cases (s.version==1)<;>cases b<;>rfl
  ·simp only[EF,K5,C1,B3,if_pos c1,if_pos c2.1,DG,hg,ao,if_pos hz.1,e1',BI mm hk];cases (s.version==1)<;>rfl
 cases b with
 |false=>
  have fA:=B8 (B:=FF) m (λk (_:Unit)=>(((),(),(),(),(),(),(k:Int),()),(fx x,z0,fy x,(n.epoch,n.primary,(),(),()),()),(l,m,S,x.sides,x.master.configs,x.places,n.replicas,n.witnesses,()))) (λ_ _=>True) (λ_ _ _=> .inr (((),(),(),(),(),(),(),()),(fx x,z0,fy x,(n.epoch,n.primary,(),(),()),()),(l,m,S,x.sides,x.master.configs,x.places,n.replicas,n.witnesses,())))
   (λ_ _=>by simp only[FF];rw[C1,if_neg (by omega)])
   (λk _ z hz _=>by obtain⟨s,h1,_⟩:=common k (C8 hz);exact .inl ⟨(),by rw[h1];simp,trivial,rfl⟩)
   0 () (bM _) trivial
  exact .inl ⟨fA,.inl rfl⟩
 |true=>
  have fA:=CQ (B1:=FF) (B2:=EF) m.length (λk=>(((),(),(),(),(),(),(k:Int),()),(fx x,z0,fy x,(n.epoch,n.primary,(),(),()),()),(l,m,S,x.sides,x.master.configs,x.places,n.replicas,n.witnesses,()))) (λk=>((m,(GH x S,()),(m.length:Int),(k:Int),()),(),()))
   (.inr (((),(),(),(),(),(),(),()),(fx x,z0,fy x,(n.epoch,n.primary,(),(),()),()),(l,m,S,x.sides,x.master.configs,x.places,n.replicas,n.witnesses,()))) (.inr (((),()),(),()))
   (λ_=> .inl (((),(),6,(),(),(),(),()),(fx x,fy x,fy x,(n.epoch,n.primary,(),(),()),()),(l,m,S,x.sides,x.master.configs,x.places,n.replicas,n.witnesses,()))) (λk=> .inl (((k:Int),()),(),()))
   (λ_=>True) (λ_=>True)
   (by simp only[FF];rw[C1,if_neg (by omega)])
   (by simp only[EF];rw[C1,if_neg (by omega)])
   (λk hk=>by
     obtain⟨s,h1,h2⟩:=common k hk;rw[h1,h2];cases (s.version==1) with
     |true=>exact .inr ⟨rfl,rfl,trivial⟩
     |false=>exact .inl ⟨rfl,rfl,trivial⟩)
  unfold EV FP;rcases fA with ⟨k1,k2,_⟩| ⟨k,_,k1,k2,_⟩
  ·refine .inl ⟨k1,.inr ?_⟩;rw[show Gu ((m,(GH x S,()),(m.length:Int),0,()),(),())=_ from k2];rfl
  ·refine .inr ⟨k1,rfl,?_⟩;rw[show Gu ((m,(GH x S,()),(m.length:Int),0,()),(),())=_ from k2];simp only[ao,DU];rw[decide_eq_true (by omega)]
end
section
theorem NQ.filter{l:List Int}(h:NQ l)(p:Int->Bool):NQ (l.filter p):=by refine TX (h.pair.filter p) λy hy=> ?_;obtain⟨k,hk,rfl⟩:=aU (D6.1 hy).1;have:=(h k hk).1;omega
theorem WE:NQ [0,1,2,3,4] :=by refine TX (by simp[SS]) λy hy=> ?_;simp at hy;omega
end
section
theorem XL(x:qg)(ok:Ez 1048576 x): ∃y n,Ga x=some (y,n,())/\Md x=some (y,n,())/\Ez 1048576 y/\Y8 y<=Y8 x+10486010:=by
 obtain⟨v,v1,v2⟩:=Fp x ok;obtain⟨c,d,c1,c2,c3⟩:=Mc x.master (x.master.configs.length:Int) ok.2.2.1
 have d1:Ge x.master=some (c,d,()):=by unfold Ge;rw[c1];rfl
 have d2:J7 x.master=some (c,d,()):=by unfold J7;rw[c2];rfl
 obtain⟨q,q1,q2⟩:=MY x.lease x.now;unfold Ga Md K9;simp only[(EL x ok).1,(EL x ok).2,d1,d2,v1,v2,q1,q2,ao,Ef];have dn: ∀n:Int,∃y k,some (x,n,())=some (y,k,())/\some (x,n,())=some (y,k,())/\Ez 1048576 y/\Y8 y<=Y8 x+10486010:=λn=>⟨x,n,rfl,rfl,ok,by omega⟩
 cases v with
 |false=>exact dn 1
 |true=>
  cases d with
  |false=>exact dn 1
  |true=>
   have vc:=Es ok v1;obtain⟨_,f2,f3⟩:=I2 (Fh ok.2.2.1) vc.ml
   have hval:Ek c=some (true,())/\c.epoch=(x.master.configs.length:Int):=by obtain⟨c',b',e1,_,_,_,e5,_⟩:=H6 x.master (x.master.configs.length:Int) ok.2.2.1 vc.ml;rw[c1] at e1;simp only[af,au,and_true] at e1;obtain⟨rfl,rfl⟩:=e1;exact e5 rfl
   obtain⟨a1,a2,hpr,_⟩:=Fm c3 hval.1;have hok:FX 1048576 c:=⟨by have:=a1.len;omega,by have:=a2.len;omega⟩
   have hp:0<=c.primary/\c.primary<5:=by obtain⟨k,hk,e⟩:=aU hpr;have:=(a1 k hk).1;omega
   obtain⟨s,s1,s2,_⟩:=HY ok vc hp;have hup:=vc.up;have hsl:=IP (Ep ok.2.1) vc.sides;have hside:c.primary.toNat<x.sides.length:=by omega
   have g1:x.sides[c.primary.toNat]? =some x.sides[c.primary.toNat] :=aq hside;have w1:IntKind.wrap .i64 (x.masterUp*2)=x.masterUp*2:=vN (by omega) (by omega);have w2:IntKind.wrap .i64 (2*x.masterUp)=x.masterUp*2:=by rw[vN (by omega) (by omega),Int.mul_comm]
   simp only[CJ,C1,G4,w1,w2,hval.2];by_cases h1: (x.master.configs.length:Int)=x.master.activated
   ·simp only[if_pos h1,if_pos (show (x.master.configs.length:Int)<=x.master.activated by omega)];exact dn 1
   ·simp only[if_neg h1,if_neg (show ¬ (x.master.configs.length:Int)<=x.master.activated by omega)];by_cases h2:x.masterUp*2<=3
    ·simp only[if_pos h2,if_neg (show ¬x.masterUp*2>3 by omega)];exact dn 8
    ·simp only[if_neg h2,if_pos (show x.masterUp*2>3 by omega),CJ,BK,B3,if_pos hp.1,s1,g1,ao];cases s.up with
     |false=>exact dn 2
     |true=>
      simp only[CJ];by_cases h3:x.sides[c.primary.toNat] =0
      case neg=>simp only[if_neg h3];exact dn 10
      simp only[if_pos h3];cases q with
      |false=>exact dn 7
      |true=>
       simp only[CJ];obtain⟨S,t1,t2,ok',hv',se,sS⟩:=Q4 x ok v1 (id:=c.primary) (e:=(x.master.configs.length:Int)) hp;have vc':=Es ok' hv';obtain⟨l,b,l1,l2,l3⟩:=TU ok ok' v1 hv' se hp;obtain⟨m,m1,m2,m3,m4,_⟩:=Hi c c3;obtain⟨nf,n1,n2⟩:=YC l (Ep l3);have okS:S.length=5/\ ∀s∈S,EA 1048576 s:=⟨vc'.len,ok'.1.2⟩
       have htc:SP c<=20:=by have:=a1.len;have:=a2.len;unfold SP JB;omega
       obtain⟨T,⟨t3,t4⟩,i1,i2⟩:=VX x S okS c hok htc l l3 m m3 m4
       have zS:JB S=JB x.servers:=by unfold JB;rw[okS.1,vc.len]
       have zT:JB T=JB x.servers:=by unfold JB;rw[t3.1,vc.len]
       obtain⟨r,rb,r1,r2,r3,r4,_⟩:=RG x.master (x.master.configs.length:Int) ok.2.2.1;have un:=YZ x ok vc S ok' vc' se c l m m3 m4;have ov:=Wv x ok vc S se c l m m3 m4 n1;simp only[fx,fy,z0,hval.2] at i1 i2 un ov
       have fin: ∀n:Int,∃y k,some (GH x S,n,())=some (y,k,())/\some (GH x S,n,())=some (y,k,())/\Ez 1048576 y/\Y8 y<=Y8 x+10486010:=λn=>⟨GH x S,n,rfl,rfl,ok',by unfold Y8 tSs;show JB S+Oa NP S+JB x.sides+tMl x.master+JB x.places<=_;omega⟩
       have last:Ez 1048576 ⟨x.now,T,x.sides,r,x.masterUp,⟨0,0,0⟩,x.places⟩/\Y8 ⟨x.now,T,x.sides,r,x.masterUp,⟨0,0,0⟩,x.places⟩<=Y8 x+10486010:=⟨⟨⟨by show T.length<=_;omega,t3.2⟩,ok.2.1,r3,ok.2.2.2⟩,by unfold Y8 tSs;show JB T+Oa NP T+JB x.sides+tMl r+JB x.places<=_;omega⟩
       simp only[t1,t2,l1,l2,ao];cases b with
       |false=>exact fin 9
       |true=>
        simp only[CJ,m1,m2,ao];rcases un with ⟨u1,u2⟩| ⟨u1,u2⟩
        ·simp only[u1,u2,n2,ao,DZ,BK];rcases ov with ⟨o1,o2⟩| ⟨o1,rfl,o2⟩
         ·simp only[o1,ao,DZ,i1,i2,show (⟨x.master.configs,x.master.activated⟩:jY)=x.master from rfl,r1,r2];rcases o2 with rfl|o2
          ·exact⟨_,_,rfl,rfl,last⟩
          ·simp only[o2,ao,BK];cases nf<;>exact⟨_,_,rfl,rfl,last⟩
         ·simp only[o1,o2,ao,DU,CJ];exact fin 6
        ·simp only[u1,u2,ao,DU,CJ];exact fin 10
theorem VV(l:uL)(e h n t:Int): ∃r b,Iw l e h n t=some (r,b,())/\PP l e h n t=some (r,b,()):=by obtain⟨b,h1,h2⟩:=MW l;obtain⟨q,q1,q2⟩:=MY l n;unfold Iw PP;simp only[h1,h2,q1,q2,EM,Jo,ao];cases (l.epoch==e)<;>cases b<;>cases GG e 1 20<;>cases GG h 0 4<;>cases GG n 0 999<;>cases GG t 1 50<;>cases (l.holder==h)<;>cases q<;>exact⟨_,_,rfl,rfl⟩
end
section
theorem XG(m:nq)(c:Int)(hs:m.sessions.length<=1000): ∃s b,G8 m c=some (s,b,())/\QJ m c=some (s,b,())/\(b=true-> ∃x∈m.sessions,x.client=c):=by
 have ms:m.sessions.length<=maxLen:=by unfold maxLen;omega
 have fA:=CQ (B1:=F3) (B2:=KZ) m.sessions.length (λk=>((c,(),(),(k:Int),()),((m.objects,m.sessions,()),(0,0,false,0,()),()),())) (λk=>((c,(),m.sessions,(m.sessions.length:Int),(k:Int),()),((0,0,false,0,()),()),())) (.inr (((),(),()),((0,0,false,0,()),()),())) (.inr (((),(),()),((0,0,false,0,()),()),()))
  (λk=>match m.sessions[k]? with |some x=> .inl (((),true,()),((x.client,x.seq,x.result.done,x.result.value,()),()),())|none=> .inr (((),(),()),((0,0,false,0,()),()),())) (λk=>match m.sessions[k]? with |some x=> .inl (((),true,()),((x.client,x.seq,x.result.done,x.result.value,()),()),())|none=> .inr (((),(),()),((0,0,false,0,()),()),()))
  (λ_=>True) (λk=> ∃h:k<m.sessions.length,m.sessions[k].client=c)
  (by simp only[F3];rw[C1,if_neg (by omega)])
  (by simp only[KZ];rw[C1,if_neg (by omega)])
  (λk hk=>by
    have c1: (k:Int)< (m.sessions.length:Int):=by omega
    have c2: (0:Int)<=(k:Int):=by omega
    simp only[F3,KZ,C1,G4,B3,if_pos c1,if_pos c2,DG,aq hk,ao,BI ms hk];by_cases h:m.sessions[k].client=c
    ·simp only[if_pos h];exact .inr ⟨trivial,trivial,hk,h⟩
    ·simp only[if_neg h];exact .inl ⟨trivial,trivial,trivial⟩)
 unfold G8 QJ;rcases fA with ⟨k1,k2,_⟩| ⟨k,hk,k1,k2,_,h⟩
 ·rw[show Lc ((c,(),(),0,()),((m.objects,m.sessions,()),(0,0,false,0,()),()),())=_ from k1,show Nb ((c,(),m.sessions,(m.sessions.length:Int),0,()),((0,0,false,0,()),()),())=_ from k2];exact⟨_,false,rfl,rfl,λh=>by cases h⟩
 ·rw[aq hk] at k1 k2;rw[show Lc ((c,(),(),0,()),((m.objects,m.sessions,()),(0,0,false,0,()),()),())=_ from k1,show Nb ((c,(),m.sessions,(m.sessions.length:Int),0,()),((0,0,false,0,()),()),())=_ from k2];exact⟨_,true,rfl,rfl,λ_=>⟨_,DJ hk,h⟩⟩
def MP:List nr->Int->Nat
 | [],_=>0
 |x::l,c=>if x.client<c then MP l c+1 else 0
theorem YH{x:nr}{l:List nr}{c:Int}(h:x.client<c):MP (x::l) c=MP l c+1:=by rw[MP,if_pos h]
theorem YG{x:nr}{l:List nr}{c:Int}(h: ¬x.client<c):MP (x::l) c=0:=by rw[MP,if_neg h]
theorem ZC(l:List nr)(c:Int):MP l c<=l.length:=by
 induction l with
 |nil=>exact ay _
 |cons x l ih=>
  unfold MP;split
  ·simp only[bD];omega
  ·exact bM _
theorem ZD{l:List nr}{c:Int}(h: ∃x∈l,x.client=c):MP l c<l.length:=by
 induction l with
 |nil=>obtain⟨x,hx,_⟩:=h;cases hx
 |cons y l ih=>
  unfold MP;split
  ·rename_i hy;obtain⟨x,hx,hc⟩:=h;rcases aZ.1 hx with rfl|hx
   ·omega
   ·have:=ih ⟨x,hx,hc⟩;simp only[bD];omega
  ·simp
theorem ab5(b d:Bool)(v:Int)(o:Op)(objs:List Int)(l:List nr)(hl:l.length<=1000):L6 (((),(),(),(),b,(),0,()),((o.client,o.seq,o.kind,o.object,o.old,o.value,()),((),(),()),(false,0,()),((),(),()),(d,v,()),()),objs,l,())=
  some (((),(),(),(),b,(),((MP l o.client:Nat):Int),()),((o.client,o.seq,o.kind,o.object,o.old,o.value,()),((),(),()),(false,0,()),((),(),()),(d,v,()),()),objs,l,()):=by
 have ml:l.length<=maxLen:=by unfold maxLen;omega
 have fA:=B8 (B:=Jh) l (λk (_:Unit)=>(((),(),(),(),b,(),(k:Int),()),((o.client,o.seq,o.kind,o.object,o.old,o.value,()),((),(),()),(false,0,()),((),(),()),(d,v,()),()),objs,l,())) (λ_ _=>True)
  (λk r _=>(((),(),(),(),b,(),((k+MP r o.client:Nat):Int),()),((o.client,o.seq,o.kind,o.object,o.old,o.value,()),((),(),()),(false,0,()),((),(),()),(d,v,()),()),objs,l,()))
  (λ_ _=>by simp only[Jh];rw[C1,if_neg (by omega)];rfl)
  (λk _ x hx _=>by
    have hk:=C8 hx;have c1: (k:Int)< (l.length:Int):=by omega
    have c2: (0:Int)<=(k:Int)/\(k:Int)< (l.length:Int):=by omega
    simp only[Jh,C1,B3,if_pos c1,if_pos c2,DG,hx,ao,BI ml hk];by_cases h:x.client<o.client
    ·rw[if_pos h];refine .inl ⟨(),rfl,trivial,?_⟩;rw[MP,if_pos h,show k+(MP (l.drop (k+1)) o.client+1)=k+1+MP (l.drop (k+1)) o.client by omega]
    ·rw[if_neg h];refine .inr ?_;rw[MP,if_neg h];rfl) 0 () (bM _) trivial
 simp only[aP,cE] at fA;exact fA
def UI(had:Bool)(l:List nr)(s:nr):List nr:=l.take (MP l s.client)++s::l.drop (bif had then MP l s.client+1 else MP l s.client)
theorem WY{o:Op}(h:EN o=some (true,())):0<=o.object/\o.object<=2:=by
 unfold EN at h;simp only[EM,ao] at h;cases h1:GG o.client 0 2 with
 |false=>rw[h1] at h;cases h
 |true=>
  cases h2:GG o.seq 1 99 with
  |false=>rw[h1,h2] at h;cases h
  |true=>
   cases h3:GG o.object 0 2 with
   |false=>rw[h1,h2,h3] at h;cases h
   |true=>exact Eg.1 h3
def App(m:nq)(o:Op)(m':nq):Prop:=m'=m\/ ∃had s x d,G8 m o.client=some (s,had,())/\x∈m.objects/\m'.sessions=UI had m.sessions ⟨o.client,o.seq,⟨d,x⟩⟩/\(m'.objects=m.objects\/m'.objects=m.objects.set o.object.toNat o.value)
def Y7(o:Op):Bool:=match EN o with |some (b,_)=>b|none=>false
theorem Nl(o:Op):EN o=some (Y7 o,()):=by obtain⟨b,h,_⟩:=W7 o;unfold Y7;rw[h]
def R9(l:List rk)(k:Nat):Bool:=match l[k]? with
 |some e=>GG e.epoch 1 20&&(Y7 e.op&&(decide (k=0)||match l[k-1]? with |some d=> !decide (d.epoch>e.epoch)|none=>false))
 |none=>false
theorem Xv{l:List rk}{n k:Nat}(hk:k<n):R9 (l.take n) k=R9 l k:=by unfold R9;rw[bk,if_pos hk,bk,if_pos (by omega)]
theorem Jw(l:List rk)(hl:l.length<=maxLen):ET l=some (true,())↔l.length<=16/\ ∀k,k<l.length->R9 l k=true:=by
 have fA:=Ko (B:=Ji) l.length (λk=>((l,(k:Int),()),(),())) (.inr ((l,(),()),(),())) (λ_=> .inl ((l,false,()),(),())) (λk=> !R9 l k)
  (by simp only[Ji];rw[C1,if_neg (by omega)])
  (λk hk=>by
    have c1: (k:Int)< (l.length:Int):=by omega
    have c2: (0:Int)<=(k:Int):=by omega
    simp only[Ji,C1,B3,if_pos c1,if_pos c2,DG,aq hk,ao,Nl,EM,BI hl hk,Ef,R9];cases GG l[k].epoch 1 20 with
    |false=>rfl
    |true=>
     cases Y7 l[k].op with
     |false=>rfl
     |true=>
      by_cases h0:0<k
      ·have c3: (k:Int)>0:=by omega
       have c4: (0:Int)<=((k-1:Nat):Int):=by omega
       have c5: ¬k=0:=by omega
       have e2:l[k-1]? =some l[k-1] :=aq (by omega);simp only[CJ,if_pos c3,BH h0 (by omega),if_pos c4,DG,e2,ao,decide_eq_false c5,dz,b7,Bool.not_not];by_cases hlt:l[k-1].epoch>l[k].epoch
       ·rw[if_pos hlt,decide_eq_true hlt];rfl
       ·rw[if_neg hlt,decide_eq_false hlt];rfl
      ·have c3: ¬ (k:Int)>0:=by omega
       have c5:k=0:=by omega
       simp only[CJ,if_neg c3,decide_eq_true c5];rfl)
 unfold ET;rcases fA with ⟨k1,k2⟩| ⟨k,h0,k1,k2,_⟩
 ·rw[show NA ((l,0,()),(),())=_ from k1];simp only[ao,DZ,af,au,and_true,decide_eq_true_eq];constructor
  ·intro h;exact⟨by omega,λk hk=>by simpa using k2 k hk⟩
  ·intro h;omega
 ·rw[show NA ((l,0,()),(),())=_ from k1];simp only[ao,DU,af,au,and_true];constructor
  ·intro h;cases h
  ·rintro⟨_,h⟩
   have:=h k h0;rw[this] at k2;cases k2
theorem RM{l:List rk}(hl:l.length<=maxLen)(h:ET l=some (true,()))(n:Nat):ET (l.take n)=some (true,()):=by
 have hn: (l.take n).length<=l.length:=by rw[cP];omega
 obtain⟨h1,h2⟩:=(Jw l hl).1 h;refine (Jw _ (by omega)).2 ⟨by omega,λk hk=> ?_⟩;rw[Xv (by rw[cP] at hk;omega)];exact h2 k (by omega)
structure VM (m:nq):Prop where
 vlen:m.objects.length=3
 vobj: ∀v∈m.objects,GG v 0 9=true
 vses: ∀x∈m.sessions,GG x.client 0 2=true/\GG x.seq 1 99=true/\GG x.result.value 0 9=true
 vasc:m.sessions.Pairwise λx y=>x.client<y.client
theorem VM.valid{m:nq}(h:VM m)(hs:m.sessions.length<=1000):F2 m=some (true,()):=by
 have mo:m.objects.length<=maxLen:=by rw[h.vlen];unfold maxLen;omega
 have ms:m.sessions.length<=maxLen:=by unfold maxLen;omega
 have k1:=Ko (B:=FY) m.objects.length (λk=>(((),(k:Int),()),((m.objects,m.sessions,()),()),())) (.inr (((),(),()),((m.objects,m.sessions,()),()),())) (λ_=> .inl (((),false,()),((m.objects,m.sessions,()),()),())) (λ_=>false)
  (by simp only[FY];rw[C1,if_neg (by omega)])
  (λk hk=>by
    have c1: (k:Int)< (m.objects.length:Int):=by omega
    have c2: (0:Int)<=(k:Int):=by omega
    simp only[FY,C1,B3,if_pos c1,if_pos c2,DG,aq hk,ao,EM,h.vobj _ (DJ hk),BI mo hk];rfl)
 have k2:=Ko (B:=FZ) m.sessions.length (λk=>(((),(k:Int),()),((m.objects,m.sessions,()),()),())) (.inr (((),(),()),((m.objects,m.sessions,()),()),())) (λ_=> .inl (((),false,()),((m.objects,m.sessions,()),()),())) (λ_=>false)
  (by simp only[FZ];rw[C1,if_neg (by omega)])
  (λk hk=>by
    have c1: (k:Int)< (m.sessions.length:Int):=by omega
    have c2: (0:Int)<=(k:Int):=by omega
    obtain⟨h1,h2,h3⟩:=h.vses _ (DJ hk);simp only[FZ,C1,B3,if_pos c1,if_pos c2,DG,aq hk,ao,EM,h1,h2,h3,df,BK,BI ms hk];by_cases h0:0<k
    ·have c3: (k:Int)>0:=by omega
     have c4: (0:Int)<=((k-1:Nat):Int):=by omega
     have e1:m.sessions[k-1]? =some (m.sessions[k-1]'(by omega)):=aq (by omega);have:=DQ.1 h.vasc (k-1) k (by omega) hk (by omega);have c5: ¬ (m.sessions[k-1]'(by omega)).client≥m.sessions[k].client:=by omega
     simp only[if_pos c3,BH h0 (by unfold maxLen at ms ⊢;omega),if_pos c4,DG,e1,ao,if_neg c5];rfl
    ·have c3: ¬ (k:Int)>0:=by omega
     simp only[if_neg c3];rfl)
 unfold F2;rcases k1 with ⟨g1,_⟩| ⟨k,_,_,hf,_⟩
 ·rcases k2 with ⟨g2,_⟩| ⟨k,_,_,hf,_⟩
  ·rw[show Mv (((),0,()),((m.objects,m.sessions,()),()),())=_ from g1];simp only[ao,DZ,show JQ (((),0,()),((m.objects,m.sessions,()),()),())=_ from g2,h.vlen];rfl
  ·cases hf
 ·cases hf
theorem WB{m:nq}{c:Int}{s:nr}{b:Bool}(hs:m.sessions.length<=1000)(h:G8 m c=some (s,b,()))(hb:b=false): ∀x∈m.sessions,x.client≠c:=by
 have ms:m.sessions.length<=maxLen:=by unfold maxLen;omega
 have fA:=Ko (B:=F3) m.sessions.length (λk=>((c,(),(),(k:Int),()),((m.objects,m.sessions,()),(0,0,false,0,()),()),())) (.inr (((),(),()),((0,0,false,0,()),()),()))
  (λk=>match m.sessions[k]? with |some x=> .inl (((),true,()),((x.client,x.seq,x.result.done,x.result.value,()),()),())|none=> .inr (((),(),()),((0,0,false,0,()),()),())) (λk=>match m.sessions[k]? with |some x=>x.client==c|none=>false)
  (by simp only[F3];rw[C1,if_neg (by omega)])
  (λk hk=>by
    have c1: (k:Int)< (m.sessions.length:Int):=by omega
    have c2: (0:Int)<=(k:Int):=by omega
    simp only[F3,C1,B3,if_pos c1,if_pos c2,DG,aq hk,ao,BI ms hk];cases (m.sessions[k].client==c)<;>rfl)
 unfold G8 at h;rcases fA with ⟨_,k2⟩| ⟨k,hk,k1,_,_⟩
 ·intro x hx e;obtain⟨k,hk,rfl⟩:=aU hx
  have h3: (m.sessions[k].client==c)=false:=by
   have:=k2 k hk
   rwa [aq hk] at this
  rw[e] at h3;simp at h3
 ·rw[aq hk] at k1;rw[show Lc ((c,(),(),0,()),((m.objects,m.sessions,()),(0,0,false,0,()),()),())=_ from k1] at h;simp only[ao,DU,af,au] at h;rw[<-h.2.1] at hb;cases hb
theorem Vy{had:Bool}{l:List nr}{s y:nr}(h:y∈UI had l s):y=s\/y∈l:=by
 unfold UI at h;rcases bC.1 h with h|h
 ·exact .inr (bS h)
 ·rcases aZ.1 h with h|h
  ·exact .inl h
  ·exact .inr (bE h)
theorem Vx(had:Bool)(s:nr): ∀l:List nr,l.Pairwise (λx y=>x.client<y.client)->(had=true-> ∃x∈l,x.client=s.client)->(had=false-> ∀x∈l,x.client≠s.client)->(UI had l s).Pairwise λx y=>x.client<y.client
 | [],_,h1,_=>by
   cases had with
   |true=>obtain⟨x,hx,_⟩:=h1 rfl;cases hx
   |false=>exact D5 _ _
 |x::l,h,h1,h2=>by
  obtain⟨hx,hl⟩:=DS.1 h;by_cases hc:x.client<s.client
  ·have e:UI had (x::l) s=x::UI had l s:=by
    unfold UI;rw[YH hc];cases had<;>rfl
   rw[e];refine DS.2 ⟨λy hy=> ?_,Vx had s l hl (λhh=> ?_) (λhh y hy=>h2 hh y (aI _ hy))⟩
   ·rcases Vy hy with rfl|hy
    ·exact hc
    ·exact hx y hy
   ·obtain⟨y,hy,e⟩:=h1 hh;rcases aZ.1 hy with rfl|hy
    ·omega
    ·exact⟨y,hy,e⟩
  ·have e:UI had (x::l) s=s:: (x::l).drop (bif had then 1 else 0):=by
    unfold UI;rw[YG hc];cases had<;>rfl
   rw[e];cases had with
   |true=>
    refine DS.2 ⟨λy hy=> ?_,hl⟩;have:=hx y hy;obtain⟨z,hz,e⟩:=h1 rfl;rcases aZ.1 hz with rfl|hz
    ·omega
    ·have:=hx z hz;omega
   |false=>
    refine DS.2 ⟨λy hy=> ?_,h⟩;have h0:=h2 rfl;rcases aZ.1 hy with rfl|hy
    ·have:=h0 y aK;omega
    ·have:=hx y hy;have:=h0 x aK;omega
theorem YD{o:Op}(h:Y7 o=true):GG o.client 0 2=true/\GG o.seq 1 99=true/\GG o.value 0 9=true:=by
 have h0:EN o=some (true,()):=by rw[Nl,h]
 unfold EN at h0;simp only[EM,ao] at h0;cases h1:GG o.client 0 2 with
 |false=>rw[h1] at h0;cases h0
 |true=>
  cases h2:GG o.seq 1 99 with
  |false=>rw[h1,h2] at h0;cases h0
  |true=>
   cases h3:GG o.object 0 2 with
   |false=>rw[h1,h2,h3] at h0;cases h0
   |true=>
    cases h4:GG o.value 0 9 with
    |false=>rw[h1,h2,h3,h4] at h0;cases h0
    |true=>exact⟨rfl,rfl,rfl⟩
theorem VM.app{m m':nq}{o:Op}(h:VM m)(hs:m.sessions.length<=900)(ho:Y7 o=true)(ha:App m o m'):VM m':=by
 rcases ha with rfl| ⟨had,s,x,d,h1,h2,h3,h4⟩
 ·exact h
 ·obtain⟨w1,w2,w3⟩:=YD ho;obtain⟨s',b',t1,_,t3⟩:=XG m o.client (by omega);rw[h1] at t1
  have hb:had=b':=by have:=Option.some.inj t1;simp only[au] at this;exact this.2.1
  refine⟨?_,λv hv=> ?_,λy hy=> ?_,?_⟩
  ·rcases h4 with e|e
   ·rw[e];exact h.vlen
   ·rw[e,DL];exact h.vlen
  ·rcases h4 with e|e
   ·rw[e] at hv;exact h.vobj v hv
   ·rw[e] at hv;rcases cX hv with hv|rfl
    ·exact h.vobj v hv
    ·exact w3
  ·rw[h3] at hy;rcases Vy hy with rfl|hy
   ·exact⟨w1,w2,h.vobj x h2⟩
   ·exact h.vses y hy
  ·rw[h3];exact Vx had _ _ h.vasc (λhh=>t3 (hb ▸ hh)) (λhh=>WB (by omega) h1 hh)
end
section
theorem KW(x:qg)(ok:Ez 1048576 x)(id:Int): ∃b,GL x id=some (b,())/\K8 x id=some (b,())/\(b=true->Ee x=some (true,())/\0<=id/\id<5/\ ∀s,x.servers[id.toNat]? =some s->Ew s id=some (true,())):=by
 obtain⟨v,v1,v2⟩:=Fp x ok;cases v with
 |false=>
  refine⟨false,?_,?_,nofun⟩
  ·unfold GL;simp only[v1,ao,BK]
  ·unfold K8 Fd;simp only[v2,ao,BK]
 |true=>
  cases hw:GG id 0 4 with
  |false=>
   refine⟨false,?_,?_,nofun⟩
   ·unfold GL;simp only[v1,EM,hw,ao,CJ,BK]
   ·unfold K8 Fd;simp only[v2,Jo,hw,ao,CJ,BK]
  |true=>
   have hid:=Eg.1 hw;obtain⟨s,s1,s2,s3⟩:=HY ok (Es ok v1) (a:=id) (by omega);obtain⟨b,b1,b2⟩:=MQ s id s2;refine⟨b,?_,?_,λhb=>⟨v1,hid.1,by omega,λs' hs=> ?_⟩⟩
   ·unfold GL;simp only[v1,EM,hw,ao,CJ,B3,if_pos hid.1,s1,b1]
   ·unfold K8 Fd;simp only[v2,Jo,hw,ao,CJ,B3,if_pos hid.1,s1,b2]
   ·rw[s1] at hs;obtain rfl:=Option.some.inj hs;rw[b1,hb]
theorem abO{c:nF}{id:Int}(h:FX maxLen c)(hr:EP c id=some (1,())):Ek c=some (true,())/\id=c.primary:=by
 obtain⟨v,v1,v2⟩:=GP c h;unfold EP at hr;simp only[v1,ao,(EG c.replicas id h.1).1,(EG c.witnesses id h.2).1,Ef,G4] at hr;cases v with
 |false=>simp only[BK] at hr;simp at hr
 |true=>
  refine⟨v1,?_⟩;by_cases he:id=c.primary
  ·exact he
  ·simp only[CJ,if_neg he] at hr;cases h1:decide (id∈c.replicas)<;>cases h2:decide (id∈c.witnesses)<;>rw[h1,h2] at hr<;>simp[CJ,BK] at hr
theorem HK{s:qj}{id:Int}(ok:EA 1048576 s)(h:Ew s id=some (true,())):Ek s.config=some (true,())/\id=s.config.primary:=by
 obtain⟨v,v1,v2⟩:=J3 s id ok;obtain⟨n,n1,n2,_⟩:=KX s.config id (Ei ok.1);unfold Ew at h;simp only[v1,n1,ao,G4] at h;cases v with
 |false=>simp[BK] at h
 |true=>
  cases hu:s.up with
  |false=>rw[hu] at h;simp[CJ,BK] at h
  |true=>
   rw[hu] at h;simp only[CJ] at h;by_cases hn:n=1
   ·subst hn;exact abO (Ei ok.1) n1
   ·rw[if_neg hn] at h;simp at h
theorem Nm(c:nF)(y:Int)(h:FX maxLen c)(hv:Ek c=some (true,())): ∃n,EP c y=some (n,())/\J8 c y=some (n,())/\(n=0↔ ¬ (y∈c.replicas\/y∈c.witnesses))/\(n=3->y≠c.primary):=by
 obtain⟨v,v1,v2⟩:=GP c h;rw[hv] at v1;simp only[af,au,and_true] at v1;subst v1;have hp:=(Fm h hv).2.2.1;unfold EP J8;simp only[hv,v2,ao,(EG c.replicas y h.1).1,(EG c.replicas y h.1).2,(EG c.witnesses y h.2).1,(EG c.witnesses y h.2).2,Ef,G4,CJ,C1];by_cases he:y=c.primary
 ·simp only[if_pos he];exact⟨1,rfl,rfl,⟨λh=>(by cases h),λh=>absurd (.inl (he ▸ hp)) h⟩,λh=>(by cases h)⟩
 ·simp only[if_neg he];by_cases h1:y∈c.replicas
  ·simp only[if_pos h1];exact⟨2,rfl,rfl,⟨λh=>(by cases h),λh=>absurd (.inl h1) h⟩,λh=>(by cases h)⟩
  ·simp only[if_neg h1];by_cases h2:y∈c.witnesses
   ·simp only[if_pos h2];exact⟨3,rfl,rfl,⟨λh=>(by cases h),λh=>absurd (.inr h2) h⟩,λ_=>he⟩
   ·simp only[if_neg h2];exact⟨0,rfl,rfl,⟨λ_ h=>h.elim h1 h2,λ_=>rfl⟩,λh=>(by cases h)⟩
theorem SH(l:List rk)(hl:l.length<=1048576)(hv:ET l=some (true,())):Od l=some (((cutAt l:Nat):Int),l.drop (cutAt l),()):=by
 unfold Od OV;have hc:cutAt l<=l.length:=by unfold cutAt;omega
 have c1: (0:Int)<=((cutAt l:Nat):Int)/\((cutAt l:Nat):Int)<=(l.length:Int)/\(l.length:Int)<=(l.length:Int):=by omega
 have ht: ((l.drop (cutAt l)).take (l.length-cutAt l))=l.drop (cutAt l):=bW (by simp);simp only[hv,ao,df,BK,RJ l hl,B3,if_pos c1,DG,ht,(IX (l.drop (cutAt l)) (by simp;omega)).1]
end
section
def Tt{α:Type}(Q:α->Prop)(r:Option α):Prop:=∃a,r=some a/\Q a
section
variable {α β σ ε:Type} {Q:α->Prop} {Q':β->Prop}
theorem Tt.ret{a:α}(h:Q a):Tt Q (some a):=⟨a,rfl,h⟩
theorem Tt.bind{r:Option α}{k:α->Option β}(h:Tt Q r)(hk: ∀a,Q a->Tt Q' (k a)):Tt Q' (r.bind k):=by obtain⟨a,rfl,h⟩:=h;exact hk a h
theorem Tt.mono{Q2:α->Prop}{r:Option α}(h:Tt Q r)(hq: ∀a,Q a->Q2 a):Tt Q2 r:=h.imp λ_ h=>⟨h.1,hq _ h.2⟩
theorem Tt.ip{p:Prop}{d:Decidable p}{x y:Option α}(hp:p)(h:Tt Q x):Tt Q (@iteP _ p d x y):=by rw[B6 hp];exact h
theorem Tt.br{b:Bool}{x y:Option α}(h1:b=true->Tt Q x)(h2:b=false->Tt Q y):Tt Q (br b x y):=by
 cases b with
 |true=>exact h1 rfl
 |false=>exact h2 rfl
theorem Tt.get{γ:Type}{l:List γ}{i:Nat}{k:γ->Option α}(hi:i<l.length)(h: ∀x,l[i]? =some x->x∈l->Tt Q (k x)):Tt Q ((l[i]?).bind k):=by rw[aq hi];exact h _ (aq hi) (DJ hi)
theorem Tt.loop{B:σ->Option (σ⊕ε)}{E:ε->Prop}(I:σ->Prop)(μ:σ->Nat)(h: ∀s,I s->Tt (Sum.elim (λs'=>I s'/\μ s'<μ s) E) (B s)){s:σ}(hs:I s):Tt E (nx B s):=
 CP I μ E (λs hs=>by
  obtain⟨r,h1,h2⟩:=h s hs;cases r with
  |inl s'=>exact .inl ⟨s',h1,h2.1,h2.2⟩
  |inr e=>exact .inr ⟨e,h1,h2⟩) hs
theorem Tt.go{p:Prop}[Decidable p]{x y:Option α}(hp:p)(h:Tt Q x):Tt Q (Go.Proofs.YtkghndikalnipacGreat.En.br (decide p) x y):=by rw[C1,if_pos hp];exact h
theorem Tt.end{p:Prop}[Decidable p]{x y:Option α}(hp: ¬p)(h:Tt Q y):Tt Q (Go.Proofs.YtkghndikalnipacGreat.En.br (decide p) x y):=by rw[C1,if_neg hp];exact h
theorem Tt.count{B:σ->Option (σ⊕ε)}{E:ε->Prop}(n:Nat)(m:Nat->β->σ)(J:Nat->β->Prop)(h0: ∀b,J n b->Tt (Sum.elim (λ_=>False) E) (B (m n b)))
  (h1: ∀k b,k<n->J k b->Tt (Sum.elim (λs=> ∃b',s=m (k+1) b'/\J (k+1) b') E) (B (m k b))) (b:β) (hb:J 0 b):Tt E (nx B (m 0 b)):=by
 have go: ∀ (d k:Nat) (b:β),k+d=n->J k b->Tt E (nx B (m k b)):=by
  intro d
  induction d with
  |zero=>
   intro k b hk hb;obtain rfl:k=n:=hk;obtain⟨r,e1,e2⟩:=h0 b hb;cases r with
   |inl s=>exact e2.elim
   |inr e=>exact⟨e,by rw[jN,e1];rfl,e2⟩
  |succ d ih=>
   intro k b hk hb;obtain⟨r,e1,e2⟩:=h1 k b (by omega) hb;cases r with
   |inl s=>obtain⟨b',rfl,hb'⟩:=e2;rw[jN,e1];exact ih (k+1) b' (by omega) hb'
   |inr e=>exact⟨e,by rw[jN,e1];rfl,e2⟩
 exact go n 0 b (aP n) hb
end
abbrev T1{α:Type}(_:α):Prop:=True
theorem KY{l:List Int}(ha:NQ l): ∀y∈l,0<=y/\y<5:=by intro y hy;obtain⟨k,hk,rfl⟩:=aU hy;have:=(ha k hk).1;omega
theorem MC(c:nF)(h:FX maxLen c):Tt (λy=>y.1.length<=10/\ ∀z∈y.1,0<=z/\z<5) (EO c):=by obtain⟨v,v1,_⟩:=GP c h;unfold EO;rw[v1,ao,Ef];refine .br (λe=> ?_) λ_=> .ret ⟨bM _,nofun⟩;subst e;obtain⟨a1,a2,_⟩:=Fm h v1;have l1:=a1.len;have l2:=a2.len;obtain⟨r,r1,_,r4,r5⟩:=YO c.replicas c.witnesses (by omega) (by omega);rw[r1];exact .ret ⟨by show r.length<=10;omega,λz hz=>((r4 z).1 hz).elim (KY a1 z) (KY a2 z)⟩
theorem SK{x:qg}(ok:Ez 1048576 x)(vc:VC x)(a b:Int):Tt T1 (ES x.sides a b):=by have h5:=IP (Ep ok.2.1) vc.sides;unfold ES;simp only[vc.sides,EM,ao,CJ];refine .br (λha=> .br (λhb=> ?_) λ_=> .ret trivial) λ_=> .ret trivial;have ha:=Eg.1 ha;have hb:=Eg.1 hb;exact .ip ha.1 (.get (by omega) λ_ _ _=> .ip hb.1 (.get (by omega) λ_ _ _=> .ret trivial))
theorem Tt.srv{α:Type}{Q:α->Prop}{x:qg}(ok:Ez 1048576 x)(vc:VC x){a:Int}(ha:0<=a/\a<5){k:qj->Option α}(h: ∀s,x.servers[a.toNat]? =some s->EA 1048576 s->Eh s a=some (true,())->Tt Q (k s)):Tt Q (iteP (0<=a) ((x.servers[a.toNat]?).bind k) none):=by obtain⟨s,s1,s2,s3⟩:=HY ok vc ha;refine .ip ha.1 ?_;rw[s1];exact h s s1 s2 s3
theorem XY{x:qg}(ok:Ez 1048576 x)(vc:VC x){a b:Int}(ha:0<=a/\a<5)(hb:0<=b/\b<5):Tt T1 (F0 x a b):=by unfold F0;refine .srv ok vc hb λm m1 m2 _=> .bind (SK ok vc a b) λ_ _=> .br (λ_=> .br (λ_=> .srv ok vc ha λp p1 p2 _=> .br (λ_=> .srv ok vc ha λ_ _ _ _=> .br (λ_=> .srv ok vc ha λq _ _ _=> ?_) λ_=> .ret trivial) λ_=> .ret trivial) λ_=> .ret trivial) λ_=> .ret trivial;rw[(F9 m.config q.config (Ei m2.1)).1];exact .ret trivial
theorem Of{l:List rk}(h:l.length<=maxLen): ∃b,ET l=some (b,())/\(b=true->l.length<=16):=by
 rcases isLog l h with ⟨h1,_,h2⟩| ⟨h1,_⟩
 ·exact⟨true,h1,λ_=>h2⟩
 ·exact⟨false,h1,nofun⟩
theorem PO{l:List rk}(h:l.length<=1048576):FT l=some (l,()):=(IX l h).1
theorem ZV(l:List rk)(c q:Int)(hl:l.length<=maxLen):Tt (λy=>y.1= -1\/0<=y.1/\y.1< (l.length:Int)) (Lh l c q):=by
 unfold Lh;refine .bind (.count (B:=JJ) (E:=Sum.elim (λy=>0<=y.1.1/\y.1.1< (l.length:Int)) λ_=>True) l.length (λk (_:Unit)=>((l,c,q,(k:Int),()),(),())) (λ_ _=>True) (λ_ _=> ?_) (λk _ hk _=> ?_) () trivial) λy hy=> ?_
 ·unfold JJ;simp only[C1];rw[if_neg (by omega)];exact .ret trivial
 ·unfold JJ;simp only[C1];rw[if_pos (by omega)];refine .ip (by omega) (.get (by omega) λ_ _ _=> .br (λ_=> .ip (by omega) (.get (by omega) λ_ _ _=> .br (λ_=> .ret ?_) λ_=> .ret ⟨(),by rw[BI hl hk],trivial⟩)) λ_=> .ret ⟨(),by rw[BI hl hk],trivial⟩);exact⟨by show (0:Int)<=k;omega,by show (k:Int)<_;omega⟩
 ·cases y with
  |inl y=>exact .ret (.inr hy)
  |inr y=>exact .ret (.inl rfl)
end
section
theorem Qy{l:List qj}(h:l.length<=1048576/\ ∀s∈l,EA 1048576 s){s:qj}(hs:EA 1048576 s)(i:Nat): (l.set i s).length<=1048576/\ ∀s'∈l.set i s,EA 1048576 s':=
 ⟨by rw[DL];exact h.1,λs' hm=>(cX hm).elim (h.2 s') λe=>e ▸ hs⟩
theorem aaQ(x:qg)(ok:Ez 1048576 x)(id:Int): ∃y n,HQ x id=some (y,n,())/\Ez 1048576 y/\y.servers.length=x.servers.length:=by
 obtain⟨b,b1,_,b2⟩:=RK x id ok;unfold HQ;simp only[(EL x ok).1,b1,ao,Ef];cases b with
 |false=>exact⟨x,1,rfl,ok,rfl⟩
 |true=>
  obtain⟨hv,h0,h5⟩:=b2 rfl;obtain⟨s,s1,_⟩:=HY ok (Es ok hv) ⟨h0,h5⟩;have hlt:=C8 s1;have hs:=ok.1.2 s (aA s1);simp only[CJ,B3,if_pos h0,s1,ao];rw[if_pos ⟨h0,by omega⟩];cases s.up with
  |false=>exact⟨x,2,rfl,ok,rfl⟩
  |true=>exact⟨_,0,rfl,⟨Qy ok.1 (show EA 1048576 ⟨false,s.intact,s.version,s.epoch,s.config,s.first,s.log,s.commit,s.learned⟩ from hs) _,ok.2⟩,DL⟩
theorem YN(x:qg)(ok:Ez 1048576 x)(id:Int): ∃y n,G0 x id=some (y,n,())/\Ez 1048576 y/\y.servers.length=x.servers.length:=by
 obtain⟨b,b1,_,b2⟩:=RK x id ok;unfold G0;simp only[(EL x ok).1,b1,ao,Ef];cases b with
 |false=>exact⟨x,1,rfl,ok,rfl⟩
 |true=>
  obtain⟨hv,h0,h5⟩:=b2 rfl;obtain⟨s,s1,_⟩:=HY ok (Es ok hv) ⟨h0,h5⟩;have hlt:=C8 s1;have hs:=ok.1.2 s (aA s1);simp only[CJ,B3,if_pos h0,s1,ao];rw[if_pos ⟨h0,by omega⟩];cases s.up with
  |true=>exact⟨x,1,rfl,ok,rfl⟩
  |false=>exact⟨_,0,rfl,⟨Qy ok.1 (show EA 1048576 ⟨true,s.intact,s.version,s.epoch,s.config,s.first,s.log,s.commit,s.learned⟩ from hs) _,ok.2⟩,DL⟩
theorem abE(x:qg)(ok:Ez 1048576 x)(id:Int): ∃y n,JM x id=some (y,n,())/\Ez 1048576 y/\y.servers.length=x.servers.length:=by
 obtain⟨b,b1,_,b2⟩:=RK x id ok;unfold JM;simp only[(EL x ok).1,b1,ao,Ef];cases b with
 |false=>exact⟨x,1,rfl,ok,rfl⟩
 |true=>obtain⟨hv,h0,h5⟩:=b2 rfl;obtain⟨s,s1,_⟩:=HY ok (Es ok hv) ⟨h0,h5⟩;have hlt:=C8 s1;simp only[CJ,B3,if_pos h0,s1,ao,LW];rw[if_pos ⟨h0,by omega⟩];exact⟨_,0,rfl,⟨Qy ok.1 ⟨⟨bM _,bM _⟩,bM _,bM _⟩ _,ok.2⟩,DL⟩
theorem YB(x:qg)(ok:Ez 1048576 x)(n:Int): ∃y k,Iz x n=some (y,k,())/\Ez 1048576 y/\y.servers.length=x.servers.length:=by
 obtain⟨v,v1,_⟩:=Fp x ok;unfold Iz;simp only[(EL x ok).1,v1,EM,ao,Ef];cases v with
 |false=>exact⟨x,1,rfl,ok,rfl⟩
 |true=>
  simp only[CJ];cases GG n 0 3 with
  |false=>exact⟨x,1,rfl,ok,rfl⟩
  |true=>exact⟨_,0,rfl,ok,rfl⟩
theorem abH(x:qg)(ok:Ez 1048576 x)(a b:Int): ∃y k,Ix x a b=some (y,k,())/\Ez 1048576 y/\y.servers.length=x.servers.length:=by
 obtain⟨v,v1,_⟩:=Fp x ok;obtain⟨u,u1,_⟩:=Le x.sides (Ep ok.2.1)
 have hm: ∃l t,JN x.sides a b=some (l,t,())/\l.length=x.sides.length:=by
  unfold JN;simp only[bF,B3,u1,EM,ao,Ef];rw[if_pos (show x.sides.length*8<=2 ^ 40 by have:=ok.2.1;omega)];cases u with
  |false=>exact⟨_,_,rfl,rfl⟩
  |true=>
   simp only[CJ];cases hw:GG a 0 4 with
   |false=>exact⟨_,_,rfl,rfl⟩
   |true=>
    simp only[CJ];cases GG b 0 3 with
    |false=>exact⟨_,_,rfl,rfl⟩
    |true=>have hw:=Eg.1 hw;have hl:=IP (Ep ok.2.1) u1;simp only[CJ];rw[if_pos ⟨hw.1,by omega⟩,aq (by omega)];exact⟨_,_,rfl,DL⟩
 obtain⟨l,t,l1,l2⟩:=hm;unfold Ix;simp only[(EL x ok).1,v1,l1,ao,Ef];cases v with
 |false=>exact⟨x,1,rfl,ok,rfl⟩
 |true=>
  cases t with
  |false=>exact⟨x,1,rfl,ok,rfl⟩
  |true=>exact⟨_,0,rfl,⟨ok.1,by show l.length<=1048576;rw[l2];exact ok.2.1,ok.2.2⟩,rfl⟩
theorem SJ(x:qg)(ok:Ez 1048576 x)(id:Int): ∃n:Int,J1 x id=some (n,())/\(n=0->Ee x=some (true,())/\0<=id/\id<5):=by
 obtain⟨v,v1,_⟩:=Fp x ok;unfold J1;simp only[v1,EM,ao,Ef];cases v with
 |false=>exact⟨1,rfl,λh=>absurd h (by decide)⟩
 |true=>
  simp only[CJ];cases hw:GG id 0 4 with
  |false=>exact⟨1,rfl,λh=>absurd h (by decide)⟩
  |true=>
   have hw:=Eg.1 hw;obtain⟨s,s1,_⟩:=HY ok (Es ok v1) ⟨hw.1,by omega⟩;simp only[CJ,B3,if_pos hw.1,s1,ao];cases s.up with
   |false=>exact⟨2,rfl,λh=>absurd h (by decide)⟩
   |true=>exact⟨0,rfl,λ_=>⟨trivial,hw.1,by omega⟩⟩
end
end Go.Proofs.YtkghndikalnipacGreat.En
