/- Plain laws. -/
import Derived.Test.YtkghndikalnipabGreatZBX
set_option linter.unusedSimpArgs false
set_option linter.unusedVariables false
namespace Go.Proofs.YtkghndikalnipabGreat.En
open Go
section
def FO[dL](c:qO):Prop:=∃l,ly c.b=some l/\l.length<=maxLen/\(∀m∈l,0<=m/\m<=255)/\0<=c.i/\c.i<=c.b.n
def Dn[dL]{α:Type}(Q:α->Prop)(r:Option (List qO×α)):Prop:=∃c a,r=some ([c],a)/\FO c/\Q a
section
variable [dL] {α β:Type} {Q:α->Prop} {Q':β->Prop}
theorem Dn.ret{c:qO}{a:α}(hc:FO c)(h:Q a):Dn Q (some ([c],a)):=⟨c,a,rfl,hc,h⟩
theorem Dn.bind{r:Option (List qO×α)}{k:List qO×α->Option (List qO×β)}(h:Dn Q r)(hk: ∀c a,FO c->Q a->Dn Q' (k ([c],a))):Dn Q' (r.bind k):=by obtain⟨c,a,rfl,h1,h2⟩:=h;exact hk c a h1 h2
theorem Dn.mono{Q2:α->Prop}{r:Option (List qO×α)}(h:Dn Q r)(hq: ∀a,Q a->Q2 a):Dn Q2 r:=by obtain⟨c,a,h1,h2,h3⟩:=h;exact⟨c,a,h1,h2,hq a h3⟩
theorem Dn.iteP{p:Prop}[Decidable p]{x y:Option (List qO×α)}(hp:p)(h:Dn Q x):Dn Q (iteP p x y):=by rw[jq hp];exact h
theorem Dn.br{b:Bool}{x y:Option (List qO×α)}(h1:b=true->Dn Q x)(h2:b=false->Dn Q y):Dn Q (br b x y):=by
 cases b with
 |true=>exact h1 rfl
 |false=>exact h2 rfl
theorem Dn.get{γ:Type}{l:List γ}{i:Nat}{k:γ->Option (List qO×α)}(hi:i<l.length)(h: ∀x∈l,Dn Q (k x)):Dn Q ((l[i]?).bind k):=by rw[an hi];exact h _ (dq hi)
end
theorem Up(x:Int):0<=bits .and .i64 x 255/\bits .and .i64 x 255<=255:=by
 have h: (BitVec.ofInt 64 x&&& BitVec.ofInt 64 255).toNat<=255:=by rw[BitVec.toNat_and];exact Nat.and_le_right
 show 0<=IntKind.wrap .i64 _/\IntKind.wrap .i64 _<=255;have e:IntKind.wrap .i64 ((BitVec.ofInt 64 x&&& BitVec.ofInt 64 255).toNat:Int)=((BitVec.ofInt 64 x&&& BitVec.ofInt 64 255).toNat:Int):=of (by omega) (by omega);have e2:bits .and .i64 x 255=IntKind.wrap .i64 ((BitVec.ofInt 64 x&&& BitVec.ofInt 64 255).toNat:Int):=rfl;rw[<-e2] at e;constructor
 ·show 0<=bits .and .i64 x 255;omega
 ·show bits .and .i64 x 255<=255;omega
theorem Wl{x n:Int}(hx:0<=x)(hn:0<n):0<=x.tmod n/\x.tmod n<n:=⟨Int.tmod_nonneg _ hx,Int.tmod_lt_of_pos _ hn⟩
section
variable [dL]
theorem ZV{x:Hd}{l:List Int}(h:ly x=some l)(hl:l.length<=maxLen)(hb: ∀m∈l,0<=m/\m<=255):Dn (λ_:Unit=>True) (Tx x):=by unfold Tx D7;rw[h];exact⟨_,(),rfl,⟨l,h,hl,hb,c9 _,EI _⟩,trivial⟩
theorem PG{c:qO}(h:FO c):Dn (λy:Int×Unit=>0<=y.1/\y.1<=255) (MZ [c]):=by
 obtain⟨l,h1,h2,h3,h4,h5⟩:=h;show Dn _ ((DH c).map λy=>([y.1],y.2,()));unfold DH;have hlen:=(B4 h1).1;by_cases hi:c.i< (c.b.n:Int)
 ·rw[if_pos hi,if_pos h4,h1,ak,an (by omega)];refine⟨_,_,rfl,⟨l,h1,h2,h3,?_,?_⟩,Up _⟩
  ·show 0<=RowKit.wrap64 (c.i+1);unfold RowKit.wrap64;simp only[maxLen] at h2;omega
  ·show RowKit.wrap64 (c.i+1)<=c.b.n;unfold RowKit.wrap64;simp only[maxLen] at h2;omega
 ·rw[if_neg hi];exact⟨_,_,rfl,⟨l,h1,h2,h3,h4,h5⟩,Up _⟩
theorem F9{c:qO}(h:FO c)(n:Int):Dn (λy:Int×Unit=>0<=y.1/\(y.1<n\/n<=0/\y.1=0)) (Fe [c] n):=by
 unfold Fe;refine .br (λhn=> .ret h ⟨c9 _,.inr ⟨of_decide_eq_true hn,rfl⟩⟩) λhn=> ?_;have hn:=of_decide_eq_false hn;refine .br (λ_=> .bind (PG h) λc1 y h1 hy=> .iteP rfl ?_) λ_=> .bind (PG h) λc1 y h1 hy=> .iteP rfl (.bind (PG h1) λc2 y2 h2 hy2=> .iteP rfl (.bind (PG h2) λc3 y3 h3 hy3=> .iteP rfl (.bind (PG h3) λc4 y4 h4 hy4=> .iteP rfl ?_)))
 ·rw[C8 (by omega)];have:=Wl hy.1 (show 0<n by omega);exact .ret h1 ⟨this.1,.inl this.2⟩
 ·rw[C8 (by omega)];simp only;rw[of (n:=y.1*16777216) (by omega) (by omega),of (n:=y2.1*65536) (by omega) (by omega),of (n:=y3.1*256) (by omega) (by omega),of (n:=y.1*16777216+y2.1*65536) (by omega) (by omega),of (n:=y.1*16777216+y2.1*65536+y3.1*256) (by omega) (by omega),of (n:=y.1*16777216+y2.1*65536+y3.1*256+y4.1) (by omega) (by omega)];have:=Wl (show 0<=y.1*16777216+y2.1*65536+y3.1*256+y4.1 by omega) (show 0<n by omega);exact .ret h4 ⟨this.1,.inl this.2⟩
theorem Jn{c:qO}(h:FO c){n:Int}(hn:0<n):Dn (λy:Int×Unit=>0<=y.1/\y.1<n) (Fe [c] n):=(F9 h n).mono λy hy=>⟨hy.1,by omega⟩
theorem Ib{c:qO}(h:FO c)(n:Int):Dn (λ_:Bool×Unit=>True) (Gb [c] n):=by unfold Gb;exact .bind (F9 h n) λc1 y h1 hy=> .iteP rfl (.ret h1 trivial)
theorem GY{c:qO}(h:FO c){l:List Int}(hl:l≠ []):Dn (λy:Int×Unit=>y.1∈l) (Fk [c] l):=by unfold Fk;have h0:0<l.length:=List.length_pos_iff.2 hl;refine .bind (Jn h (show 0< (l.length:Int) by omega)) λc1 y h1 hy=> .iteP rfl (.iteP hy.1 (.get (by show y.1.toNat<l.length;have:=hy.1;have:=hy.2;omega) λx hx=> .ret h1 hx))
theorem UW{c:qO}(h:FO c):Dn (λ_:Op×Unit=>True) (MG [c]):=by
 unfold MG
 repeat first |exact .ret (by assumption) trivial|refine .iteP rfl ?_|refine .br (λ_=> ?_) λ_=> ?_|refine .bind (F9 (by assumption) _) λ_ _ _ _=> ?_|refine .bind (Ib (by assumption) _) λ_ _ _ _=> ?_|refine .bind (GY (by assumption) (by simp)) λ_ _ _ _=> ?_
theorem Xw{c:qO}(h:FO c):Dn (λ_:vz×Unit=>True) (NZ [c]):=by
 unfold NZ;dsimp only
 repeat first |exact .ret (by assumption) trivial|refine .iteP rfl ?_|refine .br (λ_=> ?_) λ_=> ?_|refine .bind (F9 (by assumption) _) λ_ _ _ _=> ?_|refine .bind (Ib (by assumption) _) λ_ _ _ _=> ?_|refine .bind (GY (by assumption) (by simp)) λ_ _ _ _=> ?_
theorem Xb{c:qO}(h:FO c):Dn (λ_:xx×Unit=>True) (L0 [c]):=by
 unfold L0;dsimp only
 repeat first |exact .ret (by assumption) trivial|refine .iteP rfl ?_|refine .br (λ_=> ?_) λ_=> ?_|refine .bind (F9 (by assumption) _) λ_ _ _ _=> ?_|refine .bind (Ib (by assumption) _) λ_ _ _ _=> ?_|refine .bind (GY (by assumption) (by simp)) λ_ _ _ _=> ?_|refine .bind (UW (by assumption)) λ_ _ _ _=> ?_
def Ro{σ ε:Type}(I:σ->Prop)(E:ε->Prop)(r:Option (σ⊕ε)):Prop:=(∃s,r=some (.inl s)/\I s)\/ ∃e,r=some (.inr e)/\E e
section
variable {σ ε α:Type} {I:σ->Prop} {E:ε->Prop} {Q:α->Prop}
omit [dL] in
theorem Ro.again{s:σ}(h:I s):Ro I E (some (.inl s)):=.inl ⟨s,rfl,h⟩
omit [dL] in
theorem Ro.done{e:ε}(h:E e):Ro I E (some (.inr e)):=.inr ⟨e,rfl,h⟩
omit [dL] in
theorem Ro.iteP{p:Prop}[Decidable p]{x y:Option (σ⊕ε)}(hp:p)(h:Ro I E x):Ro I E (iteP p x y):=by rw[jq hp];exact h
omit [dL] in
theorem Ro.br{b:Bool}{x y:Option (σ⊕ε)}(h1:b=true->Ro I E x)(h2:b=false->Ro I E y):Ro I E (br b x y):=by
 cases b with
 |true=>exact h1 rfl
 |false=>exact h2 rfl
theorem Ro.draw{r:Option (List qO×α)}{k:List qO×α->Option (σ⊕ε)}(h:Dn Q r)(hk: ∀c a,FO c->Q a->Ro I E (k ([c],a))):Ro I E (r.bind k):=by obtain⟨c,a,rfl,h1,h2⟩:=h;exact hk c a h1 h2
omit [dL] in
theorem TX{B:σ->Option (σ⊕ε)}(μ:σ->Nat)(h: ∀s,I s->Ro (λs'=>I s'/\μ s'<μ s) E (B s)){s:σ}(hs:I s): ∃e,md B s=some e/\E e:=
 AF I μ E (λs hs=>(h s hs).imp (λ⟨s',a,b,c⟩=>⟨s',a,b,c⟩) id) hs
end
theorem Ur{c:qO}(h:FO c){n:Int}(h0:0<=n){evs:List xx}{M:Nat}(hM:evs.length+n.toNat<=M)(hM2:M<=1000):Dn (λy:List xx×Unit=>y.1.length<=M) ((KQ (((),(),n,()),(()),[c],evs,())).bind λe=>some e.2.2):=by
 unfold KQ
 obtain⟨⟨_,_,l,ps,_⟩,h1,c2,rfl,h2,h3⟩:=TX (B:=I3) (I:=λs=> ∃c,s.2.2.1= [c] /\FO c/\0<=s.1.2.2.1/\s.2.2.2.1.length+s.1.2.2.1.toNat<=M) (E:=λe=> ∃c,e.2.2.1= [c] /\FO c/\e.2.2.2.1.length<=M) (λs=>s.1.2.2.1.toNat) (by
  rintro⟨⟨_,_,k,_⟩,_,l,ps,_⟩ ⟨c,rfl,hc,h0,h1⟩
  simp only at h0 h1;unfold I3;refine .br (λhk=> ?_) λhk=> .done ⟨c,rfl,hc,by show ps.length<=M;omega⟩;have hk:k>0:=of_decide_eq_true hk;have e:IntKind.wrap .i64 (k-1)=k-1:=of (by omega) (by omega)
  have fm: ∀ (c:qO) (x:xx),FO c->Ro (λs': (Unit×Unit×Int×Unit)×Unit×List qO×List xx×Unit=>(∃c,s'.2.2.1= [c] /\FO c/\0<=s'.1.2.2.1/\s'.2.2.2.1.length+s'.1.2.2.1.toNat<=M)/\s'.1.2.2.1.toNat<k.toNat) (λe: (Unit×Unit)×Unit×List qO×List xx×Unit=> ∃c,e.2.2.1= [c] /\FO c/\e.2.2.2.1.length<=M) (iteP ((ps++ [x]).length*80<=2 ^ 40) (some (.inl (((),(),IntKind.wrap .i64 (k-1),()),(()),[c],ps++ [x],()))) none):=λc x hc=>by refine .iteP (by simp only[be,cn];omega) (.again ?_);simp only[e];exact⟨⟨c,rfl,hc,by omega,by simp only[be,cn];omega⟩,by omega⟩
  refine .draw (Xb hc) λc1 _ h1 _=> .iteP rfl (.br (λ_=> .draw (Ib h1 _) λc2 _ h2 _=> .iteP rfl (.br (λ_=> .draw (GY h2 (by simp)) λc3 _ h3 _=> .iteP rfl (fm _ _ h3)) λ_=>fm _ _ h2)) λ_=>fm _ _ h1)) (s:=(((),(),n,()),(()),[c],evs,())) ⟨c,rfl,h,h0,hM⟩
 rw[h1];exact⟨c2,_,rfl,h2,h3⟩
theorem Wr{c:qO}(h:FO c){n:Int}(h0:0<=n)(hn:n<=100):Dn (λy:List xx×Unit=>y.1.length<=200) (K2 [c] n):=by
 unfold K2;rw[of (n:=n+1) (by omega) (by omega)];refine .bind (F9 h _) λc1 _ h1 _=> .iteP rfl (.bind (F9 h1 _) λc2 _ h2 _=> .iteP rfl (.bind (Ib h2 _) λc3 _ h3 _=> .iteP rfl (.br (λ_=> ?_) λ_=> ?_)))
 ·exact .bind (Jn h3 (by omega)) λc4 y h4 hy=> .iteP rfl (Ur h4 hy.1 (by have:=hy.2;simp only[bD,bX];omega) (by omega))
 ·exact .bind (Jn h3 (by omega)) λc4 y h4 hy=> .iteP rfl (Ur h4 hy.1 (by have:=hy.2;simp only[bD,bX];omega) (by omega))
theorem Yb{c:qO}(h:FO c):Dn (λy:List Int×Unit=>y.1.length=5) (LW [c]):=by
 unfold LW P7
 obtain⟨⟨_,_,l,ps,_⟩,h1,c2,rfl,h2,h3⟩:=TX (B:=JL) (I:=λs=> ∃c,s.2.2.1= [c] /\FO c/\0<=s.1.2.2.1/\s.1.2.2.1<=5/\(s.2.2.2.1.length:Int)=s.1.2.2.1) (E:=λe=> ∃c,e.2.2.1= [c] /\FO c/\e.2.2.2.1.length=5) (λs=>(5-s.1.2.2.1).toNat) (by
  rintro⟨⟨_,_,k,_⟩,_,l,ps,_⟩ ⟨c,rfl,hc,h0,h1,h2⟩
  simp only at h0 h1 h2;unfold JL;refine .br (λhk=> ?_) λhk=> .done ⟨c,rfl,hc,by have : ¬k<5:=of_decide_eq_false hk;show ps.length=5;omega⟩;have hk:k<5:=of_decide_eq_true hk;refine .draw (GY hc (by simp)) λc1 _ h1 _=> .iteP rfl (.iteP (by simp only[be,cn];omega) (.again ?_));simp only;rw[of (n:=k+1) (by omega) (by omega)];exact⟨⟨c1,rfl,h1,by omega,by omega,by simp only[be,cn];omega⟩,by omega⟩) (s:=(((),(),0,()),(()),[c],([]:List Int),())) ⟨c,rfl,h,c9 _,by simp,by simp⟩
 rw[h1];exact⟨c2,_,rfl,h2,h3⟩
theorem Xx{c:qO}(h:FO c):Dn (λy:List sf×Unit=>y.1.length<=6) (OJ [c]):=by
 unfold OJ;refine .bind (Jn h (by decide)) λc0 y0 hc0 hy0=> .iteP rfl ?_;unfold Ti
 obtain⟨⟨_,_,l,ps,_⟩,h1,c2,rfl,h2,h3⟩:=TX (B:=MU) (I:=λs=> ∃c,s.2.2.1= [c] /\FO c/\0<=s.1.2.2.2.1/\s.2.2.2.1.length+s.1.2.2.2.1.toNat<=6) (E:=λe=> ∃c,e.2.2.1= [c] /\FO c/\e.2.2.2.1.length<=6) (λs=>s.1.2.2.2.1.toNat) (by
  rintro⟨⟨_,_,g,k,_⟩,_,l,ps,_⟩ ⟨c,rfl,hc,h0,h1⟩
  simp only at h0 h1;unfold MU;refine .br (λhk=> ?_) λhk=> .done ⟨c,rfl,hc,by show ps.length<=6;omega⟩;have hk:k>0:=of_decide_eq_true hk;have e:IntKind.wrap .i64 (k-1)=k-1:=of (by omega) (by omega);refine .draw (Ib hc _) λc1 _ h1 _=> .iteP rfl (.br (λ_=> .draw (UW h1) λc2 _ h2 _=> .iteP rfl (.iteP (by simp only[be,cn];omega) (.again ?_))) λ_=> .draw (UW h1) λc2 _ h2 _=> .iteP rfl (.iteP (by simp only[be,cn];omega) (.again ?_)))
  all_goals
   simp only[e];exact⟨⟨c2,rfl,h2,by omega,by simp only[be,cn];omega⟩,by omega⟩) (s:=(((),(),1,y0.1,()),(()),[c0],([]:List sf),())) ⟨c0,rfl,hc0,hy0.1,by have:=hy0.2;simp;omega⟩
 rw[h1];exact⟨c2,_,rfl,h2,h3⟩
theorem X1{c:qO}(h:FO c):Dn (λ_:Op×Unit=>True) (PO [c]):=by
 unfold PO;refine .bind (UW h) λ_ _ _ _=> ?_
 repeat first |exact .ret (by assumption) trivial|refine .iteP rfl ?_|refine .br (λ_=> ?_) λ_=> ?_|refine .bind (F9 (by assumption) _) λ_ _ _ _=> ?_|refine .bind (Ib (by assumption) _) λ_ _ _ _=> ?_|refine .bind (GY (by assumption) (by simp)) λ_ _ _ _=> ?_
theorem WF{c:qO}(h:FO c):Dn (λy:List sf×Unit=>y.1.length<=17) (PP [c]):=by
 unfold PP;refine .bind (Xx h) λc1 y h1 hy=> .iteP rfl (.bind (F9 h1 _) λc2 _ h2 _=> .iteP rfl (.br (λ_=> ?_) λ_=> .br (λ_=> ?_) λ_=> .ret h2 (by show y.1.length<=17;omega)))
 ·refine .bind (GY h2 (by simp)) λc3 _ h3 _=> .iteP rfl (.bind (X1 h3) λc4 z h4 _=> .iteP rfl ?_);have e: ∀x:sf,(y.1++ [x]).length<=17:=λx=>by simp only[be,cn];omega
  exact .iteP (ba (bg _ (e _)) (by decide)) (.ret h4 (e _))
 ·unfold Th
  obtain⟨⟨_,_,l,ps,_⟩,h1,c2,rfl,h2,h3⟩:=TX (B:=LI) (I:=λs=> ∃c,s.2.2.1= [c] /\FO c/\s.2.2.2.1.length<=17) (E:=λe=> ∃c,e.2.2.1= [c] /\FO c/\e.2.2.2.1.length<=17) (λs=>17-s.2.2.2.1.length) (by
   rintro⟨⟨_,_,_⟩,_,l,ps,_⟩ ⟨c,rfl,hc,h0⟩
   simp only at h0;unfold LI;refine .br (λhk=> ?_) λhk=> .done ⟨c,rfl,hc,h0⟩;have hk: (ps.length:Int)<17:=of_decide_eq_true hk;refine .draw (UW hc) λc1 _ h1 _=> .iteP rfl (.iteP (by simp only[be,cn];omega) (.again ?_));exact⟨⟨c1,rfl,h1,by simp only[be,cn];omega⟩,by simp only[be,cn];omega⟩) (s:=(((),(),()),(()),[c2],y.1,())) ⟨c2,rfl,h2,by show y.1.length<=17;omega⟩
  show Dn _ ((md LI (((),(),()),(()),[_],y.1,())).bind _);rw[h1];exact⟨c2,_,rfl,h2,h3⟩
end
end
section
def GO(M:Nat)(c:om):Prop:=c.replicas.length<=M/\c.witnesses.length<=M
def F1(M:Nat)(s:qQ):Prop:=GO M s.config/\s.log.length<=M/\s.learned.length<=M
def MS(M:Nat)(m:kB):Prop:=m.configs.length<=M/\ ∀c∈m.configs,GO M c
def F0(M:Nat)(c:qN):Prop:=(c.servers.length<=M/\ ∀s∈c.servers,F1 M s)/\c.sides.length<=M/\MS M c.master/\c.places.length<=M
theorem Fq{n:Nat}(h:n<=1048576):n<=maxLen:=by unfold maxLen;omega
end
section
theorem LK{ρ:Type}(a b:Int)(x y:ρ):br (a==b) x y=if a=b then x else y:=by rw[BP];by_cases h:a=b<;>simp[h]
theorem Fc{ρ:Type}(b:Bool)(x y:ρ):br (!b) x y=br b y x:=by cases b<;>rfl
def HK(x a b:Int):Bool:=decide (a<=x)&&decide (x<=b)
theorem FW(x a b:Int):Ff x a b=some (HK x a b,()):=by unfold Ff HK;rw[j6];split<;>rename_i h<;>simp[h]
theorem K9(x a b:Int):Fm x a b=some (HK x a b,()):=by unfold Fm HK;rw[j6];split<;>rename_i h<;>simp[h]
theorem Fi{x a b:Int}:HK x a b=true↔a<=x/\x<=b:=by simp[HK]
def Mw(l:List Int):Prop:=∀k (h:k<l.length),(0<=l[k] /\l[k] <=4)/\ ∀_:0<k,l[k-1]'(by omega)<l[k]
theorem Ns(l:List Int)(hl:l.length<=maxLen): (F2 l=some (true,())/\GW l=some (true,())/\Mw l)\/(F2 l=some (false,())/\GW l=some (false,())):=by
 have fm:=DL (B1:=Gm) (B2:=Gl) l.length (λk=>((l,(k:Int),()),(),())) (λk=>((l,l,(l.length:Int),(k:Int),()),(),())) (.inr (((),()),(),())) (.inr (((),()),(),())) (λ_=> .inl ((false,()),(),())) (λ_=> .inl ((false,()),(),()))
  (λk=> ∀h:k<l.length,(0<=l[k] /\l[k] <=4)/\ ∀_:0<k,l[k-1]'(by omega)<l[k]) (λ_=>True)
  (by simp only[Gm];rw[j6,if_neg (by omega)])
  (by simp only[Gl];rw[j6,if_neg (by omega)])
  (λk hk=>by
    have c1: (k:Int)< (l.length:Int):=by omega
    have c2: (0:Int)<=(k:Int):=by omega
    have e1:l[k]? =some l[k] :=an hk;simp only[Gm,Gl,j6,C7,if_pos c1,if_pos c2,cO,e1,ak,FW,K9];cases hw:HK l[k] 0 4 with
    |false=>exact .inr ⟨rfl,rfl,trivial⟩
    |true=>
     simp only[dk,CS];have hw:=Fi.1 hw;by_cases h0:0<k
     ·have c3: (k:Int)>0:=by omega
      have c4: (0:Int)<=((k-1:Nat):Int):=by omega
      have e2:l[k-1]? =some l[k-1] :=an (by omega);simp only[if_pos c3,CO h0 (by omega),if_pos c4,cO,e2,ak];by_cases hlt:l[k-1]<l[k]
      ·rw[if_neg (by omega),if_neg (by omega),kT hl hk];exact .inl ⟨rfl,rfl,λ_=>⟨hw,λ_=>hlt⟩⟩
      ·rw[if_pos (by omega),if_pos (by omega)];exact .inr ⟨rfl,rfl,trivial⟩
     ·rw[if_neg (by omega),if_neg (by omega),kT hl hk];exact .inl ⟨rfl,rfl,λ_=>⟨hw,λh=>absurd h h0⟩⟩)
 unfold F2 GW;rcases fm with ⟨k1,k2,k3⟩| ⟨k,_,k1,k2,_⟩
 ·rw[show J3 ((l,0,()),(),())=_ from k1,show J2 ((l,l,(l.length:Int),0,()),(),())=_ from k2];exact .inl ⟨rfl,rfl,λk hk=>k3 k hk hk⟩
 ·rw[show J3 ((l,0,()),(),())=_ from k1,show J2 ((l,l,(l.length:Int),0,()),(),())=_ from k2];exact .inr ⟨rfl,rfl⟩
theorem Mw.lt{l:List Int}(h:Mw l): ∀ (d i:Nat) (h2:i+d+1<l.length),l[i]'(by omega)<l[i+d+1] :=by
 intro d
 induction d with
 |zero=>intro i h2;exact (h (i+1) h2).2 (by omega)
 |succ d ih=>intro i h2;have h1:=ih i (by omega);have h3:=(h (i+d+1+1) h2).2 (by omega);exact Int.lt_trans h1 h3
theorem Mw.pair{l:List Int}(h:Mw l):l.Pairwise (· < ·):=by rw[EO];intro i j hi hj hij;have:=h.lt (j-i-1) i (by omega);simpa [show i+(j-i-1)+1=j by omega] using this
theorem Mw.len{l:List Int}(h:Mw l):l.length<=5:=by
 have ge: ∀k (hk:k<l.length),(k:Int)<=l[k] :=by
  intro k
  induction k with
  |zero=>intro hk;exact (h 0 hk).1.1
  |succ k ih=>intro hk;have h1:=ih (by omega);have h2:=(h (k+1) hk).2 (by omega);simp only[bP] at h2;omega
 rcases cU 5 l.length with hlt|hge
 ·have h1:=ge 5 hlt;have h2:=(h 5 hlt).1.2;omega
 ·exact hge
theorem FN(l:List Int)(x:Int)(hl:l.length<=maxLen):FC l x=some (decide (x∈l),())/\Hu l x=some (decide (x∈l),()):=by
 have fm:=DL (B1:=Im) (B2:=HS) l.length (λk=>((l,x,(k:Int),()),(),())) (λk=>((l,x,(l.length:Int),(k:Int),()),(),())) (.inr (((),()),(),())) (.inr (((),()),(),())) (λ_=> .inl ((true,()),(),())) (λk=> .inl (((k:Int),()),(),()))
  (λk=>l[k]? ≠some x) (λk=>l[k]? =some x)
  (by simp only[Im];rw[j6,if_neg (by omega)])
  (by simp only[HS];rw[j6,if_neg (by omega)])
  (λk hk=>by
    have c1: (k:Int)< (l.length:Int):=by omega
    have c2: (0:Int)<=(k:Int):=by omega
    have e1:l[k]? =some l[k] :=an hk;simp only[Im,HS,j6,C7,if_pos c1,if_pos c2,cO,e1,ak,kT hl hk,LK];by_cases he:l[k] =x
    ·rw[if_pos he,if_pos he.symm,he];exact .inr ⟨rfl,rfl,rfl⟩
    ·rw[if_neg he,if_neg (λh=>he h.symm)];exact .inl ⟨rfl,rfl,λh=>he (Option.some.inj h)⟩)
 unfold FC Hu Jk Ly;rcases fm with ⟨k1,k2,k3⟩| ⟨k,hk,k1,k2,k3⟩
 ·rw[show MM ((l,x,0,()),(),())=_ from k1,show Me ((l,x,(l.length:Int),0,()),(),())=_ from k2]
  have hn:x∉l:=λh=>by obtain⟨k,hk,he⟩:=aQ h;exact k3 k hk (by rw[an hk,he])
  rw[decide_eq_false hn];exact⟨rfl,rfl⟩
 ·rw[show MM ((l,x,0,()),(),())=_ from k1,show Me ((l,x,(l.length:Int),0,()),(),())=_ from k2];rw[decide_eq_true (ay k3)];refine⟨rfl,?_⟩;simp only[ak,EX];rw[decide_eq_true (by omega)]
end
section
theorem Iy{n:Nat}(h:n<=1048576):n*8<=2 ^ 40:=by
 have : (2:Nat) ^ 40=1099511627776:=by decide
 omega
theorem Ue(l:List Int)(x:Int)(hl:l.length<=1000)(h: ∀y∈l,y<x):HL l x=some (l++ [x],()):=by
 have hm:l.length<=maxLen:=by unfold maxLen;omega
 have fm:=tC (B:=IW) l (λk (_:Unit)=>((l,x,(k:Int),()),(),())) (λ_ _=>True) (λk r _=>((l,x,((k+r.length:Nat):Int),()),(),()))
  (λb hb=>by simp only[IW];rw[j6,if_neg (by omega)];rfl)
  (λk b y hy hb=>by
    have hk:=yw hy;have c1: (k:Int)< (l.length:Int):=by omega
    have c2: (0:Int)<=(k:Int):=by omega
    refine .inl ⟨(),?_,trivial,?_⟩
    ·simp only[IW,j6,C7,if_pos c1,if_pos c2,cO,hy,ak,if_pos (h y (ay hy)),kT hm hk]
    ·rw[bD,show k+((l.drop (k+1)).length+1)=k+1+(l.drop (k+1)).length by omega])
  0 () (bH _) trivial
 unfold HL;rw[show Qw ((l,x,0,()),(),())=_ from fm];simp only[ak,cF,aM];have c0: ¬ ((l.length:Int)< (l.length:Int)):=by omega
 have d1: (0:Int)<=0/\(0:Int)<=(l.length:Int)/\(l.length:Int)<=(l.length:Int):=by omega
 have d2: (0:Int)<=(l.length:Int)/\(l.length:Int)<=(l.length:Int)/\(l.length:Int)<=(l.length:Int):=by omega
 simp only[j6,if_neg c0,C7,if_pos d1,if_pos d2,cO,EZ,cF,ET,de,dE,bI,EM,bK];rw[if_pos (Iy (by omega)),if_pos (Iy (by simp;omega))];exact if_pos (Iy (by simp;omega))
theorem Qk(a b:List Int)(ha:Mw a)(hb:b.length<=maxLen):GU a b=some (a.filter λx=>decide (x∈b),()):=by
 have hl:=ha.len;have hm:a.length<=maxLen:=by unfold maxLen;omega
 have hp:=ha.pair
 have fm:=tC (B:=GP) a (λk (out:List Int)=>((a,b,(),(k:Int),()),(),(out,()))) (λk out=>out=(a.take k).filter λx=>decide (x∈b)) (λk r out=>(((),()),(),(out++r.filter λx=>decide (x∈b),())))
  (λout hb=>by simp only[GP];rw[j6,if_neg (by omega)];simp)
  (λk out x hx hout=>by
    have hk:=yw hx;have c1: (k:Int)< (a.length:Int):=by omega
    have c2: (0:Int)<=(k:Int):=by omega
    have hxe:a[k] =x:=by rw[an hk] at hx;exact Option.some.inj hx
    simp only[GP,j6,C7,if_pos c1,if_pos c2,cO,hx,ak,(FN b x hb).1,kT hm hk];by_cases hin:x∈b
    ·have hlt: ∀y∈out,y<x:=by
      intro y hy;rw[hout,EU] at hy;obtain⟨i,hi,he⟩:=aQ hy.1;have hi':i<k:=by simp at hi;omega
      rw[Fa] at he;rw[<-he,<-hxe];exact EO.1 hp i k (by omega) hk hi'
     have hol:out.length<=1000:=by rw[hout];have:=EW (λx=>decide (x∈b)) (a.take k);simp at this;omega
     simp only[if_pos hin,Ue out x hol hlt,ak];refine .inl ⟨out++ [x],rfl,?_,?_⟩
     ·rw[hout,EN,hx,EP];simp[hin]
     ·simp[hin]
    ·simp only[if_neg hin];refine .inl ⟨out,rfl,?_,?_⟩
     ·rw[hout,EN,hx,EP];simp[hin]
     ·simp[hin])
  0 [] (bH _) rfl
 unfold GU;rw[show MA ((a,b,(),0,()),(),([],()))=_ from fm];rfl
theorem U9{n:Nat}(hn:n<=5): ∃m,PL (IntKind.wrap .u64 (n:Int))=some (m,()):=by
 have :n=0\/n=1\/n=2\/n=3\/n=4\/n=5:=by omega
 rcases this with rfl|rfl|rfl|rfl|rfl|rfl
 ·exact⟨0,by kernel_rfl⟩
 ·exact⟨1,by kernel_rfl⟩
 ·exact⟨2,by kernel_rfl⟩
 ·exact⟨2,by kernel_rfl⟩
 ·exact⟨3,by kernel_rfl⟩
 ·exact⟨3,by kernel_rfl⟩
theorem Wv(l:List Int)(ha:Mw l):FJ l 0 (l.length:Int)=some (l,()):=by
 have hl:=ha.len;have hm:l.length<=maxLen:=by unfold maxLen;omega
 have inner: ∀k (hk:k<l.length),0<k->HB (((),0,(l.length:Int),(k:Int),(k:Int),()),(),(l,()))=some (((),0,(l.length:Int),(k:Int),()),(),(l,())):=by
  intro k hk h0;refine me ?_;have c1: (k:Int)>0:=by omega
  have c2: (0:Int)<=(k:Int)/\(k:Int)< (l.length:Int):=by omega
  have c3: (0:Int)<=((k-1:Nat):Int)/\((k-1:Nat):Int)< (l.length:Int):=by omega
  have e1:l[k]? =some l[k] :=an hk;have e2:l[k-1]? =some l[k-1] :=an (by omega);have hlt:=(ha k hk).2 h0
  have less:JM l[k] l[k-1] =some (false,()):=by unfold JM I4;simp only[beq_self_eq_true,dk,ak,CS];rw[decide_eq_false (by omega)]
  simp only[FR,j6,C7,if_pos c1,if_pos c2,CO h0 (by omega),if_pos c3,cO,e1,e2,ak,less,CS]
 have outer:=AF (B:=Fu) (λs=> ∃k:Nat,0<k/\s=(((),0,(l.length:Int),(k:Int),()),(),(l,()))) (λs=>l.length-s.1.2.2.2.1.toNat) (λe=>e=((()),(),(l,())))
  (λs hs=>by
    obtain⟨k,h0,rfl⟩:=hs;by_cases hk:k<l.length
    ·have c1: (k:Int)< (l.length:Int):=by omega
     refine .inl ⟨(((),0,(l.length:Int),((k+1:Nat):Int),()),(),(l,())),?_,⟨k+1,by omega,rfl⟩,?_⟩
     ·simp only[Fu,j6,if_pos c1,inner k hk h0,ak,kT hm hk]
     ·simp only[cO];omega
    ·have c1: ¬ (k:Int)< (l.length:Int):=by omega
     exact .inr ⟨_,by simp only[Fu,j6,if_neg c1],rfl⟩)
  (s:=(((),0,(l.length:Int),((1:Nat):Int),()),(),(l,()))) ⟨1,by omega,rfl⟩
 obtain⟨e,h1,rfl⟩:=outer;unfold FJ;rw[show IntKind.wrap .i64 ((0:Int)+1)=((1:Nat):Int) from by rw[of (by omega) (by omega)];rfl,show HA (((),0,(l.length:Int),((1:Nat):Int),()),(),(l,()))=_ from h1];rfl
theorem Yd(l:List Int)(ha:Mw l):II l=some (l,()):=by
 have hl:=ha.len;obtain⟨m,hm⟩:=U9 hl
 have hp:Gc l 0 (l.length:Int) m=some (l,()):=by
  unfold Gc
  have :IM (((),0,(l.length:Int),m,true,true,()),(),(l,()))=some ((()),(),(l,())):=by refine me ?_;simp only[Gs];rw[of (by omega) (by omega),j6,if_pos (by omega),Wv l ha,ak,jq rfl]
  rw[this];rfl
 unfold II;simp only[hm,ak,hp];exact jq trivial _ _
theorem Uq(l:List Int)(ha:Mw l):Hy l=some (l,()):=by
 have hl:=ha.len;have hm:l.length<=maxLen:=by unfold maxLen;omega
 unfold Hy;rw[j6];split
 ·rfl
 ·have fm:=AF (B:=Gw) (λs=> ∃k:Nat,0<k/\k<=l.length/\s=(((),(k:Int),()),(),(l,()))) (λs=>l.length-s.1.2.1.toNat) (λe=>e= .inr (((),(),()),(),(l,())))
   (λs hs=>by
     obtain⟨k,h0,hkl,rfl⟩:=hs;by_cases hk:k<l.length
     ·have c1: (k:Int)< (l.length:Int):=by omega
      have c2: (0:Int)<=(k:Int)/\(k:Int)< (l.length:Int):=by omega
      have c3: (0:Int)<=((k-1:Nat):Int)/\((k-1:Nat):Int)< (l.length:Int):=by omega
      have e1:l[k]? =some l[k] :=an hk;have e2:l[k-1]? =some l[k-1] :=an (by omega);have hlt:=(ha k hk).2 h0;refine .inl ⟨(((),((k+1:Nat):Int),()),(),(l,())),?_,⟨k+1,by omega,by omega,rfl⟩,?_⟩
      ·simp only[Gw,j6,C7,if_pos c1,if_pos c2,CO h0 (by omega),if_pos c3,cO,e1,e2,ak,LK,kT hm hk];rw[if_neg (by omega)]
      ·simp only[cO];omega
     ·have c1: ¬ (k:Int)< (l.length:Int):=by omega
      exact .inr ⟨_,by simp only[Gw,j6,if_neg c1],rfl⟩)
   (s:=(((),((1:Nat):Int),()),(),(l,()))) ⟨1,by omega,by omega,rfl⟩
  obtain⟨e,h1,rfl⟩:=fm;rw[show Lk (((),1,()),(),(l,()))=_ from h1];rfl
theorem Wn(l:List Int)(ha:Mw l):KR l=some (l,()):=by have hl:=ha.len;unfold KR IZ;rw[jq (Iy (by omega)),ak,Yd l ha,ak,jq rfl,Uq l ha];rfl
end
section
theorem Na{σ ε:Type}{B:σ->Option (σ⊕ε)}(n:Nat)(m:Nat->σ)(t:ε)(f:Nat->ε)(p:Nat->Bool)(h0:B (m n)=some (.inr t))(h: ∀k,k<n->B (m k)=some (if p k=true then .inr (f k) else .inl (m (k+1)))):
  (md B (m 0)=some t/\ ∀k,k<n->p k=false)\/ ∃k,k<n/\md B (m 0)=some (f k)/\p k=true/\ ∀j,j<k->p j=false:=by
 have fm: ∀d j,j+d=n->(md B (m j)=some t/\ ∀k,j<=k->k<n->p k=false)\/ ∃k,k<n/\md B (m j)=some (f k)/\p k=true/\ ∀i,j<=i->i<k->p i=false:=by
  intro d
  induction d with
  |zero=>
   intro j hj;have :j=n:=by omega
   subst this;exact .inl ⟨me h0,λk a b=>by omega⟩
  |succ d ih=>
   intro j hj;have h1:=h j (by omega);cases hp:p j with
   |true=>rw[hp,if_pos rfl] at h1;exact .inr ⟨j,by omega,me h1,hp,λi a b=>by omega⟩
   |false=>
    rw[hp,if_neg (by simp)] at h1;rw[tD h1];rcases ih (j+1) (by omega) with ⟨k1,k2⟩| ⟨k,k0,k1,k2,k3⟩
    ·refine .inl ⟨k1,λk a b=> ?_⟩;rcases Nat.eq_or_lt_of_le a with rfl|a
     ·exact hp
     ·exact k2 k a b
    ·refine .inr ⟨k,k0,k1,k2,λi a b=> ?_⟩;rcases Nat.eq_or_lt_of_le a with rfl|a
     ·exact hp
     ·exact k3 i a b
 rcases fm n 0 (by omega) with ⟨a,b⟩| ⟨k,a,b,c,d⟩
 ·exact .inl ⟨a,λk hk=>b k (bH _) hk⟩
 ·exact .inr ⟨k,a,b,c,λj hj=>d j (bH _) hj⟩
theorem P5{σ1 ε1 σ2 ε2 β:Type}{B1:σ1->Option (σ1⊕ε1)}{B2:σ2->Option (σ2⊕ε2)}(n:Nat)(m1:Nat->β->σ1)(m2:Nat->β->σ2)(J:Nat->β->Prop)(E1:β->ε1)(E2:β->ε2)
  (h0: ∀b,J n b->B1 (m1 n b)=some (.inr (E1 b))/\B2 (m2 n b)=some (.inr (E2 b)))
  (h1: ∀k b,k<n->J k b-> ∃b',B1 (m1 k b)=some (.inl (m1 (k+1) b'))/\B2 (m2 k b)=some (.inl (m2 (k+1) b'))/\J (k+1) b')
  (b:β) (hb:J 0 b): ∃b',J n b'/\md B1 (m1 0 b)=some (E1 b')/\md B2 (m2 0 b)=some (E2 b'):=by
 have go: ∀ (d k:Nat) (b:β),k+d=n->J k b-> ∃b',J n b'/\md B1 (m1 k b)=some (E1 b')/\md B2 (m2 k b)=some (E2 b'):=by
  intro d
  induction d with
  |zero=>
   intro k b hk hj;have :k=n:=by omega
   subst this;exact⟨b,hj,me (h0 b hj).1,me (h0 b hj).2⟩
  |succ d ih=>intro k b hk hj;obtain⟨b',p1,p2,p3⟩:=h1 k b (by omega) hj;obtain⟨c,q1,q2,q3⟩:=ih (k+1) b' (by omega) p3;exact⟨c,q1,by rw[tD p1];exact q2,by rw[tD p2];exact q3⟩
 exact go n 0 b (by omega) hb
theorem QI{l:List Int}{p:Int->Bool}(h: ∀x∈l,p x=true):l.filter p=l:=List.filter_eq_self.2 h
theorem Vc(a b:List Int)(ha:a.length<=1000)(hb:b.length<=maxLen):Ft a b=some (a.filter λx=> !decide (x∈b),()):=by
 have hm:a.length<=maxLen:=by unfold maxLen;omega
 have hm':a.length<=9223372036854775807:=hm
 have has: ∀x,Gx x b=some (decide (x∈b),()):=by intro x;unfold Gx;rw[(FN b x hb).2];rfl
 have find:=Na (B:=Fo) a.length (λk=>((a,(b,()),(a.length:Int),(k:Int),()),(),())) (.inr (((),()),(),())) (λk=> .inl (((k:Int),()),(),())) (λk=>match a[k]? with |some x=>decide (x∈b)|none=>false)
  (by simp only[Fo];rw[j6,if_neg (by omega)])
  (λk hk=>by
    have c1: (k:Int)< (a.length:Int):=by omega
    have c2: (0:Int)<=(k:Int):=by omega
    simp only[Fo,j6,C7,if_pos c1,if_pos c2,cO,an hk,ak,has,kT hm hk];by_cases hin:a[k] ∈b<;>simp[hin])
 unfold Ft FM;rcases find with ⟨k1,k2⟩| ⟨i,hi,k1,k2,k3⟩
 ·rw[show F5 ((a,(b,()),(a.length:Int),0,()),(),())=_ from k1];simp only[ak,EV,beq_self_eq_true,DG];rw[QI λx hx=> ?_];obtain⟨k,hk,rfl⟩:=aQ hx;have:=k2 k hk;rw[an hk] at this;simpa using this
 ·rw[show F5 ((a,(b,()),(a.length:Int),0,()),(),())=_ from k1]
  have hne: ((i:Int)== -1)=false:=by simp only[beq_eq_false_iff_ne,ne_eq];omega
  simp only[ak,EX,hne,CS,kT hm hi];rw[an hi] at k2
  have loop:=AF (B:=Fj) (λs=> ∃ (i j:Nat) (v:List Int),s=(((),(b,()),(i:Int),(j:Int),()),(),(v,()))/\i<=j/\j<=a.length/\v.length=a.length/\v.take i=(a.take j).filter (λx=> !decide (x∈b))/\v.drop j=a.drop j) (λs=>a.length-s.1.2.2.2.1.toNat)
   (λe=> ∃ (i:Nat) (v:List Int),e=(((),(i:Int),()),(),(v,()))/\i<=a.length/\v.length=a.length/\v.take i=a.filter (λx=> !decide (x∈b)))
   (λs hs=>by
     obtain⟨i,j,v,rfl,hij,hj,hv,ht,hd⟩:=hs;by_cases hlt:j<a.length
     ·have c1: (j:Int)< (v.length:Int):=by omega
      have c2: (0:Int)<=(j:Int)/\(j:Int)< (v.length:Int):=by omega
      have c3: (0:Int)<=(i:Int)/\(i:Int)< (v.length:Int):=by omega
      have e1:v[j]? =some a[j] :=by have:=congrArg (λl:List Int=>l[0]?) hd;simpa [bn,an hlt] using this
      have e2:v[i]? =some (v[i]'(by omega)):=an _;have hta:a.take (j+1)=a.take j++ [a[j]] :=by rw[EN,an hlt];rfl
      have hdd:v.drop (j+1)=a.drop (j+1):=by have:=congrArg (List.drop 1) hd;simpa [cw,b8] using this
      left;simp only[Fj,j6,C7,if_pos c1,if_pos c2,cO,e1,ak,has,if_pos c3,e2,kT hm hlt,Fc,kT hm (show i<a.length by omega)];by_cases hin:a[j] ∈b
      ·rw[if_pos hin];refine⟨_,rfl,⟨i,j+1,v,rfl,by omega,by omega,hv,?_,hdd⟩,?_⟩
       ·rw[ht,hta,EP];simp[hin]
       ·simp only[cO];omega
      ·rw[if_neg hin];refine⟨_,rfl,⟨i+1,j+1,v.set i a[j],rfl,by omega,by omega,by simp[hv],?_,?_⟩,?_⟩
       ·rw[qi _ (by omega),ht,hta,EP];simp[hin]
       ·rw[List.drop_set_of_lt (by omega),hdd]
       ·simp only[cO];omega
     ·have :j=a.length:=by omega
      subst this;right;refine⟨_,by simp only[Fj];rw[j6,if_neg (by omega)],⟨i,v,rfl,hij,hv,?_⟩⟩;rw[ht,EM])
   (s:=(((),(b,()),(i:Int),((i+1:Nat):Int),()),(),(a,()))) ⟨i,i+1,a,rfl,by omega,by omega,rfl,by
     have hta:a.take (i+1)=a.take i++ [a[i]] :=by rw[EN,an hi];rfl
     rw[hta,EP,QI (l:=a.take i) λx hx=> ?_]
     ·simp only[decide_eq_true_eq] at k2;simp[k2]
     ·obtain⟨j,hj,rfl⟩:=aQ hx;have hj':j<i:=by simp at hj;omega
      have:=k3 j hj';rw[an (by omega)] at this;rw[Fa];simpa using this,rfl⟩
  obtain⟨e,h1,i',v,rfl,h2,h3,h4⟩:=loop;rw[show GB (((),(b,()),(i:Int),((i+1:Nat):Int),()),(),(a,()))=_ from h1];have d1: (0:Int)<=(i':Int)/\(i':Int)<=(v.length:Int)/\(v.length:Int)<=((v.length:Nat):Int):=by omega
  have d2:i'+(v.length-i')<=v.length:=by omega
  have d3: (0:Int)<=0/\(0:Int)<=(i':Int)/\(i':Int)<=((v.length:Nat):Int):=by omega
  simp only[ak,cO,EZ,aM,ET,C7,if_pos d1,if_pos d2,if_pos d3];rw[if_pos ⟨trivial,by simp;omega⟩];rw[aY,List.take_append_of_le_length (by simp;omega),List.take_take,Nat.min_self,h4]
theorem Ut(a b:List Int)(ha:Mw a)(hb:b.length<=maxLen):G4 a b=some (a.filter λx=> !decide (x∈b),()):=by have hl:=ha.len;unfold G4;rw[Wn a ha,ak,Vc a b (by omega) hb];rfl
theorem Yu(a b:List Int)(ha:Mw a)(hb:b.length<=maxLen):Ie a b=some (a.filter λx=>decide (x∈b),()):=by
 have hl:=ha.len;unfold Ie;rw[Ut a b ha hb];simp only[ak]
 rw[Ut a (a.filter λx=> !decide (x∈b)) ha (by have:=EW (λx=> !decide (x∈b)) a;unfold maxLen;omega)]
 simp only[ak]
 congr 2
 apply List.filter_congr;intro x hx;simp[EU,hx]
theorem JF(c:om)(h:GO maxLen c):Eh (Fh c) (Hi c):=by
 unfold Fh Hi;simp only[FW,K9,ak];cases HK c.epoch 1 20 with
 |false=>exact⟨_,rfl,rfl⟩
 |true=>
  rcases Ns c.replicas h.1 with ⟨a1,a2,a3⟩| ⟨a1,a2⟩
  ·rcases Ns c.witnesses h.2 with ⟨b1,b2,b3⟩| ⟨b1,b2⟩
   ·simp only[a1,a2,b1,b2,ak,DG,(FN c.replicas c.primary h.1).1,(FN c.replicas c.primary h.1).2,Qk _ _ a3 h.2,Yu _ _ a3 h.2];cases decide (c.primary∈c.replicas)<;>exact⟨_,rfl,rfl⟩
   ·simp only[a1,a2,b1,b2,ak,DG,CS];exact⟨_,rfl,rfl⟩
  ·simp only[a1,a2,ak,DG,CS];exact⟨_,rfl,rfl⟩
end
section
theorem NU(l:List Int)(hl:l.length<=maxLen):Eh (G8 l) (Jo l):=by
 have fm:=DL (B1:=IT) (B2:=Fv) l.length (λk=>((l,(k:Int),()),(),())) (λk=>((l,(),(l.length:Int),(k:Int),()),(),())) (.inr ((l,(),()),(),())) (.inr (((),()),(),())) (λ_=> .inl ((l,false,()),(),())) (λk=> .inl (((k:Int),()),(),()))
  (λ_=>True) (λ_=>True)
  (by simp only[IT];rw[j6,if_neg (by omega)])
  (by simp only[Fv];rw[j6,if_neg (by omega)])
  (λk hk=>by
    have c1: (k:Int)< (l.length:Int):=by omega
    have c2: (0:Int)<=(k:Int):=by omega
    simp only[IT,Fv,j6,C7,if_pos c1,if_pos c2,cO,an hk,ak,KM,FW,K9,kT hl hk];cases HK l[k] 0 3 with
    |false=>exact .inr ⟨rfl,rfl,trivial⟩
    |true=>exact .inl ⟨rfl,rfl,trivial⟩)
 unfold G8 Jo FS F7;rcases fm with ⟨k1,k2,_⟩| ⟨k,_,k1,k2,_⟩
 ·rw[show NA ((l,0,()),(),())=_ from k1,show GD ((l,(),(l.length:Int),0,()),(),())=_ from k2];simp only[ak,EV];cases ((l.length:Int)==5)<;>exact⟨_,rfl,rfl⟩
 ·rw[show NA ((l,0,()),(),())=_ from k1,show GD ((l,(),(l.length:Int),0,()),(),())=_ from k2];simp only[ak,EX];rw[decide_eq_true (by omega)];cases ((l.length:Int)==5)<;>exact⟨_,rfl,rfl⟩
theorem masterLog(m:kB)(h:MS maxLen m): ∃b,FK m=some (b,())/\Iq m=some (b,()):=by
 obtain⟨hl,hc⟩:=h
 have fm:=DL (B1:=FH) (B2:=Hg) m.configs.length (λk=>(((),(k:Int),()),((m.configs,m.activated,()),()),())) (λk=>(((),m.configs,(m.configs.length:Int),(k:Int),()),((m.configs,m.activated,()),()),())) (.inr (((),(),()),((m.configs,m.activated,()),()),())) (.inr (((),(),()),((m.configs,m.activated,()),()),())) (λ_=> .inl (((),false,()),((m.configs,m.activated,()),()),())) (λ_=> .inl (((),false,()),((m.configs,m.activated,()),()),()))
  (λ_=>True) (λ_=>True)
  (by simp only[FH];rw[j6,if_neg (by omega)])
  (by simp only[Hg];rw[j6,if_neg (by omega)])
  (λk hk=>by
    have c1: (k:Int)< (m.configs.length:Int):=by omega
    have c2: (0:Int)<=(k:Int):=by omega
    obtain⟨b,v1,v2⟩:=JF m.configs[k] (hc _ (dq hk));simp only[FH,Hg,j6,C7,if_pos c1,if_pos c2,cO,an hk,ak,v1,v2,kT hl hk,Fc];cases b with
    |false=>exact .inr ⟨rfl,rfl,trivial⟩
    |true=>
     cases (m.configs[k].epoch==((k+1:Nat):Int)) with
     |false=>exact .inr ⟨rfl,rfl,trivial⟩
     |true=>exact .inl ⟨rfl,rfl,trivial⟩)
 unfold FK Iq;rcases fm with ⟨k1,k2,_⟩| ⟨k,_,k1,k2,_⟩
 ·rw[show Ik (((),0,()),((m.configs,m.activated,()),()),())=_ from k1,show Lc (((),m.configs,(m.configs.length:Int),0,()),((m.configs,m.activated,()),()),())=_ from k2];simp only[ak,EV,FW,K9];exact⟨_,rfl,rfl⟩
 ·rw[show Ik (((),0,()),((m.configs,m.activated,()),()),())=_ from k1,show Lc (((),m.configs,(m.configs.length:Int),0,()),((m.configs,m.activated,()),()),())=_ from k2];exact⟨_,rfl,rfl⟩
theorem OL(x:vz):Eh (HY x) (Ip x):=by unfold HY Ip;simp only[FW,K9,ak];cases ((x.epoch==0)&&((x.holder==0)&&((x.ends==0)&&true)))<;>cases HK x.epoch 1 20<;>cases HK x.holder 0 4<;>exact⟨_,rfl,rfl⟩
theorem MT(l:List vB)(hl:l.length<=maxLen):Eh (FG l) (Jx l):=by
 have fm:=DL (B1:=HE) (B2:=Fs) l.length (λk=>((l,(k:Int),()),(),())) (λk=>((l,(),(l.length:Int),(k:Int),()),(),())) (.inr ((l,(),()),(),())) (.inr (((),()),(),())) (λ_=> .inl ((l,false,()),(),())) (λk=> .inl (((k:Int),()),(),()))
  (λ_=>True) (λ_=>True)
  (by simp only[HE];rw[j6,if_neg (by omega)])
  (by simp only[Fs];rw[j6,if_neg (by omega)])
  (λk hk=>by
    have c1: (k:Int)< (l.length:Int):=by omega
    have c2: (0:Int)<=(k:Int):=by omega
    simp only[HE,Fs,j6,C7,if_pos c1,if_pos c2,cO,an hk,ak,JN,FW,K9,kT hl hk];cases HK l[k].rack 0 9 with
    |false=>exact .inr ⟨rfl,rfl,trivial⟩
    |true=>
     cases HK l[k].capacity 0 9 with
     |false=>exact .inr ⟨rfl,rfl,trivial⟩
     |true=>
      cases HK l[k].load 0 99 with
      |false=>exact .inr ⟨rfl,rfl,trivial⟩
      |true=>exact .inl ⟨rfl,rfl,trivial⟩)
 unfold FG Jx FL FT;rcases fm with ⟨k1,k2,_⟩| ⟨k,_,k1,k2,_⟩
 ·rw[show ML ((l,0,()),(),())=_ from k1,show Gg ((l,(),(l.length:Int),0,()),(),())=_ from k2];simp only[ak,EV];cases ((l.length:Int)==5)<;>exact⟨_,rfl,rfl⟩
 ·rw[show ML ((l,0,()),(),())=_ from k1,show Gg ((l,(),(l.length:Int),0,()),(),())=_ from k2];simp only[ak,EX];rw[decide_eq_true (by omega)];cases ((l.length:Int)==5)<;>exact⟨_,rfl,rfl⟩
theorem Wm(x:Op):Eh (FD x) (Jy x):=by unfold FD Jy;simp only[FW,K9,ak];cases HK x.client 0 2<;>cases HK x.seq 1 99<;>cases HK x.object 0 2<;>cases HK x.value 0 9<;>cases (x.kind==1)<;>cases (x.kind==2)<;>cases (x.old==0)<;>exact⟨_,rfl,rfl⟩
theorem isLog(l:List sf)(hl:l.length<=maxLen): (Gk l=some (true,())/\JO l=some (true,())/\l.length<=16)\/(Gk l=some (false,())/\JO l=some (false,())):=by
 have fm:=DL (B1:=IU) (B2:=LH) l.length (λk=>((l,(k:Int),()),(),())) (λk=>((l,l,(l.length:Int),(k:Int),()),(),())) (.inr ((l,(),()),(),())) (.inr ((l,(),()),(),())) (λ_=> .inl ((l,false,()),(),())) (λ_=> .inl ((l,false,()),(),()))
  (λ_=>True) (λ_=>True)
  (by simp only[IU];rw[j6,if_neg (by omega)])
  (by simp only[LH];rw[j6,if_neg (by omega)])
  (λk hk=>by
    have c1: (k:Int)< (l.length:Int):=by omega
    have c2: (0:Int)<=(k:Int):=by omega
    obtain⟨b,v1,v2⟩:=Wm l[k].op;simp only[IU,LH,j6,C7,if_pos c1,if_pos c2,cO,an hk,ak,v1,v2,FW,K9,kT hl hk,Fc];cases HK l[k].epoch 1 20 with
    |false=>exact .inr ⟨rfl,rfl,trivial⟩
    |true=>
     simp only[DG];by_cases h0:0<k
     ·have c3: (k:Int)>0:=by omega
      have c4: (0:Int)<=((k-1:Nat):Int):=by omega
      have e2:l[k-1]? =some l[k-1] :=an (by omega);simp only[if_pos c3,CO h0 (by omega),if_pos c4,cO,e2,ak];by_cases hlt:l[k].epoch<l[k-1].epoch
      ·rw[if_pos hlt,if_pos (show l[k-1].epoch>l[k].epoch from hlt)];cases b<;>exact .inr ⟨rfl,rfl,trivial⟩
      ·rw[if_neg hlt,if_neg (show ¬l[k-1].epoch>l[k].epoch from hlt)];cases b with
       |false=>exact .inr ⟨rfl,rfl,trivial⟩
       |true=>exact .inl ⟨rfl,rfl,trivial⟩
     ·have c3: ¬ (k:Int)>0:=by omega
      simp only[if_neg c3];cases b with
      |false=>exact .inr ⟨rfl,rfl,trivial⟩
      |true=>exact .inl ⟨rfl,rfl,trivial⟩)
 unfold Gk JO;rcases fm with ⟨k1,k2,_⟩| ⟨k,_,k1,k2,_⟩
 ·rw[show Nb ((l,0,()),(),())=_ from k1,show Qu ((l,l,(l.length:Int),0,()),(),())=_ from k2];simp only[ak,EV];by_cases h: (l.length:Int)<=16
  ·rw[decide_eq_true h];exact .inl ⟨rfl,rfl,by omega⟩
  ·rw[decide_eq_false h];exact .inr ⟨rfl,rfl⟩
 ·rw[show Nb ((l,0,()),(),())=_ from k1,show Qu ((l,l,(l.length:Int),0,()),(),())=_ from k2];exact .inr ⟨rfl,rfl⟩
theorem Ls(a b:List Int)(ha:a.length<=maxLen):HW a b=some (decide (a=b),())/\HU a b=some (decide (a=b),()):=by
 unfold HW HU Lx;by_cases hlen:a.length=b.length
 ·have hbe: (!((a.length:Int)==(b.length:Int)))=false:=by simp[hlen]
  have fm:=DL (B1:=G0) (B2:=HQ) a.length (λk=>((a,b,(k:Int),()),(),())) (λk=>((a,b,(a.length:Int),(k:Int),()),(),())) (.inr (((),()),(),())) (.inr (((),()),(),())) (λ_=> .inl ((false,()),(),())) (λ_=> .inl ((false,()),(),()))
   (λk=>a[k]? =b[k]?) (λk=>a[k]? ≠b[k]?)
   (by simp only[G0];rw[j6,if_neg (by omega)])
   (by simp only[HQ];rw[j6,if_neg (by omega)])
   (λk hk=>by
     have c1: (k:Int)< (a.length:Int):=by omega
     have c2: (0:Int)<=(k:Int):=by omega
     simp only[G0,HQ,j6,C7,if_pos c1,if_pos c2,cO,an hk,an (show k<b.length by omega),ak,kT ha hk,Fc,LK];by_cases he:a[k] =b[k]'(by omega)
     ·simp only[if_pos he];exact .inl ⟨trivial,trivial,by rw[he]⟩
     ·simp only[if_neg he];exact .inr ⟨trivial,trivial,λh=>he (Option.some.inj h)⟩)
  rw[hbe,CS,CS];rcases fm with ⟨k1,k2,k3⟩| ⟨k,hk,k1,k2,k3⟩
  ·rw[show Kz ((a,b,0,()),(),())=_ from k1,show Md ((a,b,(a.length:Int),0,()),(),())=_ from k2]
   have :a=b:=bE λk=>by
    rcases cU k a.length with h|h
    ·exact k3 k h
    ·rw[cz h,cz (by omega)]
   rw[decide_eq_true this];exact⟨rfl,rfl⟩
  ·rw[show Kz ((a,b,0,()),(),())=_ from k1,show Md ((a,b,(a.length:Int),0,()),(),())=_ from k2];have :a≠b:=λh=>k3 (by rw[h]);rw[decide_eq_false this];exact⟨rfl,rfl⟩
 ·have hbe: (!((a.length:Int)==(b.length:Int)))=true:=by
   simp only[bT,beq_eq_false_iff_ne,ne_eq];omega
  rw[hbe,DG,DG,decide_eq_false (λh=>hlen (by rw[h]))];exact⟨rfl,rfl⟩
theorem Ht(a b:om)(ha:GO maxLen a):Gu a b=some (decide (a=b),())/\G7 a b=some (decide (a=b),()):=by unfold Gu G7;simp only[(Ls a.replicas b.replicas ha.1).1,(Ls a.replicas b.replicas ha.1).2,(Ls a.witnesses b.witnesses ha.2).1,(Ls a.witnesses b.witnesses ha.2).2,ak,LK,j6];obtain⟨a1,a2,a3,a4⟩:=a;obtain⟨b1,b2,b3,b4⟩:=b;simp only[om.mk.injEq];by_cases h1:a1=b1<;>by_cases h2:a2=b2<;>by_cases h3:a3=b3<;>by_cases h4:a4=b4<;>simp[h1,h2,h3,h4]
theorem M9(l:List sf)(hl:l.length<=maxLen): ∃n,JD l=some (n,())/\Jz l=some (n,()):=by
 unfold JD Jz;rcases bu l.length with h|h
 ·have : ((l.length:Int)==0)=true:=by simp[h]
  rw[this];exact⟨_,rfl,rfl⟩
 ·have : ((l.length:Int)==0)=false:=by
   simp only[beq_eq_false_iff_ne,ne_eq];omega
  rw[this,CS,CO h hl,jq (by omega),cO,an (show l.length-1<l.length by omega)];exact⟨_,rfl,rfl⟩
theorem PE(c:om)(x:Int)(h:GO maxLen c): ∃n,GV c x=some (n,())/\MV c x=some (n,())/\(n=0\/n=1\/n=2\/n=3):=by unfold GV MV;obtain⟨b,v1,v2⟩:=JF c h;simp only[v1,v2,ak,(FN c.replicas x h.1).1,(FN c.replicas x h.1).2,(FN c.witnesses x h.2).1,(FN c.witnesses x h.2).2];cases b<;>cases (x==c.primary)<;>cases decide (x∈c.replicas)<;>cases decide (x∈c.witnesses)<;>exact⟨_,rfl,rfl,by decide⟩
end
section
theorem Fx{c:om}(h:GO 1048576 c):GO maxLen c:=⟨Fq h.1,Fq h.2⟩
theorem Iu{m:kB}(h:MS 1048576 m):MS maxLen m:=⟨Fq h.1,λc hc=>Fx (h.2 c hc)⟩
theorem OO(c:om)(h:GO maxLen c):It c=some (decide (c=⟨0,0,[],[]⟩),()):=by unfold It;rw[(Ht c _ h).1];rfl
theorem OD(s:qQ)(id:Int)(h:F1 1048576 s):Eh (Fn s id) (Hj s id):=by
 have hc:=Fx h.1;unfold Fn Hj;simp only[FW,K9,ak,Fc];cases HK s.version 1 2 with
 |false=>exact⟨_,rfl,rfl⟩
 |true=>
 cases HK s.epoch 0 20 with
 |false=>exact⟨_,rfl,rfl⟩
 |true=>
 rcases isLog s.log (Fq h.2.1) with ⟨a1,a2,a3⟩| ⟨a1,a2⟩
 case inr=>simp only[a1,a2,ak,DG,CS];exact⟨_,rfl,rfl⟩
 rcases isLog s.learned (Fq h.2.2) with ⟨b1,b2,b3⟩| ⟨b1,b2⟩
 case inr=>simp only[a1,a2,b1,b2,ak,DG,CS];exact⟨_,rfl,rfl⟩
 simp only[a1,a2,b1,b2,ak,DG];cases hw:HK s.first 0 16 with
 |false=>exact⟨_,rfl,rfl⟩
 |true=>
 have hf:=Fi.1 hw;rw[of (n:=s.first+(s.log.length:Int)) (by omega) (by omega)];by_cases h16:s.first+(s.log.length:Int)<=16
 case neg=>
  have e1:HK (s.first+(s.log.length:Int)) 0 16=false:=by unfold HK;simp;omega
  simp only[e1,DG,CS,j6,if_pos (show s.first+(s.log.length:Int)>16 by omega)];exact⟨_,rfl,rfl⟩
 have e1:HK (s.first+(s.log.length:Int)) 0 16=true:=Fi.2 ⟨by omega,h16⟩;simp only[e1,DG,j6,if_neg (show ¬s.first+(s.log.length:Int)>16 by omega),OO s.config hc,(Ht s.config ⟨0,0,[],[]⟩ hc).2,ak];cases HK s.commit 0 (s.first+(s.log.length:Int)) with
 |false=>exact⟨_,rfl,rfl⟩
 |true=>
 simp only[DG];by_cases hz:s.config=⟨0,0,[],[]⟩
 ·simp only[if_pos hz];cases (s.first==0)<;>cases (s.commit==0)<;>cases ((s.log.length:Int)==0)<;>exact⟨_,rfl,rfl⟩
 ·simp only[if_neg hz];cases s.intact with
  |false=>exact⟨_,rfl,rfl⟩
  |true=>
  simp only[DG];by_cases he:s.epoch<s.config.epoch
  ·simp only[if_pos he];exact⟨_,rfl,rfl⟩
  ·simp only[if_neg he];obtain⟨n,n1,n2⟩:=M9 s.log (Fq h.2.1);simp only[n1,n2,ak];by_cases hn:n>s.config.epoch
   ·simp only[if_pos hn];exact⟨_,rfl,rfl⟩
   ·simp only[if_neg hn];obtain⟨r,r1,r2,r3⟩:=PE s.config id hc;simp only[r1,r2,ak];rcases r3 with rfl|rfl|rfl|rfl
    ·exact⟨_,rfl,rfl⟩
    ·exact⟨_,rfl,rfl⟩
    ·exact⟨_,rfl,rfl⟩
    ·have ht:LO s.first s.log=some (decide ((s.log.length:Int)<=3)&&((s.first==0)||((s.log.length:Int)==3)),()):=by
      unfold LO;simp only[a2,K9,ak,DG,j6];rw[of (by omega) (by omega),show HK s.first 0 (16-(s.log.length:Int))=true from Fi.2 ⟨by omega,by omega⟩];by_cases h3: (s.log.length:Int)<=3
      ·rw[if_pos h3,decide_eq_true h3];cases (s.first==0)<;>cases ((s.log.length:Int)==3)<;>rfl
      ·rw[if_neg h3,decide_eq_false h3];rfl
     rw[ht];by_cases h3: (s.log.length:Int)<=3
     ·rw[if_pos h3,decide_eq_true h3];cases (s.first==0)<;>cases ((s.log.length:Int)==3)<;>exact⟨_,rfl,rfl⟩
     ·rw[if_neg h3,decide_eq_false h3];exact⟨_,rfl,rfl⟩
theorem PI(m:kB)(e:Int)(h:MS 1048576 m): ∃c b,Ha m e=some (c,b,())/\IB m e=some (c,b,())/\GO maxLen c:=by
 obtain⟨b,m1,m2⟩:=masterLog m (Iu h);have zero:GO maxLen ⟨0,0,[],[]⟩:=⟨bH _,bH _⟩
 have hl:=h.1;unfold Ha IB;simp only[m1,m2,FW,K9,ak,Fc];cases b with
 |false=>exact⟨_,_,rfl,rfl,zero⟩
 |true=>
  cases hw:HK e 1 (m.configs.length:Int) with
  |false=>exact⟨_,_,rfl,rfl,zero⟩
  |true=>
   have hw:=Fi.1 hw;simp only[DG];rw[of (n:=e-1) (by omega) (by omega)];have hlt: (e-1).toNat<m.configs.length:=by omega
   have hk:=h.2 _ (dq hlt)
   have copy: ∀c:om,GO 1048576 c->H0 c=some (c,())/\Gt c=some (c,()):=by intro c hc;unfold H0 Gt;simp only[bK];rw[jq (Iy hc.1),jq (Iy hc.2)];exact⟨rfl,rfl⟩
   rw[jq (by omega),jq (by omega),an hlt];simp only[ak,(copy _ hk).1,(copy _ hk).2];exact⟨_,_,rfl,rfl,Fx hk⟩
theorem F6(x:qN)(h:F0 1048576 x):Eh (Fd x) (Gh x):=by
 obtain⟨⟨hs1,hs2⟩,hsd,hml,hpl⟩:=h;have hm:=Fq hs1
 have fm:=DL (B1:=Fr) (B2:=GG) x.servers.length (λk=>(((),(k:Int),()),((x.now,x.servers,x.sides,x.master.configs,x.master.activated,x.masterUp,x.lease.epoch,x.lease.holder,x.lease.ends,x.places,()),()),())) (λk=>(((),x.servers,(x.servers.length:Int),(k:Int),()),((x.now,x.servers,x.sides,x.master.configs,x.master.activated,x.masterUp,x.lease.epoch,x.lease.holder,x.lease.ends,x.places,()),()),())) (.inr (((),()),(),())) (.inr (((),()),(),())) (λ_=> .inl ((false,()),(),())) (λ_=> .inl ((false,()),(),()))
  (λ_=>True) (λ_=>True)
  (by simp only[Fr];rw[j6,if_neg (by omega)])
  (by simp only[GG];rw[j6,if_neg (by omega)])
  (λk hk=>by
    have c1: (k:Int)< (x.servers.length:Int):=by omega
    have c2: (0:Int)<=(k:Int):=by omega
    have hsk:=hs2 _ (dq hk);obtain⟨b,v1,v2⟩:=OD x.servers[k] (k:Int) hsk;obtain⟨n,n1,n2⟩:=M9 x.servers[k].learned (Fq hsk.2.2);obtain⟨c,d,d1,d2,d3⟩:=PI x.master x.servers[k].config.epoch hml;have hcfg:=Fx hsk.1
    simp only[Fr,GG,j6,C7,if_pos c1,if_pos c2,cO,an hk,ak,v1,v2,n1,n2,kT hm hk,Fc,
     show (⟨x.master.configs,x.master.activated⟩:kB)=x.master from rfl,d1,d2,OO _ hcfg,(Ht _ (⟨0,0,[],[]⟩:om) hcfg).2,(Ht c x.servers[k].config d3).1,(Ht c x.servers[k].config d3).2]
    cases b with
    |false=>exact .inr ⟨rfl,rfl,trivial⟩
    |true=>
     simp only[DG];by_cases h1:x.servers[k].epoch>(x.master.configs.length:Int)
     ·simp only[if_pos h1];exact .inr ⟨trivial,trivial,trivial⟩
     ·simp only[if_neg h1];by_cases h2:n>x.master.activated
      ·simp only[if_pos h2];exact .inr ⟨trivial,trivial,trivial⟩
      ·simp only[if_neg h2];by_cases h3:x.servers[k].config=⟨0,0,[],[]⟩
       ·simp only[if_pos h3];exact .inl ⟨trivial,trivial,trivial⟩
       ·simp only[if_neg h3];cases d with
        |false=>exact .inr ⟨rfl,rfl,trivial⟩
        |true=>
         simp only[DG];by_cases h4:c=x.servers[k].config
         ·simp only[if_pos h4];by_cases h5:x.servers[k].config.epoch>x.master.activated
          ·simp only[if_pos h5];exact .inr ⟨trivial,trivial,trivial⟩
          ·simp only[if_neg h5];exact .inl ⟨trivial,trivial,trivial⟩
         ·simp only[if_neg h4];exact .inr ⟨trivial,trivial,trivial⟩)
 unfold Fd Gh;obtain⟨b1,a1,a2⟩:=NU x.sides (Fq hsd);obtain⟨b2,m1,m2⟩:=masterLog x.master (Iu hml);obtain⟨b3,l1,l2⟩:=OL x.lease;obtain⟨b4,p1,p2⟩:=MT x.places (Fq hpl);simp only[FW,K9,a1,a2,m1,m2,l1,l2,p1,p2,ak,Fc,j6];cases HK x.now 0 999 with
 |false=>exact⟨_,rfl,rfl⟩
 |true=>
 cases ((x.servers.length:Int)==5) with
 |false=>exact⟨_,rfl,rfl⟩
 |true=>
 cases b1 with
 |false=>exact⟨_,rfl,rfl⟩
 |true=>
 cases b2 with
 |false=>exact⟨_,rfl,rfl⟩
 |true=>
 cases HK x.masterUp 0 3 with
 |false=>cases b3<;>cases b4<;>exact⟨_,rfl,rfl⟩
 |true=>
 cases b3 with
 |false=>exact⟨_,rfl,rfl⟩
 |true=>
 cases b4 with
 |false=>exact⟨_,rfl,rfl⟩
 |true=>
 simp only[DG];by_cases h1:x.lease.epoch>x.master.activated
 ·simp only[if_pos h1];exact⟨_,rfl,rfl⟩
 ·simp only[if_neg h1];rcases fm with ⟨k1,k2,_⟩| ⟨k,_,k1,k2,_⟩
  ·rw[show Ia (((),0,()),((x.now,x.servers,x.sides,x.master.configs,x.master.activated,x.masterUp,x.lease.epoch,x.lease.holder,x.lease.ends,x.places,()),()),())=_ from k1,show Jt (((),x.servers,(x.servers.length:Int),0,()),((x.now,x.servers,x.sides,x.master.configs,x.master.activated,x.masterUp,x.lease.epoch,x.lease.holder,x.lease.ends,x.places,()),()),())=_ from k2];exact⟨_,rfl,rfl⟩
  ·rw[show Ia (((),0,()),((x.now,x.servers,x.sides,x.master.configs,x.master.activated,x.masterUp,x.lease.epoch,x.lease.holder,x.lease.ends,x.places,()),()),())=_ from k1,show Jt (((),x.servers,(x.servers.length:Int),0,()),((x.now,x.servers,x.sides,x.master.configs,x.master.activated,x.masterUp,x.lease.epoch,x.lease.holder,x.lease.ends,x.places,()),()),())=_ from k2];exact⟨_,rfl,rfl⟩
end
section
theorem LL{c:om}(h:GO maxLen c)(hv:Fh c=some (true,())):Mw c.replicas/\Mw c.witnesses/\c.primary∈c.replicas/\1<=c.epoch/\c.epoch<=20/\ ∀x∈c.replicas,x∉c.witnesses:=by
 unfold Fh at hv;simp only[FW,ak] at hv;cases hw:HK c.epoch 1 20 with
 |false=>rw[hw] at hv;cases hv
 |true=>
  rw[hw] at hv;rcases Ns c.replicas h.1 with ⟨a1,a2,a3⟩| ⟨a1,a2⟩
  ·rcases Ns c.witnesses h.2 with ⟨b1,b2,b3⟩| ⟨b1,b2⟩
   ·simp only[a1,b1,ak,DG,(FN c.replicas c.primary h.1).1,Qk _ _ a3 h.2,j6] at hv;by_cases hp:c.primary∈c.replicas
    ·rw[if_pos hp] at hv;refine⟨a3,b3,hp,(Fi.1 hw).1,(Fi.1 hw).2,λx hx hxw=> ?_⟩
     have hz: ((((c.replicas.filter λx=>decide (x∈c.witnesses)).length:Nat):Int)==0)=true:=by simpa using hv
     have hz: (c.replicas.filter λx=>decide (x∈c.witnesses)).length=0:=by simp only[beq_iff_eq] at hz;omega
     have:=bh hz;have hm:x∈c.replicas.filter λx=>decide (x∈c.witnesses):=by simp[EU,hx,hxw]
     rw[this] at hm;cases hm
    ·rw[if_neg hp] at hv;cases hv
   ·simp only[a1,b1,ak,DG,CS] at hv;cases hv
  ·simp only[a1,ak,DG,CS] at hv;cases hv
theorem Ry{m:kB}(h:MS maxLen m)(hv:FK m=some (true,())): (∀k (hk:k<m.configs.length),Fh m.configs[k] =some (true,())/\m.configs[k].epoch=(k:Int)+1)/\0<=m.activated/\m.activated<=(m.configs.length:Int):=by
 obtain⟨hl,hc⟩:=h
 have fm:=DL (B1:=FH) (B2:=FH) m.configs.length (λk=>(((),(k:Int),()),((m.configs,m.activated,()),()),())) (λk=>(((),(k:Int),()),((m.configs,m.activated,()),()),())) (.inr (((),(),()),((m.configs,m.activated,()),()),())) (.inr (((),(),()),((m.configs,m.activated,()),()),())) (λ_=> .inl (((),false,()),((m.configs,m.activated,()),()),())) (λ_=> .inl (((),false,()),((m.configs,m.activated,()),()),()))
  (λk=> ∀hk:k<m.configs.length,Fh m.configs[k] =some (true,())/\m.configs[k].epoch=(k:Int)+1) (λ_=>True)
  (by simp only[FH];rw[j6,if_neg (by omega)])
  (by simp only[FH];rw[j6,if_neg (by omega)])
  (λk hk=>by
    have c1: (k:Int)< (m.configs.length:Int):=by omega
    have c2: (0:Int)<=(k:Int):=by omega
    obtain⟨b,v1,v2⟩:=JF m.configs[k] (hc _ (dq hk))
    have step:FH (((),(k:Int),()),((m.configs,m.activated,()),()),())=br b (br (m.configs[k].epoch==((k+1:Nat):Int)) (some (.inl (((),((k+1:Nat):Int),()),((m.configs,m.activated,()),()),()))) (some (.inr (.inl (((),false,()),((m.configs,m.activated,()),()),()))))) (some (.inr (.inl (((),false,()),((m.configs,m.activated,()),()),())))):=by simp only[FH,j6,C7,if_pos c1,if_pos c2,cO,an hk,ak,v1,kT hl hk,Fc]
    rw[step];cases b with
    |false=>exact .inr ⟨rfl,rfl,trivial⟩
    |true=>
     rw[DG,LK];by_cases he:m.configs[k].epoch=((k+1:Nat):Int)
     ·rw[if_pos he];exact .inl ⟨rfl,rfl,λ_=>⟨v1,by omega⟩⟩
     ·rw[if_neg he];exact .inr ⟨rfl,rfl,trivial⟩)
 unfold FK at hv;rcases fm with ⟨k1,_,k3⟩| ⟨k,_,k1,_,_⟩
 ·rw[show Ik (((),0,()),((m.configs,m.activated,()),()),())=_ from k1] at hv;simp only[ak,EV,FW,af,au,and_true] at hv;exact⟨λk hk=>k3 k hk hk,(Fi.1 hv).1,(Fi.1 hv).2⟩
 ·rw[show Ik (((),0,()),((m.configs,m.activated,()),()),())=_ from k1] at hv;cases hv
theorem Sz{s:qQ}{id:Int}(h:F1 1048576 s)(hv:Fn s id=some (true,())):0<=s.first/\s.first<=16/\s.log.length<=16/\0<=s.commit/\s.commit<=s.first+(s.log.length:Int)/\Gk s.log=some (true,())/\Gk s.learned=some (true,())/\0<=s.epoch/\s.epoch<=20:=by
 unfold Fn at hv;simp only[FW,ak,Fc] at hv;cases h1:HK s.version 1 2 with
 |false=>rw[h1] at hv;cases hv
 |true=>
 cases h2:HK s.epoch 0 20 with
 |false=>rw[h1,h2] at hv;cases hv
 |true=>
 rw[h1,h2] at hv;rcases isLog s.log (Fq h.2.1) with ⟨a1,a2,a3⟩| ⟨a1,a2⟩
 case inr=>simp only[a1,ak,DG,CS] at hv;cases hv
 rcases isLog s.learned (Fq h.2.2) with ⟨b1,b2,b3⟩| ⟨b1,b2⟩
 case inr=>simp only[a1,b1,ak,DG,CS] at hv;cases hv
 simp only[a1,b1,ak,DG] at hv;cases hw:HK s.first 0 16 with
 |false=>rw[hw] at hv;cases hv
 |true=>
 have hf:=Fi.1 hw;rw[hw,of (n:=s.first+(s.log.length:Int)) (by omega) (by omega)] at hv;simp only[DG] at hv;cases h3:HK (s.first+(s.log.length:Int)) 0 16 with
 |false=>rw[h3] at hv;cases hv
 |true=>
 cases h4:HK s.commit 0 (s.first+(s.log.length:Int)) with
 |false=>rw[h3,h4] at hv;cases hv
 |true=>
 exact⟨hf.1,hf.2,a3,(Fi.1 h4).1,(Fi.1 h4).2,a1,b1,(Fi.1 h2).1,(Fi.1 h2).2⟩
structure VC (x:qN):Prop where
 len:x.servers.length=5
 ml:FK x.master=some (true,())
 sides:G8 x.sides=some (true,())
 places:FG x.places=some (true,())
 lease:HY x.lease=some (true,())
 now:0<=x.now/\x.now<=999
 up:0<=x.masterUp/\x.masterUp<=3
 srv: ∀k (hk:k<x.servers.length),Fn x.servers[k] (k:Int)=some (true,())
theorem FX{x:qN}(h:F0 1048576 x)(hv:Fd x=some (true,())):VC x:=by
 obtain⟨⟨hs1,hs2⟩,hsd,hml,hpl⟩:=h;have hm:=Fq hs1
 have fm:=DL (B1:=Fr) (B2:=Fr) x.servers.length (λk=>(((),(k:Int),()),((x.now,x.servers,x.sides,x.master.configs,x.master.activated,x.masterUp,x.lease.epoch,x.lease.holder,x.lease.ends,x.places,()),()),())) (λk=>(((),(k:Int),()),((x.now,x.servers,x.sides,x.master.configs,x.master.activated,x.masterUp,x.lease.epoch,x.lease.holder,x.lease.ends,x.places,()),()),())) (.inr (((),()),(),())) (.inr (((),()),(),())) (λ_=> .inl ((false,()),(),())) (λ_=> .inl ((false,()),(),()))
  (λk=> ∀hk:k<x.servers.length,Fn x.servers[k] (k:Int)=some (true,())) (λ_=>True)
  (by simp only[Fr];rw[j6,if_neg (by omega)])
  (by simp only[Fr];rw[j6,if_neg (by omega)])
  (λk hk=>by
    have c1: (k:Int)< (x.servers.length:Int):=by omega
    have c2: (0:Int)<=(k:Int):=by omega
    have hsk:=hs2 _ (dq hk);obtain⟨b,v1,v2⟩:=OD x.servers[k] (k:Int) hsk;obtain⟨n,n1,n2⟩:=M9 x.servers[k].learned (Fq hsk.2.2);obtain⟨c,d,d1,d2,d3⟩:=PI x.master x.servers[k].config.epoch hml;have hcfg:=Fx hsk.1
    have step:Fr (((),(k:Int),()),((x.now,x.servers,x.sides,x.master.configs,x.master.activated,x.masterUp,x.lease.epoch,x.lease.holder,x.lease.ends,x.places,()),()),())=some (.inr (.inl ((false,()),(),())))\/(b=true/\Fr (((),(k:Int),()),((x.now,x.servers,x.sides,x.master.configs,x.master.activated,x.masterUp,x.lease.epoch,x.lease.holder,x.lease.ends,x.places,()),()),())=some (.inl (((),((k+1:Nat):Int),()),((x.now,x.servers,x.sides,x.master.configs,x.master.activated,x.masterUp,x.lease.epoch,x.lease.holder,x.lease.ends,x.places,()),()),()))):=by
     simp only[Fr,j6,C7,if_pos c1,if_pos c2,cO,an hk,ak,v1,n1,kT hm hk,Fc,
      show (⟨x.master.configs,x.master.activated⟩:kB)=x.master from rfl,d1,OO _ hcfg,(Ht c x.servers[k].config d3).1]
     cases b with
     |false=>exact .inl rfl
     |true=>
      simp only[DG]
      repeat' split
      all_goals first |exact .inl trivial|exact .inr ⟨trivial,trivial⟩| (cases d<;>first |exact .inl rfl| (simp only[DG];repeat' split)<;>first |exact .inl trivial|exact .inr ⟨trivial,trivial⟩)
    rcases step with h1| ⟨rfl,h1⟩
    ·rw[h1];exact .inr ⟨rfl,rfl,trivial⟩
    ·rw[h1];exact .inl ⟨rfl,rfl,λ_=>v1⟩)
 unfold Fd at hv;obtain⟨b1,a1,a2⟩:=NU x.sides (Fq hsd);obtain⟨b2,m1,m2⟩:=masterLog x.master (Iu hml);obtain⟨b3,l1,l2⟩:=OL x.lease;obtain⟨b4,p1,p2⟩:=MT x.places (Fq hpl);simp only[FW,a1,m1,l1,p1,ak,Fc,j6] at hv;cases h1:HK x.now 0 999 with
 |false=>rw[h1] at hv;cases hv
 |true=>
 cases h2: ((x.servers.length:Int)==5) with
 |false=>rw[h1,h2] at hv;cases hv
 |true=>
 cases b1 with
 |false=>rw[h1,h2] at hv;cases hv
 |true=>
 cases b2 with
 |false=>rw[h1,h2] at hv;cases hv
 |true=>
 cases h3:HK x.masterUp 0 3 with
 |false=>rw[h1,h2,h3] at hv;cases hv
 |true=>
 cases b3 with
 |false=>rw[h1,h2,h3] at hv;cases hv
 |true=>
 cases b4 with
 |false=>rw[h1,h2,h3] at hv;cases hv
 |true=>
 rw[h1,h2,h3] at hv;simp only[DG] at hv;by_cases h4:x.lease.epoch>x.master.activated
 ·rw[if_pos h4] at hv;cases hv
 ·rw[if_neg h4] at hv;rcases fm with ⟨k1,_,k3⟩| ⟨k,_,k1,_,_⟩
  ·refine⟨?_,m1,a1,p1,l1,Fi.1 h1,Fi.1 h3,λk hk=>k3 k hk hk⟩;simp only[beq_iff_eq] at h2;omega
  ·rw[show Ia (((),0,()),((x.now,x.servers,x.sides,x.master.configs,x.master.activated,x.masterUp,x.lease.epoch,x.lease.holder,x.lease.ends,x.places,()),()),())=_ from k1] at hv;cases hv
end
section

end
section
section
variable {α:Type}
def Tz(G:α->Int->α)(w:α->Int):List α->Int->List α
 | [],_=> []
 |x::l,n=>G x n::Tz G w l (n+w x)
def PF(l:List α):Int:=(l.length:Int)
end
end
section
def mI(l:List Int)(n:Int):List Int:=Tz (λ_ n=>n) (λ_=>1) l n
def Yr(n:Int):sf:=⟨n,⟨n+1,n+2,n+3,n+4,n+5,n+6⟩⟩
def mE(l:List sf)(n:Int):List sf:=Tz (λ_ n=>Yr n) (λ_=>7) l n
def wS(s:qQ):Int:=8+PF s.config.replicas+PF s.config.witnesses+7*PF s.log+7*PF s.learned
def gSv(s:qQ)(n:Int):qQ:=
 ⟨Int.tmod n 3==0,Int.tmod (n+1) 3==0,n+2,n+3,⟨n+4,n+5,mI s.config.replicas (n+6),mI s.config.witnesses (n+6+PF s.config.replicas)⟩,n+6+PF s.config.replicas+PF s.config.witnesses,mE s.log (n+6+PF s.config.replicas+PF s.config.witnesses+1),n+6+PF s.config.replicas+PF s.config.witnesses+1+7*PF s.log,mE s.learned (n+6+PF s.config.replicas+PF s.config.witnesses+1+7*PF s.log+1)⟩
def mS(l:List qQ)(n:Int):List qQ:=Tz gSv wS l n
end
section
theorem QH{n c:Nat}(h:n<=1048577)(hc:c<=1000):n*c<=2 ^ 40:=by
 have h1:n*c<=1048577*1000:=Nat.mul_le_mul h hc;have h2: (2:Nat) ^ 40=1099511627776:=by decide
 omega
theorem OF(c:om)(h:GO 1048576 c):H0 c=some (c,())/\Gt c=some (c,()):=by have a:=h.1;have b:=h.2;unfold H0 Gt;simp only[bK,C7,if_pos (QH (ES a) (show 8<=1000 by decide)),if_pos (QH (ES b) (show 8<=1000 by decide))];exact⟨trivial,trivial⟩
theorem KL(l:List sf)(h:l.length<=1048576):Gj l=some (l,())/\FZ l=some (l,()):=by unfold Gj FZ;simp only[bK,C7,if_pos (QH (ES h) (show 56<=1000 by decide))];exact⟨trivial,trivial⟩
theorem Yq(l:List Int)(h:l.length<=1048576):IZ l=some (l,()):=by unfold IZ;simp only[C7,if_pos (QH (ES h) (show 8<=1000 by decide))]
theorem Vb(l:List vB)(h:l.length<=1048576):L4 l=some (l,()):=by unfold L4;simp only[C7,if_pos (QH (ES h) (show 24<=1000 by decide))]
theorem Rx(s:qQ)(h:F1 1048576 s):Ho s=some (s,())/\Nx s=some (s,()):=by unfold Ho Nx;simp only[(OF _ h.1).1,(OF _ h.1).2,(KL _ h.2.1).1,(KL _ h.2.1).2,(KL _ h.2.2).1,(KL _ h.2.2).2,ak];exact⟨trivial,trivial⟩
theorem HI{α:Type}{l:List α}{k:Nat}{x:α}(h:l[k]? =some x):l.take (k+1)=l.take k++ [x] :=by rw[EN,h];rfl
theorem LG{α:Type}(l:List α)(k:Nat)(x:α)(h:l.length<=1048576): (l.take k++ [x]).length<=1048577:=by rw[be,ci,cn];omega
theorem Tw(m:kB)(h:MS 1048576 m):Ko m=some (m,())/\Nw m=some (m,()):=by
 obtain⟨hl,hc⟩:=h
 have k1:=tC (B:=Jv) m.configs (λk (b:List om)=>(((),(),(),(k:Int),()),((m.configs,m.activated,()),((),0,()),((),m.activated,()),()),(b,()))) (λk b=>b=m.configs.take k) (λ_ _ _=>(((),(),()),(((),0,()),((),m.activated,()),()),(m.configs,())))
  (λb hb=>by simp only[Jv];rw[j6,if_neg (by omega),hb,EM])
  (λk b c hx hb=>by
    have hk:=yw hx;have c1: (k:Int)< (m.configs.length:Int):=by omega
    have c2: (0:Int)<=(k:Int):=by omega
    subst hb;refine .inl ⟨m.configs.take (k+1),?_,rfl,rfl⟩;simp only[Jv,j6,C7,if_pos c1,if_pos c2,cO,hx,ak,(OF c (hc c (ay hx))).1,kT (Fq hl) hk,if_pos (QH (LG m.configs k c hl) (show 64<=1000 by decide)),HI hx])
  0 [] (bH _) rfl
 have k2:=tC (B:=JH) m.configs (λk (b:List om)=>(((),(),m.configs,(m.configs.length:Int),(k:Int),()),(((),0,()),((),m.activated,()),()),(b,()))) (λk b=>b=m.configs.take k) (λ_ _ _=>(((),(),()),(((),0,()),((),m.activated,()),()),(m.configs,())))
  (λb hb=>by simp only[JH];rw[j6,if_neg (by omega),hb,EM])
  (λk b c hx hb=>by
    have hk:=yw hx;have c1: (k:Int)< (m.configs.length:Int):=by omega
    have c2: (0:Int)<=(k:Int):=by omega
    subst hb;refine .inl ⟨m.configs.take (k+1),?_,rfl,rfl⟩;simp only[JH,j6,C7,if_pos c1,if_pos c2,cO,hx,ak,(OF c (hc c (ay hx))).2,kT (Fq hl) hk,if_pos (QH (LG m.configs k c hl) (show 64<=1000 by decide)),HI hx])
  0 [] (bH _) rfl
 unfold Ko Nw;rw[show QU (((),(),(),0,()),((m.configs,m.activated,()),((),0,()),((),m.activated,()),()),(([]:List om),()))=_ from k1,show Od (((),(),m.configs,(m.configs.length:Int),0,()),(((),0,()),((),m.activated,()),()),(([]:List om),()))=_ from k2];exact⟨rfl,rfl⟩
theorem HF(x:qN)(ok:F0 1048576 x):Fw x=some (x,())/\OX x=some (x,()):=by
 obtain⟨⟨hl,hs⟩,hsd,hml,hpl⟩:=ok
 have k1:=tC (B:=Jw) x.servers (λk (b:List qQ)=>(((),(),(),(k:Int),()),((x.now,x.servers,x.sides,x.master.configs,x.master.activated,x.masterUp,x.lease.epoch,x.lease.holder,x.lease.ends,x.places,()),(0,(),(),(),0,0,0,0,0,(),()),(x.now,(),x.sides,x.master.configs,x.master.activated,x.masterUp,x.lease.epoch,x.lease.holder,x.lease.ends,x.places,()),()),(b,()))) (λk b=>b=x.servers.take k) (λ_ _ _=>(((),(),(),()),((x.now,x.servers,x.sides,x.master.configs,x.master.activated,x.masterUp,x.lease.epoch,x.lease.holder,x.lease.ends,x.places,()),(0,(),(),(),0,0,0,0,0,(),()),(x.now,(),x.sides,x.master.configs,x.master.activated,x.masterUp,x.lease.epoch,x.lease.holder,x.lease.ends,x.places,()),()),(x.servers,())))
  (λb hb=>by simp only[Jw];rw[j6,if_neg (by omega),hb,EM])
  (λk b c hx hb=>by
    have hk:=yw hx;have c1: (k:Int)< (x.servers.length:Int):=by omega
    have c2: (0:Int)<=(k:Int):=by omega
    subst hb;refine .inl ⟨x.servers.take (k+1),?_,rfl,rfl⟩;simp only[Jw,j6,C7,if_pos c1,if_pos c2,cO,hx,ak,(Rx c (hs c (ay hx))).1,kT (Fq hl) hk,if_pos (QH (LG x.servers k c hl) (show 152<=1000 by decide)),HI hx])
  0 [] (bH _) rfl
 have k2:=tC (B:=Jf) x.servers (λk (b:List qQ)=>(((),(),(),x.servers,(x.servers.length:Int),(k:Int),()),((x.now,x.servers,x.sides,x.master.configs,x.master.activated,x.masterUp,x.lease.epoch,x.lease.holder,x.lease.ends,x.places,()),(0,(),(),(),0,0,0,0,0,(),()),(x.now,(),x.sides,x.master.configs,x.master.activated,x.masterUp,x.lease.epoch,x.lease.holder,x.lease.ends,x.places,()),()),(b,()))) (λk b=>b=x.servers.take k) (λ_ _ _=>(((),(),(),()),((x.now,x.servers,x.sides,x.master.configs,x.master.activated,x.masterUp,x.lease.epoch,x.lease.holder,x.lease.ends,x.places,()),(0,(),(),(),0,0,0,0,0,(),()),(x.now,(),x.sides,x.master.configs,x.master.activated,x.masterUp,x.lease.epoch,x.lease.holder,x.lease.ends,x.places,()),()),(x.servers,())))
  (λb hb=>by simp only[Jf];rw[j6,if_neg (by omega),hb,EM])
  (λk b c hx hb=>by
    have hk:=yw hx;have c1: (k:Int)< (x.servers.length:Int):=by omega
    have c2: (0:Int)<=(k:Int):=by omega
    subst hb;refine .inl ⟨x.servers.take (k+1),?_,rfl,rfl⟩;simp only[Jf,j6,C7,if_pos c1,if_pos c2,cO,hx,ak,(Rx c (hs c (ay hx))).2,kT (Fq hl) hk,if_pos (QH (LG x.servers k c hl) (show 152<=1000 by decide)),HI hx])
  0 [] (bH _) rfl
 unfold Fw OX
 rw[show QV (((),(),(),0,()),((x.now,x.servers,x.sides,x.master.configs,x.master.activated,x.masterUp,x.lease.epoch,x.lease.holder,x.lease.ends,x.places,()),(0,(),(),(),0,0,0,0,0,(),()),(x.now,(),x.sides,x.master.configs,x.master.activated,x.masterUp,x.lease.epoch,x.lease.holder,x.lease.ends,x.places,()),()),(([]:List qQ),()))=_ from k1,
  show NM (((),(),(),x.servers,(x.servers.length:Int),0,()),((x.now,x.servers,x.sides,x.master.configs,x.master.activated,x.masterUp,x.lease.epoch,x.lease.holder,x.lease.ends,x.places,()),(0,(),(),(),0,0,0,0,0,(),()),(x.now,(),x.sides,x.master.configs,x.master.activated,x.masterUp,x.lease.epoch,x.lease.holder,x.lease.ends,x.places,()),()),(([]:List qQ),()))=_ from k2]
 have em: (⟨x.master.configs,x.master.activated⟩:kB)=x.master:=rfl;simp only[ak,bK,em,(Tw _ hml).1,(Tw _ hml).2,Yq _ hsd,Vb _ hpl,C7,if_pos (QH (ES hsd) (show 8<=1000 by decide)),if_pos (QH (ES hpl) (show 24<=1000 by decide))];exact⟨trivial,trivial⟩
theorem RC(x:qN)(id:Int)(ok:F0 1048576 x): ∃b,Hp x id=some (b,())/\FA x id=some (b,())/\(b=true->Fd x=some (true,())/\0<=id/\id<5):=by
 obtain⟨v,v1,v2⟩:=F6 x ok;unfold Hp FA;simp only[v1,v2,ak,FW,K9];cases v with
 |false=>exact⟨false,rfl,rfl,nofun⟩
 |true=>refine⟨HK id 0 4,rfl,rfl,λh=>⟨rfl,?_⟩⟩;have:=Fi.1 h;omega
end
section

end
section
def SS(l:List Int):Prop:=l.Pairwise (· < ·)
theorem Yh{A B:List Int}{x:Int}(h:SS (A++B))(ha: ∀y∈A,y<x)(hb: ∀y∈B,x<y):SS (A++ [x] ++B):=by
 obtain⟨h1,h2,h3⟩:=EY.1 h;refine EY.2 ⟨EY.2 ⟨h1,E0 _ _,λa h b hb'=> ?_⟩,h2,λa h b hb'=> ?_⟩
 ·rw[aJ.1 hb'];exact ha a h
 ·rcases bi.1 h with h|h
  ·exact h3 a h b hb'
  ·rw[aJ.1 h];exact hb b hb'
theorem YR(l:List Int)(x:Int)(hl:l.length<=1000)(hs:SS l): ∃r,HL l x=some (r,())/\SS r/\(∀y,y∈r↔y=x\/y∈l)/\r.length<=l.length+1/\(x∉l->r.length=l.length+1):=by
 have hm:l.length<=maxLen:=by unfold maxLen;omega
 rcases Na (B:=IW) l.length (λk=>((l,x,(k:Int),()),(),())) ((l,x,(l.length:Int),()),(),()) (λk=>((l,x,(k:Int),()),(),())) (λk=>match l[k]? with |some y=> !decide (y<x)|none=>false)
  (by simp only[IW];rw[j6,if_neg (by omega)])
  (λk hk=>by
    have c1: (k:Int)< (l.length:Int):=by omega
    have c2: (0:Int)<=(k:Int):=by omega
    simp only[IW,j6,C7,if_pos c1,if_pos c2,cO,an hk,ak,kT hm hk];by_cases h:l[k]<x<;>simp[h]) with ⟨k1,k2⟩| ⟨i,hi,k1,k2,k3⟩
 ·have all: ∀y∈l,y<x:=by
   intro y hy;obtain⟨k,hk,rfl⟩:=aQ hy;have:=k2 k hk;rw[an hk] at this;simpa using this
  refine⟨l++ [x],Ue l x hl all,?_,?_,?_,λ_=>by simp⟩
  ·have:=Yh (A:=l) (B:=[]) (x:=x) (by simpa using hs) all (by simp);simpa using this
  ·intro y;simp[or_comm]
  ·simp
 ·rw[an hi] at k2;simp only[bT,decide_eq_false_iff_not,Int.not_lt] at k2
  have lt: ∀y∈l.take i,y<x:=by
   intro y hy;obtain⟨j,hj,rfl⟩:=aQ hy;have hj':j<i:=by simp at hj;omega
   have:=k3 j hj';rw[an (by omega)] at this;rw[Fa];simpa using this
  have hd:l.drop i=l[i]::l.drop (i+1):=co hi;have hsp:l.take i++l.drop i=l:=dx i l
  have ge: ∀y∈l.drop i,l[i] <=y:=by
   intro y hy;rw[hd] at hy;rcases aX.1 hy with rfl|hy
   ·exact c9 _
   ·have h2:SS (l.drop i):=List.Pairwise.sublist (List.drop_sublist i l) hs;rw[hd] at h2;exact Int.le_of_lt ((List.pairwise_cons.1 h2).1 y hy)
  unfold HL;rw[show Qw ((l,x,0,()),(),())=_ from k1];have c1: (i:Int)< (l.length:Int):=by omega
  have c2: (0:Int)<=(i:Int):=by omega
  simp only[ak,j6,LK,C7,if_pos c1,if_pos c2,cO,an hi,bK];by_cases he:l[i] =x
  ·simp only[if_pos he,if_pos (Iy (show l.length<=1048576 by omega))];refine⟨l,rfl,hs,λy=>⟨.inr,?_⟩,by omega,λh=>absurd (by rw[<-he];exact dq hi) h⟩
   rintro (rfl|h)
   ·rw[<-he];exact dq hi
   ·exact h
  ·have d1: (0:Int)<=0/\(0:Int)<=(i:Int)/\(i:Int)<=(l.length:Int):=by omega
   have d2: (0:Int)<=(i:Int)/\(i:Int)<=(l.length:Int)/\(l.length:Int)<=(l.length:Int):=by omega
   have e1: (l.drop i).take (l.length-i)=l.drop i:=bS (by simp);simp only[if_neg he,if_pos d1,if_pos d2,EZ,cF,ET,e1];rw[if_pos (Iy (by simp;omega)),if_pos (Iy (by simp;omega)),if_pos (Iy (by simp;omega))];refine⟨_,rfl,Yh (by rw[hsp];exact hs) lt (λy hy=> ?_),λy=> ?_,by simp;omega,λ_=>by simp;omega⟩
   ·have:=ge y hy;omega
   ·conv=>rhs;rw[<-hsp]
    simp only[bi,aJ];constructor
    ·rintro ((h|h)|h)
     ·exact .inr (.inl h)
     ·exact .inl h
     ·exact .inr (.inr h)
    ·rintro (h|h|h)
     ·exact .inl (.inr h)
     ·exact .inl (.inl h)
     ·exact .inr h
theorem ZF{β:Type}(l:List Int)(hl:l.length<=500){mk:Nat->List Int->β}{ε:Type}{B:β->Option (β⊕ε)}{E:List Int->ε}
  (h0: ∀v,B (mk l.length v)=some (.inr (E v)))
  (h1: ∀k v x,l[k]? =some x->B (mk k v)=(HL v x).bind λy=>some (.inl (mk (k+1) y.1)))
  (v:List Int) (hv:SS v) (hvl:v.length<=500): ∃r,md B (mk 0 v)=some (E r)/\SS r/\(∀y,y∈r↔y∈v\/y∈l)/\r.length<=v.length+l.length:=by
 have go: ∀ (n k:Nat) (v:List Int),k+n=l.length->SS v->v.length+n<=1000-> ∃r,md B (mk k v)=some (E r)/\SS r/\(∀y,y∈r↔y∈v\/y∈l.drop k)/\r.length<=v.length+n:=by
  intro n
  induction n with
  |zero=>
   intro k v hk hv _;have :k=l.length:=by omega
   subst this;exact⟨v,me (h0 v),hv,by simp,by omega⟩
  |succ n ih=>
   intro k v hk hv hn;have hlt:k<l.length:=by omega
   obtain⟨r,r1,r2,r3,r4,_⟩:=YR v l[k] (by omega) hv;obtain⟨s,s1,s2,s3,s4⟩:=ih (k+1) r (by omega) r2 (by omega);refine⟨s,?_,s2,λy=> ?_,by omega⟩
   ·rw[tD (by rw[h1 k v _ (an hlt),r1];rfl)];exact s1
   ·rw[s3,r3,co hlt,aX];constructor
    ·rintro ((h|h)|h)
     ·exact .inr (.inl h)
     ·exact .inl h
     ·exact .inr (.inr h)
    ·rintro (h|h|h)
     ·exact .inl (.inr h)
     ·exact .inl (.inl h)
     ·exact .inr h
 obtain⟨r,h1,h2,h3,h4⟩:=go l.length 0 v (by omega) hv (by omega);rw[cF] at h3;exact⟨r,h1,h2,h3,h4⟩
theorem X6(a b:List Int)(ha:a.length<=100)(hb:b.length<=100): ∃r,IH a b=some (r,())/\SS r/\(∀y,y∈r↔y∈a\/y∈b)/\r.length<=a.length+b.length:=by
 have am:a.length<=maxLen:=by unfold maxLen;omega
 have bm:b.length<=maxLen:=by unfold maxLen;omega
 obtain⟨r,r1,r2,r3,r4⟩:=ZF (B:=G1) (mk:=λk v=>((a,b,(),(k:Int),()),(),(v,()))) (E:=λv=>((b,(),()),(),(v,()))) a (by omega)
  (λv=>by simp only[G1];rw[j6,if_neg (by omega)])
  (λk v x hx=>by
    have hk:=yw hx;have c1: (k:Int)< (a.length:Int):=by omega
    have c2: (0:Int)<=(k:Int):=by omega
    simp only[G1,j6,C7,if_pos c1,if_pos c2,cO,hx,ak,kT am hk])
  [] List.Pairwise.nil (bH _)
 obtain⟨s,s1,s2,s3,s4⟩:=ZF (B:=G2) (mk:=λk v=>((b,(),(k:Int),()),(),(v,()))) (E:=λv=>(((),()),(),(v,()))) b (by omega)
  (λv=>by simp only[G2];rw[j6,if_neg (by omega)])
  (λk v x hx=>by
    have hk:=yw hx;have c1: (k:Int)< (b.length:Int):=by omega
    have c2: (0:Int)<=(k:Int):=by omega
    simp only[G2,j6,C7,if_pos c1,if_pos c2,cO,hx,ak,kT bm hk])
  r r2 (by simp at r4;omega)
 unfold IH;rw[show Nc ((a,b,(),0,()),(),([],()))=_ from r1];simp only[ak];rw[show Nd ((b,(),0,()),(),(r,()))=_ from s1];refine⟨s,rfl,s2,λy=> ?_,by simp at r4;omega⟩;rw[s3,r3];simp
end
section
theorem NW(m:kB)(e:Int)(h:MS 1048576 m)(hv:FK m=some (true,())): ∃c b,Ha m e=some (c,b,())/\IB m e=some (c,b,())/\GO maxLen c/\(b=HK e 1 (m.configs.length:Int))/\(b=true->Fh c=some (true,())/\c.epoch=e)/\(b=false->c=⟨0,0,[],[]⟩):=by
 obtain⟨b,m1,m2⟩:=masterLog m (Iu h);rw[hv] at m1;simp only[af,au,and_true] at m1;subst m1;obtain⟨f1,_,_⟩:=Ry (Iu h) hv;have zero:GO maxLen ⟨0,0,[],[]⟩:=⟨bH _,bH _⟩
 have hl:=h.1;unfold Ha IB;simp only[hv,m2,FW,K9,ak,Fc,DG];cases hw:HK e 1 (m.configs.length:Int) with
 |false=>exact⟨_,_,rfl,rfl,zero,rfl,nofun,λ_=>rfl⟩
 |true=>
  have hw:=Fi.1 hw;simp only[DG];rw[of (n:=e-1) (by omega) (by omega)];have hlt: (e-1).toNat<m.configs.length:=by omega
  have hk:=h.2 _ (dq hlt)
  have copy: ∀c:om,GO 1048576 c->H0 c=some (c,())/\Gt c=some (c,()):=by intro c hc;unfold H0 Gt;simp only[bK];rw[jq (Iy hc.1),jq (Iy hc.2)];exact⟨rfl,rfl⟩
  rw[jq (by omega),jq (by omega),an hlt];simp only[ak,(copy _ hk).1,(copy _ hk).2];refine⟨_,_,rfl,rfl,Fx hk,rfl,λ_=>⟨(f1 _ hlt).1,?_⟩,nofun⟩;rw[(f1 _ hlt).2];omega
theorem NF(x:qN)(ok:F0 1048576 x)(hv:Fd x=some (true,())): ∃c b,Fp x.master=some (c,b,())/\FI x.master=some (c,b,())/\GO maxLen c/\(b=decide (x.master.activated>0))/\(b=true->Fh c=some (true,())/\c.epoch=x.master.activated)/\(b=false->c=⟨0,0,[],[]⟩):=by
 have vc:=FX ok hv;obtain⟨_,f2,f3⟩:=Ry (Iu ok.2.2.1) vc.ml;obtain⟨c,b,c1,c2,c3,c4,c5,c6⟩:=NW x.master x.master.activated ok.2.2.1 vc.ml;unfold Fp FI;rw[c1,c2];refine⟨c,b,rfl,rfl,c3,?_,c5,c6⟩;rw[c4];unfold HK;rw[decide_eq_true f3,dj];by_cases h:x.master.activated>0
 ·rw[decide_eq_true h,decide_eq_true (by omega)]
 ·rw[decide_eq_false h,decide_eq_false (by omega)]
end
section
def PR(p:Nat->Bool)(n:Nat):List Int:=((List.range n).filter p).map λ(k:Nat)=>(k:Int)
theorem Uu(p:Nat->Bool)(n:Nat):PR p (n+1)=PR p n++if p n=true then [(n:Int)] else [] :=by
 unfold PR;rw[List.range_succ,EP,bO]
 congr 1
 cases h:p n<;>simp[h]
theorem TA(p:Nat->Bool)(n:Nat)(x:Int):x∈PR p n↔ ∃k:Nat,k<n/\p k=true/\x=(k:Int):=by
 unfold PR;simp only[aI,EU,bC];constructor
 ·rintro⟨k,⟨h1,h2⟩,rfl⟩;exact⟨k,h1,h2,rfl⟩
 ·rintro⟨k,h1,h2,rfl⟩;exact⟨k,⟨h1,h2⟩,rfl⟩
theorem V2(p:Nat->Bool)(n:Nat): (PR p n).length<=n:=by unfold PR;rw[aE];exact ba (EW _ _) (by simp)
theorem V0(p:Nat->Bool){n:Nat}(hn:n<=5):Mw (PR p n):=by
 have hp: (PR p n).Pairwise (· < ·):=by unfold PR;rw[List.pairwise_map];exact (List.Pairwise.filter _ List.pairwise_lt_range).imp λh=>by omega
 intro k hk;have hm: (PR p n)[k] ∈PR p n:=dq hk;obtain⟨j,h1,_,h2⟩:=(TA p n _).1 hm;exact⟨⟨by omega,by omega⟩,λh0=>EO.1 hp (k-1) k (by omega) hk (by omega)⟩
theorem Yw(p q:Nat->Bool)(n:Nat): (PR p n).filter (λx=>decide (x∈PR q n))=PR (λk=>p k&&q k) n:=by
 unfold PR;rw[List.filter_map,List.filter_filter]
 congr 1
 apply List.filter_congr;intro k hk;have hk:=bC.1 hk
 have : (((λx=>decide (x∈PR q n))∘λ(k:Nat)=>(k:Int)) k)=q k:=by
  show decide ((k:Int)∈PR q n)=q k;cases hq:q k with
  |true=>exact decide_eq_true ((TA q n _).2 ⟨k,hk,hq,rfl⟩)
  |false=>
   refine decide_eq_false λh=> ?_;obtain⟨j,_,h1,h2⟩:=(TA q n _).1 h;have :j=k:=by omega
   subst this;rw[hq] at h1;cases h1
 have e:decide ((k:Int)∈List.map (λ(k:Nat)=>(k:Int)) (List.filter q (List.range n)))=q k:=this;simp only[Function.comp,e,Bool.and_comm]
def U6(x:qN)(k:Nat):Bool:=match x.servers[k]? with |some s=>s.up|none=>false
def OC(l:List Int)(k:Nat):Bool:=match l[k]? with |some s=>s==0|none=>false
theorem YY{p:Nat->Bool}{k:Nat}(h:k<=1000)(y:Int): (PR p k++ [y]).length*8<=2 ^ 40:=by have:=V2 p k;refine Iy ?_;rw[be,cn];omega
theorem WX(x:qN)(hl:x.servers.length=5)(hv:Fd x=some (true,())):KY x=some (PR (U6 x) 5,()):=by
 have ex: (⟨x.now,x.servers,x.sides,⟨x.master.configs,x.master.activated⟩,x.masterUp,⟨x.lease.epoch,x.lease.holder,x.lease.ends⟩,x.places⟩:qN)=x:=rfl
 have fm:=tC (B:=Io) x.servers (λk (b:List Int)=>(((),(),(k:Int),()),((x.now,x.servers,x.sides,x.master.configs,x.master.activated,x.masterUp,x.lease.epoch,x.lease.holder,x.lease.ends,x.places,()),()),(b,()))) (λk b=>b=PR (U6 x) k) (λ_ _ _=>(((),()),(),(PR (U6 x) 5,())))
  (λb hb=>by simp only[Io];rw[j6,if_neg (by omega),hb,hl])
  (λk b s hs hb=>by
    have hk:=yw hs;have c1: (k:Int)< (x.servers.length:Int):=by omega
    have c2: (0:Int)<=(k:Int):=by omega
    have hup:U6 x k=s.up:=by unfold U6;rw[hs]
    subst hb;simp only[Io,j6,C7,if_pos c1,if_pos c2,cO,hs,ak,ex,hv,DG,kT (n:=5) (by decide) (by omega:k<5),if_pos (YY (p:=U6 x) (k:=k) (by omega) (k:Int))];refine .inl ⟨PR (U6 x) (k+1),?_,rfl,trivial⟩;rw[Uu,hup];cases s.up
    ·simp;rfl
    ·rfl)
  0 [] (bH _) rfl
 unfold KY;rw[show O3 (((),(),0,()),((x.now,x.servers,x.sides,x.master.configs,x.master.activated,x.masterUp,x.lease.epoch,x.lease.holder,x.lease.ends,x.places,()),()),([],()))=_ from fm];rfl
theorem K8{l:List Int}(hl:l.length<=maxLen)(hv:G8 l=some (true,())):l.length=5:=by
 obtain⟨b,h1,h2⟩:=NU l hl;rw[hv] at h1;simp only[af,au,and_true] at h1;subst h1;unfold Jo at h2;cases h: ((l.length:Int)==5) with
 |false=>rw[h] at h2;cases h2
 |true=>simp only[beq_iff_eq] at h;omega
theorem VN(l:List Int)(hl:l.length=5)(hv:G8 l=some (true,())):JS l=some (PR (OC l) 5,()):=by
 have fm:=tC (B:=HP) l (λk (b:List Int)=>((l,(),(k:Int),()),(),(b,()))) (λk b=>b=PR (OC l) k) (λ_ _ _=>(((),()),(),(PR (OC l) 5,())))
  (λb hb=>by simp only[HP];rw[j6,if_neg (by omega),hb,hl])
  (λk b s hs hb=>by
    have hk:=yw hs;have c1: (k:Int)< (l.length:Int):=by omega
    have c2: (0:Int)<=(k:Int):=by omega
    have hup:OC l k=(s==0):=by unfold OC;rw[hs]
    subst hb;simp only[HP,j6,C7,if_pos c1,if_pos c2,cO,hs,ak,hv,DG,kT (n:=5) (by decide) (by omega:k<5),if_pos (YY (p:=OC l) (k:=k) (by omega) (k:Int))];refine .inl ⟨PR (OC l) (k+1),?_,rfl,trivial⟩;rw[Uu,hup];cases (s==0)
    ·simp;rfl
    ·rfl)
  0 [] (bH _) rfl
 unfold JS;rw[show Of ((l,(),0,()),(),([],()))=_ from fm];rfl
def Tv(x:qN)(k:Nat):Bool:=U6 x k&&OC x.sides k
theorem Z5(x:qN)(ok:F0 1048576 x)(hv:Fd x=some (true,())):LZ x=some (PR (Tv x) 5,()):=by have vc:=FX ok hv;have hsl:=K8 (Fq ok.2.1) vc.sides;unfold LZ;rw[WX x vc.len hv,VN x.sides hsl vc.sides];simp only[ak];rw[Qk _ _ (V0 _ (az 5)) (ba (V2 _ _) (by decide)),Yw];rfl
end
section
def Kb(x:qN)(a:Int):Int:=(x.sides[a.toNat]?).getD 0
theorem Nr(x:qN)(ok:F0 1048576 x)(vc:VC x){a b:Int}(ha:0<=a/\a<5)(hb:0<=b/\b<5):Gv x.sides a b=some (Kb x a==Kb x b,())/\Kh x.sides a b=some (Kb x a==Kb x b,()):=by
 have hl:=Fq ok.2.1;have h5:=K8 hl vc.sides;obtain⟨v,s1,s2⟩:=NU x.sides hl;rw[vc.sides] at s1;simp only[af,au,and_true] at s1;subst s1;have wa:HK a 0 4=true:=Fi.2 (by omega);have wb:HK b 0 4=true:=Fi.2 (by omega);have la:a.toNat<x.sides.length:=by omega
 have lb:b.toNat<x.sides.length:=by omega
 unfold Gv Kh Kb;simp only[vc.sides,s2,FW,K9,wa,wb,ak,DG,C7,if_pos ha.1,if_pos hb.1,an la,an lb,aZ,and_self]
theorem Lo{x:qN}(ok:F0 1048576 x)(vc:VC x){a:Int}(ha:0<=a/\a<5): ∃s,x.servers[a.toNat]? =some s/\F1 1048576 s/\Fn s a=some (true,()):=by
 have hlt:a.toNat<x.servers.length:=by rw[vc.len];omega
 refine⟨_,an hlt,ok.1.2 _ (dq hlt),?_⟩;have:=vc.srv _ hlt
 rwa [Int.toNat_of_nonneg ha.1] at this
theorem Mu(s:qQ)(id:Int)(h:F1 1048576 s): ∃b,Ga s id=some (b,())/\LM s id=some (b,()):=by obtain⟨v,v1,v2⟩:=OD s id h;obtain⟨n,n1,n2,_⟩:=PE s.config id (Fx h.1);unfold Ga LM;simp only[v1,v2,n1,n2,ak];cases v<;>cases s.up<;>cases (n==1)<;>exact⟨_,rfl,rfl⟩
end
section
def PK(s:qQ):List sf:=if HK s.commit s.first (s.first+(s.log.length:Int))=true then s.log.take (s.commit-s.first).toNat else []
theorem Wq(s:qQ)(id:Int)(h:F1 1048576 s)(hv:Fn s id=some (true,())):FB s=some (PK s,())/\Ic s=some (PK s,()):=by
 obtain⟨f1,f2,f3,f4,f5,_⟩:=Sz h hv;unfold FB Ic PK;rw[of (n:=s.first+(s.log.length:Int)) (by omega) (by omega)];simp only[FW,K9,ak,Fc,j6,if_neg (show ¬s.first<0 by omega)];cases hw:HK s.commit s.first (s.first+(s.log.length:Int)) with
 |false=>exact⟨rfl,rfl⟩
 |true=>
  have hw:=Fi.1 hw;have d1: (0:Int)<=0/\(0:Int)<=s.commit-s.first/\s.commit-s.first<=(s.log.length:Int):=by omega
  have hs: (s.log.take (s.commit-s.first).toNat).length*56<=2 ^ 40:=by
   have : (s.log.take (s.commit-s.first).toNat).length<=16:=by simp;omega
   have e: (2:Nat) ^ 40=1099511627776:=by decide
   omega
  simp only[DG,if_true];rw[of (n:=s.commit-s.first) (by omega) (by omega)];simp only[C7,if_pos d1,Gj,FZ,EZ,cF,ET,bK,if_pos hs,ak];exact⟨trivial,trivial⟩
end
section
theorem Z2{s:qQ}{id:Int}(h:F1 1048576 s)(hv:Fn s id=some (true,())):s.config=⟨0,0,[],[]⟩\/Fh s.config=some (true,()):=by
 have hc:=Fx h.1;by_cases hz:s.config=⟨0,0,[],[]⟩
 ·exact .inl hz
 ·right;obtain⟨b,v1,_⟩:=JF s.config hc;cases b with
  |true=>exact v1
  |false=>
   exfalso
   have hr:GV s.config id=some (0,()):=by unfold GV;rw[v1];rfl
   unfold Fn at hv;simp only[FW,ak,Fc,OO s.config hc,hr,j6,if_neg hz] at hv;cases h1:HK s.version 1 2 with
   |false=>rw[h1] at hv;cases hv
   |true=>
   cases h2:HK s.epoch 0 20 with
   |false=>rw[h1,h2] at hv;cases hv
   |true=>
   rcases isLog s.log (Fq h.2.1) with ⟨a1,a2,a3⟩| ⟨a1,a2⟩
   case inr=>simp only[h1,h2,a1,ak,DG,CS] at hv;cases hv
   rcases isLog s.learned (Fq h.2.2) with ⟨b1,b2,b3⟩| ⟨b1,b2⟩
   case inr=>simp only[h1,h2,a1,b1,ak,DG,CS] at hv;cases hv
   obtain⟨n,n1,n2⟩:=M9 s.log (Fq h.2.1);simp only[h1,h2,a1,b1,n1,ak,DG] at hv;cases h3:HK s.first 0 16<;>rw[h3] at hv
   ·cases hv
   ·cases h4:HK (IntKind.wrap .i64 (s.first+(s.log.length:Int))) 0 16<;>rw[h4] at hv
    ·cases hv
    ·cases h5:HK s.commit 0 (IntKind.wrap .i64 (s.first+(s.log.length:Int)))<;>rw[h5] at hv
     ·cases hv
     ·cases h6:s.intact<;>rw[h6] at hv
      ·cases hv
      ·simp only[DG] at hv
       repeat' split at hv
       all_goals cases hv
def data(s:qQ)(id:Int):List sf:=if id∈s.config.replicas then (if (PK s).length>s.learned.length then PK s else s.learned) else s.learned
theorem VY(s:qQ)(id:Int)(h:F1 1048576 s)(hv:Fn s id=some (true,())):Kr s id=some (data s id,())/\Hk s id=some (data s id,()):=by
 have hc:=Fx h.1;obtain⟨p1,p2⟩:=Wq s id h hv
 have hs:s.learned.length*56<=2 ^ 40:=by
  have e: (2:Nat) ^ 40=1099511627776:=by decide
  have:=h.2.2;omega
 have cmp: ((PK s).length:Int)>(s.learned.length:Int)↔(PK s).length>s.learned.length:=by omega
 have hrep:KS s id=some (decide (id∈s.config.replicas),()):=by unfold KS;rw[(FN s.config.replicas id hc.1).2];rfl
 have himpl:Hk s id=some (data s id,()):=by
  unfold Hk FZ data;simp only[p2,hrep,ak,j6,C7,if_pos hs,cmp];split
  ·split<;>rfl
  ·rfl
 refine⟨?_,himpl⟩
 have hrole: ∃r,GV s.config id=some (r,())/\((r=1\/r=2)↔id∈s.config.replicas):=by
  rcases Z2 h hv with hz|hvc
  ·refine⟨0,?_,?_⟩
   ·rw[hz];rfl
   ·rw[hz];simp
  ·obtain⟨_,_,hpr,_⟩:=LL hc hvc;unfold GV;simp only[hvc,ak,Fc,DG,LK,(FN s.config.replicas id hc.1).1,(FN s.config.witnesses id hc.2).1,j6];by_cases h1:id=s.config.primary
   ·rw[if_pos h1];exact⟨1,rfl,by simp[h1,hpr]⟩
   ·rw[if_neg h1];by_cases h2:id∈s.config.replicas
    ·rw[if_pos h2];exact⟨2,rfl,by simp[h2]⟩
    ·rw[if_neg h2];split
     ·exact⟨3,rfl,by simp[h2]⟩
     ·exact⟨0,rfl,by simp[h2]⟩
 obtain⟨r,r1,r2⟩:=hrole;unfold Kr Gj data;simp only[r1,p1,bK,C7,if_pos hs,ak,LK,j6,cmp];by_cases h1:r=1
 ·rw[if_pos h1,if_pos (r2.1 (.inl h1))];split<;>rfl
 ·rw[if_neg h1];by_cases h2:r=2
  ·rw[if_pos h2,if_pos (r2.1 (.inr h2))];split<;>rfl
  ·rw[if_neg h2,if_neg (λh=>by rcases r2.2 h with h|h<;>contradiction)]
end
section
theorem Xe(n:Int)(h0:0<=n)(h1:n<=1000000):H2 n=some ([],()):=by
 unfold H2;have e1:IntKind.wrap .i64 ((0:Int)-0)=0:=of (by decide) (by decide);have e2:IntKind.wrap .i64 (n-0)=n:=by rw[of (by omega) (by omega)];omega
 simp only[e1,e2,j6,if_neg (show ¬n<0 by omega)];by_cases h:n>0
 ·have e: (2:Int) ^ 40=1099511627776:=by decide
  have c1:0<n/\n*((56:Nat):Int)<=2 ^ 40:=⟨h,by omega⟩
  have c2: (0:Int)<=0/\(0:Int)<=0/\(0:Int)<=((n.toNat:Nat):Int):=by omega
  simp only[if_pos h,C7,if_pos c1,if_pos c2,and_self,if_true];simp
 ·simp only[if_neg h]
theorem Yp(l:List (List sf))(hl:l.length<=10)(h: ∀a∈l,a.length<=1000):Hq l=some (l.flatten,()):=by
 have hm:l.length<=maxLen:=by unfold maxLen;omega
 have tot: ∀k,(l.take k).flatten.length<=k*1000:=by
  intro k
  induction k with
  |zero=>simp
  |succ k ih=>
   cases hx:l[k]? with
   |none=>
    have hle:l.length<=k:=by simpa using hx
    rw[bS hle] at ih;rw[bS (ES hle)];exact ba ih (bg _ (cM k))
   |some a=>rw[HI hx,Fb,be];have:=h a (ay hx);simp only[List.flatten_cons,List.flatten_nil,bI];rw[Nat.succ_mul];exact Nat.add_le_add ih this
 have k1:=tC (B:=GQ) l (λk (n:Int)=>((l,n,l,(l.length:Int),(k:Int),()),(),())) (λk n=>n=((l.take k).flatten.length:Int)) (λ_ _ _=>((l,(l.flatten.length:Int),()),(),()))
  (λn hn=>by simp only[GQ];rw[j6,if_neg (by omega),hn,EM])
  (λk n a hx hn=>by
    have hk:=yw hx;have c1: (k:Int)< (l.length:Int):=by omega
    have c2: (0:Int)<=(k:Int):=by omega
    have t:=tot k;have ha:=h a (ay hx);have hk10:k*1000<=10000:=by omega
    refine .inl ⟨n+(a.length:Int),?_,?_,rfl⟩
    ·simp only[GQ,j6,C7,if_pos c1,if_pos c2,cO,hx,ak,kT hm hk,of (n:=n+(a.length:Int)) (by omega) (by omega),if_neg (show ¬n+(a.length:Int)<0 by omega)]
    ·rw[HI hx,Fb,be,hn];simp)
  0 0 (bH _) (by simp)
 have t:=tot l.length;rw[EM] at t
 have k2:=tC (B:=GJ) l (λk (b:List sf)=>(((),l,(l.length:Int),(k:Int),()),(),(b,()))) (λk b=>b=(l.take k).flatten) (λ_ _ _=>(((),()),(),(l.flatten,())))
  (λb hb=>by simp only[GJ];rw[j6,if_neg (by omega),hb,EM])
  (λk b a hx hb=>by
    have hk:=yw hx;have c1: (k:Int)< (l.length:Int):=by omega
    have c2: (0:Int)<=(k:Int):=by omega
    have t:=tot k;have ha:=h a (ay hx);have hs: (b++a).length*56<=2 ^ 40:=QH (by rw[hb,be];omega) (by decide);refine .inl ⟨b++a,?_,?_,rfl⟩
    ·simp only[GJ,j6,C7,if_pos c1,if_pos c2,cO,hx,ak,kT hm hk,if_pos hs]
    ·rw[HI hx,Fb,hb];simp)
  0 [] (bH _) (by simp)
 unfold Hq;rw[show MB ((l,0,l,(l.length:Int),0,()),(),())=_ from k1];simp only[ak,Xe _ (show (0:Int)<=(l.flatten.length:Int) by omega) (by omega)];rw[show Mc (((),l,(l.length:Int),0,()),(),([],()))=_ from k2];rfl
theorem Xa(x y:sf): ((x.epoch==y.epoch)&&((x.op.client==y.op.client)&&((x.op.seq==y.op.seq)&&((x.op.kind==y.op.kind)&&((x.op.object==y.op.object)&&((x.op.old==y.op.old)&&((x.op.value==y.op.value)&&true)))))))=decide (x=y):=by obtain⟨a,b,c,d,e,f,g⟩:=x;obtain⟨a',b',c',d',e',f',g'⟩:=y;rw[bU];simp[and_assoc]
theorem ZK(a b:List sf)(ha:a.length<=maxLen):H1 a b=some (decide (a=b),()):=by
 unfold H1;rw[Fc,LK];split
 ·rename_i hl;have hl:a.length=b.length:=by omega
  rcases Na (B:=G3) a.length (λk=>((a,b,(a.length:Int),(k:Int),()),(),())) (.inr (((),()),(),())) (λ_=> .inl ((false,()),(),())) (λk=>decide (a[k]? ≠b[k]?))
   (by simp only[G3];rw[j6,if_neg (by omega)])
   (λk hk=>by
     have c1: (k:Int)< (a.length:Int):=by omega
     have c2: (0:Int)<=(k:Int):=by omega
     have hk':k<b.length:=by omega
     simp only[G3,Xa,Fc,j6,C7,if_pos c1,if_pos c2,cO,an hk,an hk',ak,kT ha hk];by_cases h:a[k] =b[k]<;>simp[h]) with ⟨k1,k2⟩| ⟨i,hi,k1,k2,_⟩
  ·rw[show KA ((a,b,(a.length:Int),0,()),(),())=_ from k1]
   have :a=b:=List.ext_getElem hl λk h1 h2=>by have:=k2 k h1;rw[an h1,an h2] at this;simpa using this
   rw[decide_eq_true this];rfl
  ·rw[show KA ((a,b,(a.length:Int),0,()),(),())=_ from k1]
   have :a≠b:=λh=>by rw[h] at k2;simp at k2
   rw[decide_eq_false this];rfl
 ·rename_i hl;have :a≠b:=λh=>hl (by rw[h]);rw[decide_eq_false this]
theorem PH(a b:List sf)(ha:a.length<=maxLen): ∃n:Nat,G9 a b=some ((n:Int),())/\n<=a.length/\n<=b.length/\a.take n=b.take n/\(n<a.length->n<b.length->a[n]? ≠b[n]?):=by
 rcases Na (B:=GH) a.length (λk=>((a,b,(k:Int),()),(),())) ((((a.length:Nat):Int),()),(),()) (λk=>(((k:Int),()),(),())) (λk=>decide (a[k]? ≠b[k]?))
  (by simp only[GH];rw[j6,if_neg (by omega)])
  (λk hk=>by
    have c1: (k:Int)< (a.length:Int):=by omega
    have c2: (0:Int)<=(k:Int):=by omega
    by_cases hk':k<b.length
    ·have c3: (k:Int)< (b.length:Int):=by omega
     simp only[GH,Xa,j6,C7,if_pos c1,if_pos c2,if_pos c3,cO,an hk,an hk',ak,kT ha hk];by_cases h:a[k] =b[k]<;>simp[h]
    ·have c3: ¬ (k:Int)< (b.length:Int):=by omega
     simp only[GH,j6,if_pos c1,if_neg c3,an hk,cz (show b.length<=k by omega)];simp) with ⟨k1,k2⟩| ⟨i,hi,k1,k2,k3⟩
 ·have eq: ∀k,k<a.length->a[k]? =b[k]? :=λk hk=>by simpa using k2 k hk
  have hl:a.length<=b.length:=by
   rcases bu a.length with h|h
   ·omega
   ·have:=eq (a.length-1) (by omega);rw[an (by omega)] at this;have:=yw this.symm;omega
  refine⟨a.length,?_,az _,hl,?_,λh=>absurd h (dI _)⟩
  ·unfold G9;rw[show Ky ((a,b,0,()),(),())=_ from k1];rfl
  ·refine bE λk=> ?_;rw[bz,bz];split
   ·exact eq k (by assumption)
   ·rfl
 ·have eq: ∀k,k<i->a[k]? =b[k]? :=λk hk=>by simpa using k3 k hk
  have hl:i<=b.length:=by
   rcases bu i with h|h
   ·omega
   ·have:=eq (i-1) (by omega);rw[an (by omega)] at this;have:=yw this.symm;omega
  refine⟨i,?_,by omega,hl,?_,λ_ _=>by simpa using k2⟩
  ·unfold G9;rw[show Ky ((a,b,0,()),(),())=_ from k1];rfl
  ·refine bE λk=> ?_;rw[bz,bz];split
   ·exact eq k (by assumption)
   ·rfl
theorem Xh(a:List sf)(n:Int)(t:List sf)(ha:a.length<=1048576)(ht:t.length<=1048576): ∃l b,Jr a n t=some (l,b,())/\LN a n t=some (l,b,())/\l.length<=19:=by
 unfold Jr LN LJ LO;rcases isLog a (Fq ha) with ⟨a1,a2,a3⟩| ⟨a1,a2⟩
 case inr=>simp only[a1,a2,ak];exact⟨_,_,rfl,rfl,bH _⟩
 rcases isLog t (Fq ht) with ⟨t1,t2,t3⟩| ⟨t1,t2⟩
 case inr=>simp only[a1,a2,t1,t2,ak];exact⟨_,_,rfl,rfl,bH _⟩
 simp only[a1,a2,t1,t2,ak,Fc,DG,FW,K9];by_cases c1: (t.length:Int)<=3
 case neg=>simp only[j6,if_neg c1];exact⟨_,_,rfl,rfl,bH _⟩
 rw[of (n:=16-(t.length:Int)) (by omega) (by omega)];cases hw:HK n 0 (16-(t.length:Int)) with
 |false=>simp only[j6,if_pos c1];exact⟨_,_,rfl,rfl,bH _⟩
 |true=>
  have hw:=Fi.1 hw;simp only[j6,if_pos c1,DG]
  have rest: ∃l b,(if n>(a.length:Int) then some (([]:List sf),false,()) else iteP (0<=n/\n<=(a.length:Int)/\(a.length:Int)<=(a.length:Int)) ((G9 ((a.drop n.toNat).take ((a.length:Int).toNat-n.toNat)) t).bind λy3=>if y3.1< (if (t.length:Int)< (IntKind.wrap .i64 ((a.length:Int)-n)) then (t.length:Int) else (IntKind.wrap .i64 ((a.length:Int)-n))) then some (([]:List sf),false,()) else ((Gj a).bind λy4=>iteP (0<=y3.1/\y3.1<=(t.length:Int)/\(t.length:Int)<=(t.length:Int)) (iteP ((y4.1++((t.drop y3.1.toNat).take ((t.length:Int).toNat-y3.1.toNat))).length*56<=2 ^ 40) ((Gk (y4.1++((t.drop y3.1.toNat).take ((t.length:Int).toNat-y3.1.toNat)))).bind λy5=>br y5.1 (some ((y4.1++((t.drop y3.1.toNat).take ((t.length:Int).toNat-y3.1.toNat))),true,())) (some (([]:List sf),false,()))) none) none)) none)=some (l,b,())/\
    (if n>(a.length:Int) then some (([]:List sf),false,()) else iteP (0<=(if (IntKind.wrap .i64 ((a.length:Int)-n))< (t.length:Int) then (IntKind.wrap .i64 ((a.length:Int)-n)) else (t.length:Int))/\(if (IntKind.wrap .i64 ((a.length:Int)-n))< (t.length:Int) then (IntKind.wrap .i64 ((a.length:Int)-n)) else (t.length:Int))<=(t.length:Int)/\(t.length:Int)<=(t.length:Int)) ((Hq ([a,((t.drop (if (IntKind.wrap .i64 ((a.length:Int)-n))< (t.length:Int) then (IntKind.wrap .i64 ((a.length:Int)-n)) else (t.length:Int)).toNat).take ((t.length:Int).toNat-(if (IntKind.wrap .i64 ((a.length:Int)-n))< (t.length:Int) then (IntKind.wrap .i64 ((a.length:Int)-n)) else (t.length:Int)).toNat))]:List (List sf))).bind λy3=>iteP (0<=n/\n<=(IntKind.wrap .i64 (n+(if (IntKind.wrap .i64 ((a.length:Int)-n))< (t.length:Int) then (IntKind.wrap .i64 ((a.length:Int)-n)) else (t.length:Int))))/\(IntKind.wrap .i64 (n+(if (IntKind.wrap .i64 ((a.length:Int)-n))< (t.length:Int) then (IntKind.wrap .i64 ((a.length:Int)-n)) else (t.length:Int))))<=(a.length:Int)) (iteP (0<=(0:Int)/\(0:Int)<=(if (IntKind.wrap .i64 ((a.length:Int)-n))< (t.length:Int) then (IntKind.wrap .i64 ((a.length:Int)-n)) else (t.length:Int))/\(if (IntKind.wrap .i64 ((a.length:Int)-n))< (t.length:Int) then (IntKind.wrap .i64 ((a.length:Int)-n)) else (t.length:Int))<=(t.length:Int)) ((H1 ((a.drop n.toNat).take ((IntKind.wrap .i64 (n+(if (IntKind.wrap .i64 ((a.length:Int)-n))< (t.length:Int) then (IntKind.wrap .i64 ((a.length:Int)-n)) else (t.length:Int)))).toNat-n.toNat)) ((t.drop (0:Int).toNat).take ((if (IntKind.wrap .i64 ((a.length:Int)-n))< (t.length:Int) then (IntKind.wrap .i64 ((a.length:Int)-n)) else (t.length:Int)).toNat-(0:Int).toNat))).bind λy4=>br y4.1 ((JO y3.1).bind λy5=>br y5.1 (some (y3.1,true,())) (some (([]:List sf),false,()))) (some (([]:List sf),false,()))) none) none) none)=some (l,b,())/\l.length<=19:=by
   by_cases c2:n>(a.length:Int)
   ·simp only[if_pos c2];exact⟨_,_,rfl,rfl,bH _⟩
   ·rw[of (n:=(a.length:Int)-n) (by omega) (by omega)];obtain⟨i,rfl⟩: ∃i:Nat,n=(i:Int):=⟨n.toNat,by omega⟩
    have hm: (if (a.length:Int)-(i:Int)< (t.length:Int) then (a.length:Int)-(i:Int) else (t.length:Int))=((min t.length (a.length-i):Nat):Int):=by split<;>omega
    have hm2: (if (t.length:Int)< (a.length:Int)-(i:Int) then (t.length:Int) else (a.length:Int)-(i:Int))=((min t.length (a.length-i):Nat):Int):=by split<;>omega
    rw[hm,hm2];generalize hM:min t.length (a.length-i)=m;have d1: (0:Int)<=(i:Int)/\(i:Int)<=(a.length:Int)/\(a.length:Int)<=(a.length:Int):=by omega
    have d2: (0:Int)<=(m:Int)/\(m:Int)<=(t.length:Int)/\(t.length:Int)<=(t.length:Int):=by omega
    have d3: (0:Int)<=(i:Int)/\(i:Int)<=((i:Int)+(m:Int))/\((i:Int)+(m:Int))<=(a.length:Int):=by omega
    have d4: (0:Int)<=0/\(0:Int)<=(m:Int)/\(m:Int)<=(t.length:Int):=by omega
    have e1: (a.drop i).take (a.length-i)=a.drop i:=bS (by simp);have e2: (t.drop m).take (t.length-m)=t.drop m:=bS (by simp);have e3: ((i:Int)+(m:Int)).toNat-i=m:=by omega
    have hc:=Yp [a,t.drop m] (by simp) (by
     intro z hz;simp only[aX,List.not_mem_nil,or_false] at hz;rcases hz with rfl|rfl
     ·omega
     ·simp;omega)
    rw[show ([a,t.drop m]:List (List sf)).flatten=a++t.drop m by simp] at hc;rw[of (n:=(i:Int)+(m:Int)) (by omega) (by omega)];have hx: (a++t.drop m).length<=19:=by simp;omega
    have hxm: (a++t.drop m).length<=maxLen:=by unfold maxLen;omega
    have he:=ZK ((a.drop i).take m) (t.take m) (by simp[maxLen];omega);obtain⟨k,k1,k2,k3,k4,k5⟩:=PH (a.drop i) t (by simp[maxLen];omega);simp only[if_neg c2,C7,if_pos d1,if_pos d2,if_pos d3,if_pos d4,cO,EZ,cF,ET,e1,e2,e3,hc,he,k1,ak,j6];have hk:k<=m:=by simp at k2;omega
    by_cases hkm:k=m
    ·subst hkm;simp only[if_neg (show ¬ ((k:Int)< (k:Int)) by omega),(KL a ha).1,ak,if_pos d2,e2,if_pos k4];rw[if_pos (QH (by omega) (by decide))];rcases isLog (a++t.drop k) hxm with ⟨z1,z2,_⟩| ⟨z1,z2⟩
     ·simp only[z1,z2,ak];exact⟨_,_,rfl,rfl,hx⟩
     ·simp only[z1,z2,ak];exact⟨_,_,rfl,rfl,bH _⟩
    ·have hlt:k<m:=by omega
     have hne: ¬ (a.drop i).take m=t.take m:=λh=>by have:=congrArg (λz:List sf=>z[k]?) h;simp only[bz,if_pos hlt] at this;exact k5 (by simp;omega) (by omega) this
     simp only[if_pos (show ((k:Int)< (m:Int)) by omega),if_neg hne];exact⟨_,_,rfl,rfl,bH _⟩
  by_cases h0:n=0
  ·simp only[LK,if_pos h0,DG];exact rest
  ·simp only[LK,if_neg h0];by_cases h3: (t.length:Int)=3
   ·simp only[h3,beq_self_eq_true,DG];rw[h3] at rest;exact rest
   ·have : ((t.length:Int)==3)=false:=by simpa using h3
    simp only[this,CS];exact⟨_,_,rfl,rfl,bH _⟩
end
section
theorem U0(x:vz):Eh (Kn x) (Pj x):=by
 obtain⟨b,h1,h2⟩:=OL x;unfold Kn Pj;simp only[h1,h2,ak];cases b with
 |false=>simp only[Bool.not_false,DG];cases ((x.epoch==0)&&((x.holder==0)&&((x.ends==0)&&true)))<;>exact⟨_,rfl,rfl⟩
 |true=>
  simp only[dk,CS];cases he:x.ends==0 with
  |true=>
   cases hz: ((x.epoch==0)&&((x.holder==0)&&(true&&true))) with
   |true=>exact⟨_,rfl,rfl⟩
   |false=>
    exfalso;unfold Ip at h2;rw[he,hz] at h2;simp only[CS,K9,ak] at h2
    have hw:HK x.ends 1 1049=false:=by rw[Bool.eq_false_iff];intro hw;have:=Fi.1 hw;simp only[beq_iff_eq] at he;omega
    rw[hw] at h2;revert h2;cases HK x.epoch 1 20<;>cases HK x.holder 0 4<;>intro h2<;>cases h2
  |false=>
   have hz: ((x.epoch==0)&&((x.holder==0)&&(false&&true)))=false:=by cases x.epoch==0<;>cases x.holder==0<;>rfl
   rw[hz];exact⟨_,rfl,rfl⟩
theorem QT(x:vz)(n:Int):Eh (HG x n) (KN x n):=by obtain⟨b,h1,h2⟩:=OL x;obtain⟨t,t1,t2⟩:=U0 x;unfold HG KN;simp only[h1,h2,t1,t2,FW,K9,ak];cases b<;>cases HK n 0 999<;>exact⟨_,rfl,rfl⟩
end
section
theorem Qy{l:List vB}(hl:l.length<=maxLen)(hv:FG l=some (true,())):l.length=5:=by
 obtain⟨b,h1,h2⟩:=MT l hl;rw[hv] at h1;simp only[af,au,and_true] at h1;subst h1;unfold Jx at h2;cases h: ((l.length:Int)==5) with
 |false=>rw[h] at h2;cases h2
 |true=>simp only[beq_iff_eq] at h;omega
end
section
theorem Sx(a b:List Int)(ha:Mw a)(hb:b.length<=maxLen):FP a b=some (a.filter λx=> !decide (x∈b),()):=by
 have hl:=ha.len;have hm:a.length<=maxLen:=by unfold maxLen;omega
 have hp:=ha.pair
 have fm:=tC (B:=GI) a (λk (out:List Int)=>((a,b,(),(k:Int),()),(),(out,()))) (λk out=>out=(a.take k).filter λx=> !decide (x∈b)) (λk r out=>(((),()),(),(out++r.filter λx=> !decide (x∈b),())))
  (λout hb=>by simp only[GI];rw[j6,if_neg (by omega)];simp)
  (λk out x hx hout=>by
    have hk:=yw hx;have c1: (k:Int)< (a.length:Int):=by omega
    have c2: (0:Int)<=(k:Int):=by omega
    have hxe:a[k] =x:=by rw[an hk] at hx;exact Option.some.inj hx
    simp only[GI,Fc,j6,C7,if_pos c1,if_pos c2,cO,hx,ak,(FN b x hb).1,kT hm hk];by_cases hin:x∈b
    ·simp only[if_pos hin];refine .inl ⟨out,rfl,?_,?_⟩
     ·rw[hout,EN,hx,EP];simp[hin]
     ·simp[hin]
    ·have hlt: ∀y∈out,y<x:=by
      intro y hy;rw[hout,EU] at hy;obtain⟨i,hi,he⟩:=aQ hy.1;have hi':i<k:=by simp at hi;omega
      rw[Fa] at he;rw[<-he,<-hxe];exact EO.1 hp i k (by omega) hk hi'
     have hol:out.length<=1000:=by rw[hout];have:=EW (λx=> !decide (x∈b)) (a.take k);simp only[ci] at this;omega
     simp only[if_neg hin,Ue out x hol hlt,ak];refine .inl ⟨out++ [x],rfl,?_,?_⟩
     ·rw[hout,EN,hx,EP];simp[hin]
     ·simp[hin])
  0 [] (bH _) rfl
 unfold FP;rw[show Mb ((a,b,(),0,()),(),([],()))=_ from fm];rfl
end
section
theorem NV{l:List Int}(h:SS l)(hr: ∀y∈l,0<=y/\y<5):Mw l:=by intro k hk;have:=hr _ (dq hk);exact⟨by omega,λh0=>EO.1 h _ _ (by omega) hk (by omega)⟩
theorem OE{l:List Int}(h:Mw l):F2 l=some (true,())/\GW l=some (true,()):=by
 have hl:=h.len;have hm:l.length<=maxLen:=by unfold maxLen;omega
 obtain⟨_,_,h1,h2⟩:=P5 (B1:=Gm) (B2:=Gl) l.length (λk (_:Unit)=>((l,(k:Int),()),(),())) (λk _=>((l,l,(l.length:Int),(k:Int),()),(),())) (λ_ _=>True) (λ_=> .inr (((),()),(),())) (λ_=> .inr (((),()),(),()))
  (λ_ _=>by simp only[Gm,Gl,j6];exact⟨if_neg (by omega),if_neg (by omega)⟩)
  (λk _ hk _=>by
    have c1: (k:Int)< (l.length:Int):=by omega
    have c2: (0:Int)<=(k:Int):=by omega
    obtain⟨r1,r2⟩:=h k hk;have w:HK l[k] 0 4=true:=Fi.2 r1;refine⟨(),?_⟩;simp only[Gm,Gl,j6,C7,if_pos c1,if_pos c2,cO,an hk,ak,FW,K9,w,dk,CS,kT hm hk];by_cases h0:0<k
    ·have c3: (k:Int)>0:=by omega
     have c4: (0:Int)<=((k-1:Nat):Int):=by omega
     have e2:l[k-1]? =some l[k-1] :=an (by omega);have:=r2 h0;simp only[if_pos c3,CO h0 (by omega),if_pos c4,cO,e2,ak,if_neg (show ¬l[k-1] ≥l[k] by omega),if_neg (show ¬l[k] <=l[k-1] by omega),and_self]
    ·simp only[if_neg (show ¬ (k:Int)>0 by omega),and_self])
  () trivial
 unfold F2 GW;rw[show J3 ((l,0,()),(),())=_ from h1,show J2 ((l,l,(l.length:Int),0,()),(),())=_ from h2];exact⟨rfl,rfl⟩
end
section

end
section
theorem aaf{m:kB}(h:MS 1048576 m)(hv:FK m=some (true,())):m.configs.length<=20:=by
 obtain⟨f,_,_⟩:=Ry (Iu h) hv;rcases bu m.configs.length with h0|h0
 ·omega
 ·have hk:m.configs.length-1<m.configs.length:=by omega
  obtain⟨f1,f2⟩:=f _ hk;have:=(LL (Fx (h.2 _ (dq hk))) f1).2.2.2.2.1;omega
def cutAt(l:List sf):Nat:=l.length-3
theorem W6(l:List sf)(hl:l.length<=1048576): (if IntKind.wrap .i64 ((l.length:Int)-3)>0 then IntKind.wrap .i64 ((l.length:Int)-3) else 0)=((cutAt l:Nat):Int):=by rw[of (by omega) (by omega)];unfold cutAt;split<;>omega
end
section
theorem Wu(x:qN)(ok:F0 1048576 x)(hv:Fd x=some (true,())):Eh (Gf x) (Ge x):=by
 obtain⟨b,v1,v2⟩:=F6 x ok;rw[hv] at v1;simp only[af,au,and_true] at v1;subst v1;have vc:=FX ok hv;obtain⟨c,d,c1,c2,c3,c4,c5,c6⟩:=NF x ok hv;unfold Gf Ge;simp only[c1,c2,hv,v2,ak,Fc,DG];cases d with
 |false=>
  have hz:=c6 rfl;subst hz;simp only[CS]
  have h1:Hz (((),(),false,0,()),((x.now,x.servers,x.sides,x.master.configs,x.master.activated,x.masterUp,x.lease.epoch,x.lease.holder,x.lease.ends,x.places,()),(0,0,(),(),()),()),([],[],()))=some (.inr (((),false,()),(),())):=by refine me ?_;simp only[FY];rfl
  rw[h1];exact⟨_,rfl,rfl⟩
 |true=>
  simp only[DG];obtain⟨asc,_,_,_,_,_⟩:=LL c3 (c5 rfl).1;have hl:=asc.len;have hm:c.replicas.length<=maxLen:=by unfold maxLen;omega
  have fm:=DL (B1:=FY) (B2:=Fl) c.replicas.length (λk=>(((),(),true,(k:Int),()),((x.now,x.servers,x.sides,x.master.configs,x.master.activated,x.masterUp,x.lease.epoch,x.lease.holder,x.lease.ends,x.places,()),(c.epoch,c.primary,(),(),()),()),(c.replicas,c.witnesses,()))) (λk=>((c.replicas,(x,c,()),(c.replicas.length:Int),(k:Int),()),(),()))
   (.inr (((),true,()),(),())) (.inr (((),()),(),())) (λ_=> .inl ((true,true,()),(),())) (λk=> .inl (((k:Int),()),(),()))
   (λ_=>True) (λ_=>True)
   (by simp only[FY];rw[j6,if_neg (by omega)])
   (by simp only[Fl];rw[j6,if_neg (by omega)])
   (λk hk=>by
     have c1: (k:Int)< (c.replicas.length:Int):=by omega
     have c2: (0:Int)<=(k:Int):=by omega
     have c3: (0:Int)<=(k:Int)/\(k:Int)< (c.replicas.length:Int):=⟨c2,c1⟩
     have hid:=(asc k hk).1;have c4: (0:Int)<=c.replicas[k] :=hid.1;have hlt:c.replicas[k].toNat<x.servers.length:=by rw[vc.len];omega
     simp only[FY,Fl,Hf,j6,C7,if_pos c1,if_pos c2,if_pos c3,cO,an hk,ak,if_pos c4,an hlt,DG,kT hm hk];cases (x.servers[c.replicas[k].toNat].config.epoch==c.epoch) with
     |false=>exact .inl ⟨rfl,rfl,trivial⟩
     |true=>exact .inr ⟨rfl,rfl,trivial⟩)
  unfold Fy FF;rcases fm with ⟨k1,k2,_⟩| ⟨k,_,k1,k2,_⟩
  ·rw[show Hz (((),(),true,0,()),((x.now,x.servers,x.sides,x.master.configs,x.master.activated,x.masterUp,x.lease.epoch,x.lease.holder,x.lease.ends,x.places,()),(c.epoch,c.primary,(),(),()),()),(c.replicas,c.witnesses,()))=_ from k1,show FU ((c.replicas,(x,c,()),(c.replicas.length:Int),0,()),(),())=_ from k2];exact⟨_,rfl,rfl⟩
  ·rw[show Hz (((),(),true,0,()),((x.now,x.servers,x.sides,x.master.configs,x.master.activated,x.masterUp,x.lease.epoch,x.lease.holder,x.lease.ends,x.places,()),(c.epoch,c.primary,(),(),()),()),(c.replicas,c.witnesses,()))=_ from k1,show FU ((c.replicas,(x,c,()),(c.replicas.length:Int),0,()),(),())=_ from k2];simp only[ak,EX];rw[decide_eq_true (by omega)];exact⟨_,rfl,rfl⟩
end
section

end
section

end
section
theorem W7(s:qQ)(id:Int)(h:F1 1048576 s): (data s id).length<=1048576:=by
 have h1:=h.2.1;have h2:=h.2.2
 have h3: (PK s).length<=s.log.length:=by
  unfold PK;split
  ·simp;omega
  ·exact bH _
 unfold data;split
 ·split<;>omega
 ·exact h2
end
section
abbrev fx(x:qN):Int×List qQ×List Int×List om×Int×Int×Int×Int×Int×List vB×Unit:=(x.now,x.servers,x.sides,x.master.configs,x.master.activated,x.masterUp,x.lease.epoch,x.lease.holder,x.lease.ends,x.places,())
abbrev Yt(s:qQ):Bool×Bool×Int×Int×Int×Int×List Int×List Int×Int×List sf×Int×List sf×Unit:=(s.up,s.intact,s.version,s.epoch,s.config.epoch,s.config.primary,s.config.replicas,s.config.witnesses,s.first,s.log,s.commit,s.learned,())
structure Z4 (x x':qN):Prop where
 sides:x'.sides=x.sides
 master:x'.master=x.master
 srv: ∀ (k:Nat) (s:qQ),x.servers[k]? =some s-> ∃e,x'.servers[k]? =some (⟨s.up,s.intact,s.version,e,s.config,s.first,s.log,s.commit,s.learned⟩:qQ)
theorem Z4.refl(x:qN):Z4 x x:=⟨rfl,rfl,λ_ s h=>⟨s.epoch,h⟩⟩
theorem Z4.side{x x':qN}(h:Z4 x x')(a:Int):Kb x' a=Kb x a:=by unfold Kb;rw[h.sides]
theorem YX{x:qN}(ok:F0 1048576 x)(hv:Fd x=some (true,())): ∃c d,Fp x.master=some (c,d,())/\FI x.master=some (c,d,())/\GO maxLen c/\c.replicas.length<=5/\c.witnesses.length<=5/\(∀z∈c.replicas,0<=z/\z<5)/\(∀z∈c.witnesses,0<=z/\z<5)/\(d=false->c=⟨0,0,[],[]⟩):=by
 obtain⟨c,d,d1,d2,d3,d4,d5,d6⟩:=NF x ok hv
 have rng: ∀ {l:List Int},Mw l-> ∀y∈l,0<=y/\y<5:=by intro l ha y hy;obtain⟨k,hk,rfl⟩:=aQ hy;have:=(ha k hk).1;omega
 cases d with
 |false=>exact⟨c,false,d1,d2,d3,by rw[d6 rfl];simp,by rw[d6 rfl];simp,by rw[d6 rfl];simp,by rw[d6 rfl];simp,d6⟩
 |true=>obtain⟨a1,a2,_⟩:=LL d3 (d5 rfl).1;exact⟨c,true,d1,d2,d3,a1.len,a2.len,rng a1,rng a2,nofun⟩
section
variable {x x':qN} (ok:F0 1048576 x) (ok':F0 1048576 x') (hv:Fd x=some (true,())) (hv':Fd x'=some (true,())) (se:Z4 x x') {id:Int} (hid:0<=id/\id<5)
include ok ok' hv hv' se hid
theorem Sy: ∃l,F4 x id=some (l,())/\GM x' id=some (l,())/\l.length<=5/\ ∀z∈l,0<=z/\z<5:=by
 have vc:=FX ok hv;have vc':=FX ok' hv';obtain⟨c,d,d1,d2,d3,r5,_,inr,_,d6⟩:=YX ok hv;have rm:c.replicas.length<=maxLen:=by unfold maxLen;omega
 have uA:HK id 0 4=true:=Fi.2 (by omega)
 have hgood:FA x' id=some (true,()):=by obtain⟨v,w1,w2⟩:=F6 x' ok';rw[hv'] at w1;simp only[af,au,and_true] at w1;subst w1;unfold FA;simp only[w2,ak,K9,uA,DG]
 unfold F4 GM;have d2':FI x'.master=some (c,d,()):=by rw[se.master];exact d2
 simp only[d1,d2',hgood,ak,Fc,DG];cases d with
 |false=>
  have hc:=d6 rfl;subst hc
  rw[show J4 ((id,(),(),(),false,0,()),(fx x,(0,0,(),(),()),()),([],[],[],()))=some (((),()),(),([],())) from me (by simp only[Gp];rfl)]
  exact⟨[],rfl,rfl,bH _,nofun⟩
 |true=>
  obtain⟨l,q,k1,k2⟩:=P5 (B1:=Gp) (B2:=HN) c.replicas.length (λk (b:List Int)=>((id,(),(),(),true,(k:Int),()),(fx x,(c.epoch,c.primary,(),(),()),()),(b,c.replicas,c.witnesses,()))) (λk b=>((id,(),(),(),(),(c.replicas.length:Int),(k:Int),()),(fx x',(c.epoch,c.primary,(),(),()),()),(b,c.replicas,c.witnesses,()))) (λk b=>b.length<=k/\ ∀z∈b,0<=z/\z<5) (λb=>(((),()),(),(b,()))) (λb=>(((),()),(),(b,())))
   (λb _=>by simp only[Gp,HN,j6];exact⟨if_neg (by omega),if_neg (by omega)⟩)
   (λk b hk hb=>by
     have c1: (k:Int)< (c.replicas.length:Int):=by omega
     have c2: (0:Int)<=(k:Int)/\(k:Int)< (c.replicas.length:Int):=by omega
     have hz:=inr _ (dq hk);generalize hzz:c.replicas[k] =z at hz;have hg:c.replicas[k]? =some z:=by rw[<-hzz];exact an hk
     obtain⟨s,s1,s2,_⟩:=Lo ok vc hz;obtain⟨e,e1⟩:=se.srv _ _ s1;obtain⟨h1,_⟩:=Nr x ok vc hid hz;obtain⟨_,h2⟩:=Nr x' ok' vc' hid hz;rw[se.side,se.side] at h2;have h40: (b++ [z]).length*8<=2 ^ 40:=Iy (by simp;omega)
     simp only[Gp,HN,Ki,fx,j6,DG,C7,if_pos c1,if_pos c2,cO,hg,ak,
      show (⟨x.now,x.servers,x.sides,(⟨x.master.configs,x.master.activated⟩:kB),x.masterUp,(⟨x.lease.epoch,x.lease.holder,x.lease.ends⟩:vz),x.places⟩:qN)=x from rfl,hv,FW,uA,if_pos hz.1,s1,e1,h1,h2,if_pos h40,kT rm hk]
     have hb': (b++ [z]).length<=k+1/\ ∀y∈b++ [z],0<=y/\y<5:=⟨by simp;omega,λy hy=>by
      rcases bi.1 hy with h|h
      ·exact hb.2 y h
      ·rw[aJ.1 h];exact hz⟩
     have hb'':b.length<=k+1/\ ∀y∈b,0<=y/\y<5:=⟨by omega,hb.2⟩
     cases s.up<;>cases (s.config.epoch==c.epoch)<;>cases (Kb x id==Kb x z)<;>simp only[DG,CS,ak]<;>first |exact⟨b++ [z],rfl,rfl,hb'⟩|exact⟨b,rfl,rfl,hb''⟩)
   [] ⟨bH _,nofun⟩
  rw[show J4 ((id,(),(),(),true,0,()),(fx x,(c.epoch,c.primary,(),(),()),()),([],c.replicas,c.witnesses,()))=_ from k1,
   show Ob ((id,(),(),(),(),(c.replicas.length:Int),0,()),(fx x',(c.epoch,c.primary,(),(),()),()),([],c.replicas,c.witnesses,()))=_ from k2]
  exact⟨l,rfl,rfl,by omega,q.2⟩
theorem RB: ∃n,F3 x id=some (n,())/\GL x' id=some (n,())/\(n= -1\/(0<=n/\n<5)):=by
 have vc:=FX ok hv;obtain⟨l,l1,l2,l3,inl⟩:=Sy ok ok' hv hv' se hid;have lm:l.length<=maxLen:=by unfold maxLen;omega
 obtain⟨n,q,k1,k2⟩:=P5 (B1:=Gn) (B2:=HM) l.length (λk (b:Int)=>(((),b,(),(k:Int),()),(fx x,()),(l,()))) (λk b=>(((),b,(),(l.length:Int),(k:Int),()),(fx x',()),(l,()))) (λ_ b=>b= -1\/(0<=b/\b<5)) (λb=>((b,()),(),())) (λb=>((b,()),(),()))
  (λb _=>by simp only[Gn,HM,j6];exact⟨if_neg (by omega),if_neg (by omega)⟩)
  (λk b hk hb=>by
    have c1: (k:Int)< (l.length:Int):=by omega
    have c2: (0:Int)<=(k:Int)/\(k:Int)< (l.length:Int):=by omega
    have hz:=inl _ (dq hk);generalize hzz:l[k] =z at hz;have hg:l[k]? =some z:=by rw[<-hzz];exact an hk
    obtain⟨s,s1,s2,_⟩:=Lo ok vc hz;obtain⟨e,e1⟩:=se.srv _ _ s1;simp only[Gn,HM,fx,j6,C7,if_pos c1,if_pos c2,cO,hg,ak,if_pos hz.1,s1,e1,kT lm hk];rcases hb with rfl|hb
    ·exact⟨z,rfl,rfl,.inr hz⟩
    ·obtain⟨t,t1,t2,_⟩:=Lo ok vc hb;obtain⟨f,f1⟩:=se.srv _ _ t1;simp only[if_neg (show ¬b<0 by omega),if_pos hb.1,t1,f1,ak];by_cases h: (s.log.length:Int)>(t.log.length:Int)
     ·simp only[if_pos h];exact⟨z,rfl,rfl,.inr hz⟩
     ·simp only[if_neg h];exact⟨b,rfl,rfl,.inr hb⟩)
  (-1) (.inl rfl)
 unfold F3 GL;simp only[l1,l2,ak];rw[show L9 (((),(-1),(),0,()),(fx x,()),(l,()))=_ from k1,show L8 (((),(-1),(),(l.length:Int),0,()),(fx x',()),(l,()))=_ from k2];exact⟨n,rfl,rfl,q⟩
omit ok hv se in
theorem Xd:FA x' id=some (true,()):=by obtain⟨v,w1,w2⟩:=F6 x' ok';rw[hv'] at w1;simp only[af,au,and_true] at w1;subst w1;unfold FA;simp only[w2,ak,K9,Fi.2 (show 0<=id/\id<=4 by omega),DG]
theorem Uo{c:om}{w w':qQ}{z j:Int}(hw:F1 1048576 w)(h1:w'.first=w.first)(h2:w'.log=w.log)(b:List sf×Bool)(hb:b.1.length<=19/\(b.2=false->b.1= [])): ∃r:List sf×Bool,(r.1.length<=19/\(r.2=false->r.1= []))/\
  Ld ((id,(),(),b.2,(),true,j,(),0,()),(fx x,(c.epoch,c.primary,(),(),()),Yt w,()),(b.1,c.replicas,c.witnesses,()))=some ((id,(),(),r.2,(),true,j,()),(fx x,(c.epoch,c.primary,(),(),()),()),(r.1,c.replicas,c.witnesses,()))/\
  NL ((id,(),(),(),b.2,(),(),z,j,x'.servers,(x'.servers.length:Int),0,()),(fx x',(c.epoch,c.primary,(),(),()),Yt w',()),(b.1,c.witnesses,c.replicas,()))=some ((id,(),(),(),r.2,(),z,j,()),(fx x',(c.epoch,c.primary,(),(),()),()),(r.1,c.witnesses,c.replicas,())):=by
 have vc:=FX ok hv;have vc':=FX ok' hv'
 refine P5 (B1:=GS) (B2:=Hh) 5 (λk (b:List sf×Bool)=>((id,(),(),b.2,(),true,j,(),(k:Int),()),(fx x,(c.epoch,c.primary,(),(),()),Yt w,()),(b.1,c.replicas,c.witnesses,()))) (λk b=>((id,(),(),(),b.2,(),(),z,j,x'.servers,(x'.servers.length:Int),(k:Int),()),(fx x',(c.epoch,c.primary,(),(),()),Yt w',()),(b.1,c.witnesses,c.replicas,()))) (λ_ b=>b.1.length<=19/\(b.2=false->b.1= [])) (λb=>((id,(),(),b.2,(),true,j,()),(fx x,(c.epoch,c.primary,(),(),()),()),(b.1,c.replicas,c.witnesses,()))) (λb=>((id,(),(),(),b.2,(),z,j,()),(fx x',(c.epoch,c.primary,(),(),()),()),(b.1,c.witnesses,c.replicas,())))
  (λb _=> ?_) (λk b hk hb=> ?_) b hb
 ·simp only[GS,Hh,j6,vc'.len];exact⟨if_neg (by omega),if_neg (by omega)⟩
 ·have c1: (k:Int)<5:=by omega
  have c1': (k:Int)< (x'.servers.length:Int):=by rw[vc'.len];omega
  have c2: (0:Int)<=(k:Int):=by omega
  have hkk:0<=(k:Int)/\(k:Int)<5:=⟨c2,c1⟩
  obtain⟨s,s1,s2,s3⟩:=Lo ok vc hkk;obtain⟨t,t1,t2,t3⟩:=Lo ok' vc' hkk;obtain⟨e,e1⟩:=se.srv _ _ s1;rw[t1] at e1;have e1:=Option.some.inj e1;obtain⟨g1,_⟩:=Nr x ok vc hid hkk;obtain⟨_,g2⟩:=Nr x' ok' vc' hid hkk;rw[se.side,se.side] at g2;have dt:data t (k:Int)=data s (k:Int):=by rw[e1];rfl
  have tup:t.up=s.up:=by rw[e1]
  obtain⟨q1,_⟩:=VY s (k:Int) s2 s3;obtain⟨_,q2⟩:=VY t (k:Int) t2 t3;rw[dt] at q2;have dl: (data s (k:Int)).length<=1048576:=W7 s _ s2;obtain⟨l,f,j1,j2,j3⟩:=Xh (data s (k:Int)) w.first w.log dl hw.2.1;have sw:=kT (n:=5) (by decide) hk;rw[cO] at s1 t1;simp only[GS,Hh,fx,Yt,j6,Fc,C7,if_pos c1,if_pos c1',if_pos c2,cO,s1,t1,ak,tup,g1,g2,q1,q2,h1,h2,j1,j2,sw];cases s.up with
  |false=>exact⟨b,rfl,rfl,hb⟩
  |true=>
   cases (Kb x id==Kb x (k:Int)) with
   |false=>exact⟨b,rfl,rfl,hb⟩
   |true=>
    cases f with
    |false=>exact⟨b,rfl,rfl,hb⟩
    |true=>
     simp only[DG];cases hb2:b.2 with
     |false=>exact⟨(l,true),rfl,rfl,j3,nofun⟩
     |true=>
      simp only[DG];by_cases h: (l.length:Int)>(b.1.length:Int)
      ·simp only[if_pos h];exact⟨(l,true),rfl,rfl,j3,nofun⟩
      ·simp only[if_neg h];exact⟨b,by rw[hb2],by rw[hb2],hb⟩
theorem SA: ∃l b,Gd x id=some (l,b,())/\GX x' id=some (l,b,())/\l.length<=19:=by
 have vc:=FX ok hv;have vc':=FX ok' hv';obtain⟨c,d,d1,d2,d3,_,r5,_,inw,d6⟩:=YX ok hv;have rm:c.witnesses.length<=maxLen:=by unfold maxLen;omega
 have uA:HK id 0 4=true:=Fi.2 (by omega);have hgood:=Xd ok' hv' hid;have d2':FI x'.master=some (c,d,()):=by rw[se.master];exact d2
 unfold Gd GX;simp only[d1,d2',hgood,ak,Fc,DG];cases d with
 |false=>
  have hc:=d6 rfl;subst hc
  rw[show J5 ((id,(),(),false,(),false,0,()),(fx x,(0,0,(),(),()),()),([],[],[],()))=some (((),false,()),(),([],())) from me (by simp only[Gq];rfl)]
  exact⟨[],false,rfl,rfl,bH _⟩
 |true=>
  obtain⟨r,q,k1,k2⟩:=P5 (B1:=Gq) (B2:=HO) c.witnesses.length (λk (b:List sf×Bool)=>((id,(),(),b.2,(),true,(k:Int),()),(fx x,(c.epoch,c.primary,(),(),()),()),(b.1,c.replicas,c.witnesses,()))) (λk b=>((id,(),(),(),b.2,(),(c.witnesses.length:Int),(k:Int),()),(fx x',(c.epoch,c.primary,(),(),()),()),(b.1,c.witnesses,c.replicas,()))) (λ_ b=>b.1.length<=19/\(b.2=false->b.1= [])) (λb=>(((),b.2,()),(),(b.1,()))) (λb=>(((),b.2,()),(),(b.1,())))
   (λb _=>by simp only[Gq,HO,j6];exact⟨if_neg (by omega),if_neg (by omega)⟩)
   (λk b hk hb=>by
     have c1: (k:Int)< (c.witnesses.length:Int):=by omega
     have c2: (0:Int)<=(k:Int)/\(k:Int)< (c.witnesses.length:Int):=by omega
     have hz:=inw _ (dq hk);generalize hzz:c.witnesses[k] =z at hz;have hg:c.witnesses[k]? =some z:=by rw[<-hzz];exact an hk
     obtain⟨s,s1,s2,_⟩:=Lo ok vc hz;obtain⟨e,e1⟩:=se.srv _ _ s1;obtain⟨h1,_⟩:=Nr x ok vc hid hz;obtain⟨_,h2⟩:=Nr x' ok' vc' hid hz;rw[se.side,se.side] at h2;obtain⟨r,r1,r2,r3⟩:=Uo ok ok' hv hv' se hid (c:=c) (w:=s) (w':=⟨s.up,s.intact,s.version,e,s.config,s.first,s.log,s.commit,s.learned⟩) (z:=(c.witnesses.length:Int)) (j:=(k:Int)) s2 rfl rfl b hb;simp only[fx,Yt] at r2 r3
     simp only[Gq,HO,Ki,fx,j6,Fc,DG,C7,if_pos c1,if_pos c2,cO,hg,ak,
      show (⟨x.now,x.servers,x.sides,(⟨x.master.configs,x.master.activated⟩:kB),x.masterUp,(⟨x.lease.epoch,x.lease.holder,x.lease.ends⟩:vz),x.places⟩:qN)=x from rfl,hv,FW,uA,if_pos hz.1,s1,e1,h1,h2,r2,r3,kT rm hk]
     cases s.up<;>cases (s.config.epoch==c.epoch)<;>cases (Kb x id==Kb x z)<;>simp only[DG,CS,ak]<;>first |exact⟨b,rfl,rfl,hb⟩|exact⟨r,rfl,rfl,r1⟩)
   ([],false) ⟨bH _,λ_=>rfl⟩
  rw[show J5 ((id,(),(),false,(),true,0,()),(fx x,(c.epoch,c.primary,(),(),()),()),([],c.replicas,c.witnesses,()))=_ from k1,
   show Oc ((id,(),(),(),false,(),(c.witnesses.length:Int),0,()),(fx x',(c.epoch,c.primary,(),(),()),()),([],c.witnesses,c.replicas,()))=_ from k2]
  simp only[ak];obtain⟨l,f⟩:=r;cases f with
  |true=>exact⟨l,true,rfl,rfl,q.1⟩
  |false=>have:=q.2 rfl;simp only at this;subst this;exact⟨[],false,rfl,rfl,bH _⟩
theorem WW: ∃l b,Gz x id=some (l,b,())/\H4 x' id=some (l,b,())/\l.length<=1048576:=by
 have vc:=FX ok hv;have uA:HK id 0 4=true:=Fi.2 (by omega);have hgood:=Xd ok' hv' hid;obtain⟨n,n1,n2,n3⟩:=RB ok ok' hv hv' se hid;obtain⟨l,b,l1,l2,l3⟩:=SA ok ok' hv hv' se hid;unfold Gz H4;rw[se.master];simp only[hv,hgood,FW,uA,n1,n2,l1,l2,ak,Fc,DG];cases (x.master.activated==0) with
 |true=>exact⟨[],true,rfl,rfl,bH _⟩
 |false=>
  simp only[CS,j6];rcases n3 with rfl|hn
  ·simp only[if_neg (show ¬ (-1:Int)≥0 by omega)];exact⟨l,b,rfl,rfl,by omega⟩
  ·obtain⟨s,s1,s2,_⟩:=Lo ok vc hn;obtain⟨e,e1⟩:=se.srv _ _ s1;simp only[if_pos (show n≥0 by omega),C7,if_pos hn.1,s1,e1,ak,(KL _ s2.2.1).1,(KL _ s2.2.1).2];exact⟨_,_,rfl,rfl,s2.2.1⟩
end
end
section
structure SV (m:kB) (s:qQ) (k:Int):Prop where
 val:Fn s k=some (true,())
 ep:s.epoch<=(m.configs.length:Int)
 lrn: ∃e,JD s.learned=some (e,())/\e<=m.activated
 cfg:s.config=⟨0,0,[],[]⟩\/(Ha m s.config.epoch=some (s.config,true,())/\s.config.epoch<=m.activated)
theorem SV.old{m:kB}{s:qQ}{k:Int}(h:SV m s k)(hm:MS 1048576 m)(hv:FK m=some (true,())):s.config.epoch<=(m.configs.length:Int):=by
 obtain⟨_,f2,f3⟩:=Ry (Iu hm) hv;rcases h.cfg with h| ⟨_,h⟩
 ·rw[h];show (0:Int)<=_;omega
 ·omega
end
section

end
section

end
section
theorem Mw.filter{l:List Int}(h:Mw l)(p:Int->Bool):Mw (l.filter p):=by refine NV (h.pair.filter p) λy hy=> ?_;obtain⟨k,hk,rfl⟩:=aQ (EU.1 hy).1;have:=(h k hk).1;omega
theorem VV:Mw [0,1,2,3,4] :=by refine NV (by simp[SS]) λy hy=> ?_;simp at hy;omega
end
section
theorem Vg(l:vz)(e h n t:Int): ∃r b,JQ l e h n t=some (r,b,())/\PN l e h n t=some (r,b,()):=by obtain⟨b,h1,h2⟩:=OL l;obtain⟨q,q1,q2⟩:=QT l n;unfold JQ PN;simp only[h1,h2,q1,q2,FW,K9,ak];cases (l.epoch==e)<;>cases b<;>cases HK e 1 20<;>cases HK h 0 4<;>cases HK n 0 999<;>cases HK t 1 50<;>cases (l.holder==h)<;>cases q<;>exact⟨_,_,rfl,rfl⟩
end
section
def Pv:List nY->Int->Nat
 | [],_=>0
 |x::l,c=>if x.client<c then Pv l c+1 else 0
theorem YP(l:List nY)(c:Int):Pv l c<=l.length:=by
 induction l with
 |nil=>exact az _
 |cons x l ih=>
  unfold Pv;split
  ·simp only[bD];omega
  ·exact bH _
theorem YQ{l:List nY}{c:Int}(h: ∃x∈l,x.client=c):Pv l c<l.length:=by
 induction l with
 |nil=>obtain⟨x,hx,_⟩:=h;cases hx
 |cons y l ih=>
  unfold Pv;split
  ·rename_i hy;obtain⟨x,hx,hc⟩:=h;rcases aX.1 hx with rfl|hx
   ·omega
   ·have:=ih ⟨x,hx,hc⟩;simp only[bD];omega
  ·simp
theorem aau(b d:Bool)(v:Int)(o:Op)(objs:List Int)(l:List nY)(hl:l.length<=1000):LC (((),(),(),(),b,(),0,()),((o.client,o.seq,o.kind,o.object,o.old,o.value,()),((),(),()),(false,0,()),((),(),()),(d,v,()),()),objs,l,())=
  some (((),(),(),(),b,(),((Pv l o.client:Nat):Int),()),((o.client,o.seq,o.kind,o.object,o.old,o.value,()),((),(),()),(false,0,()),((),(),()),(d,v,()),()),objs,l,()):=by
 have ml:l.length<=maxLen:=by unfold maxLen;omega
 have fm:=tC (B:=IR) l (λk (_:Unit)=>(((),(),(),(),b,(),(k:Int),()),((o.client,o.seq,o.kind,o.object,o.old,o.value,()),((),(),()),(false,0,()),((),(),()),(d,v,()),()),objs,l,())) (λ_ _=>True)
  (λk r _=>(((),(),(),(),b,(),((k+Pv r o.client:Nat):Int),()),((o.client,o.seq,o.kind,o.object,o.old,o.value,()),((),(),()),(false,0,()),((),(),()),(d,v,()),()),objs,l,()))
  (λ_ _=>by simp only[IR];rw[j6,if_neg (by omega)];rfl)
  (λk _ x hx _=>by
    have hk:=yw hx;have c1: (k:Int)< (l.length:Int):=by omega
    have c2: (0:Int)<=(k:Int)/\(k:Int)< (l.length:Int):=by omega
    simp only[IR,j6,C7,if_pos c1,if_pos c2,cO,hx,ak,kT ml hk];by_cases h:x.client<o.client
    ·rw[if_pos h];refine .inl ⟨(),rfl,trivial,?_⟩;rw[Pv,if_pos h,show k+(Pv (l.drop (k+1)) o.client+1)=k+1+Pv (l.drop (k+1)) o.client by omega]
    ·rw[if_neg h];refine .inr ?_;rw[Pv,if_neg h];rfl) 0 () (bH _) trivial
 simp only[aM,cF] at fm;exact fm
theorem Wi{o:Op}(h:FD o=some (true,())):0<=o.object/\o.object<=2:=by
 unfold FD at h;simp only[FW,ak] at h;cases h1:HK o.client 0 2 with
 |false=>rw[h1] at h;cases h
 |true=>
  cases h2:HK o.seq 1 99 with
  |false=>rw[h1,h2] at h;cases h
  |true=>
   cases h3:HK o.object 0 2 with
   |false=>rw[h1,h2,h3] at h;cases h
   |true=>exact Fi.1 h3
def ZW(o:Op):Bool:=match FD o with |some (b,_)=>b|none=>false
theorem NE(o:Op):FD o=some (ZW o,()):=by obtain⟨b,h,_⟩:=Wm o;unfold ZW;rw[h]
def YE(l:List sf)(k:Nat):Bool:=match l[k]? with
 |some e=>HK e.epoch 1 20&&(ZW e.op&&(decide (k=0)||match l[k-1]? with |some d=> !decide (d.epoch>e.epoch)|none=>false))
 |none=>false
theorem Xg(l:List sf)(hl:l.length<=maxLen):Gk l=some (true,())↔l.length<=16/\ ∀k,k<l.length->YE l k=true:=by
 have fm:=Na (B:=IU) l.length (λk=>((l,(k:Int),()),(),())) (.inr ((l,(),()),(),())) (λ_=> .inl ((l,false,()),(),())) (λk=> !YE l k)
  (by simp only[IU];rw[j6,if_neg (by omega)])
  (λk hk=>by
    have c1: (k:Int)< (l.length:Int):=by omega
    have c2: (0:Int)<=(k:Int):=by omega
    simp only[IU,j6,C7,if_pos c1,if_pos c2,cO,an hk,ak,NE,FW,kT hl hk,Fc,YE];cases HK l[k].epoch 1 20 with
    |false=>rfl
    |true=>
     cases ZW l[k].op with
     |false=>rfl
     |true=>
      by_cases h0:0<k
      ·have c3: (k:Int)>0:=by omega
       have c4: (0:Int)<=((k-1:Nat):Int):=by omega
       have c5: ¬k=0:=by omega
       have e2:l[k-1]? =some l[k-1] :=an (by omega);simp only[DG,if_pos c3,CO h0 (by omega),if_pos c4,cO,e2,ak,decide_eq_false c5,dH,cd,Bool.not_not];by_cases hlt:l[k-1].epoch>l[k].epoch
       ·rw[if_pos hlt,decide_eq_true hlt];rfl
       ·rw[if_neg hlt,decide_eq_false hlt];rfl
      ·have c3: ¬ (k:Int)>0:=by omega
       have c5:k=0:=by omega
       simp only[DG,if_neg c3,decide_eq_true c5];rfl)
 unfold Gk;rcases fm with ⟨k1,k2⟩| ⟨k,h0,k1,k2,_⟩
 ·rw[show Nb ((l,0,()),(),())=_ from k1];simp only[ak,EV,af,au,and_true,decide_eq_true_eq];constructor
  ·intro h;exact⟨by omega,λk hk=>by simpa using k2 k hk⟩
  ·intro h;omega
 ·rw[show Nb ((l,0,()),(),())=_ from k1];simp only[ak,EX,af,au,and_true];constructor
  ·intro h;cases h
  ·rintro⟨_,h⟩
   have:=h k h0;rw[this] at k2;cases k2
structure VM (m:nX):Prop where
 vlen:m.objects.length=3
 vobj: ∀v∈m.objects,HK v 0 9=true
 vses: ∀x∈m.sessions,HK x.client 0 2=true/\HK x.seq 1 99=true/\HK x.result.value 0 9=true
 vasc:m.sessions.Pairwise λx y=>x.client<y.client
theorem ZY{o:Op}(h:ZW o=true):HK o.client 0 2=true/\HK o.seq 1 99=true/\HK o.value 0 9=true:=by
 have h0:FD o=some (true,()):=by rw[NE,h]
 unfold FD at h0;simp only[FW,ak] at h0;cases h1:HK o.client 0 2 with
 |false=>rw[h1] at h0;cases h0
 |true=>
  cases h2:HK o.seq 1 99 with
  |false=>rw[h1,h2] at h0;cases h0
  |true=>
   cases h3:HK o.object 0 2 with
   |false=>rw[h1,h2,h3] at h0;cases h0
   |true=>
    cases h4:HK o.value 0 9 with
    |false=>rw[h1,h2,h3,h4] at h0;cases h0
    |true=>exact⟨rfl,rfl,rfl⟩
end
section
theorem OP(x:qN)(ok:F0 1048576 x)(id:Int): ∃b,GN x id=some (b,())/\KO x id=some (b,())/\(b=true->Fd x=some (true,())/\0<=id/\id<5/\ ∀s,x.servers[id.toNat]? =some s->Ga s id=some (true,())):=by
 obtain⟨v,v1,v2⟩:=F6 x ok;cases v with
 |false=>
  refine⟨false,?_,?_,nofun⟩
  ·unfold GN;simp only[v1,ak,CS]
  ·unfold KO FA;simp only[v2,ak,CS]
 |true=>
  cases hw:HK id 0 4 with
  |false=>
   refine⟨false,?_,?_,nofun⟩
   ·unfold GN;simp only[v1,FW,hw,ak,DG,CS]
   ·unfold KO FA;simp only[v2,K9,hw,ak,DG,CS]
  |true=>
   have hid:=Fi.1 hw;obtain⟨s,s1,s2,s3⟩:=Lo ok (FX ok v1) (a:=id) (by omega);obtain⟨b,b1,b2⟩:=Mu s id s2;refine⟨b,?_,?_,λhb=>⟨v1,hid.1,by omega,λs' hs=> ?_⟩⟩
   ·unfold GN;simp only[v1,FW,hw,ak,DG,C7,if_pos hid.1,s1,b1]
   ·unfold KO FA;simp only[v2,K9,hw,ak,DG,C7,if_pos hid.1,s1,b2]
   ·rw[s1] at hs;obtain rfl:=Option.some.inj hs;rw[b1,hb]
theorem X5(l:List sf)(hl:l.length<=1048576)(hv:Gk l=some (true,())):N4 l=some (((cutAt l:Nat):Int),l.drop (cutAt l),()):=by
 unfold N4 OG;have hc:cutAt l<=l.length:=by unfold cutAt;omega
 have c1: (0:Int)<=((cutAt l:Nat):Int)/\((cutAt l:Nat):Int)<=(l.length:Int)/\(l.length:Int)<=(l.length:Int):=by omega
 have ht: ((l.drop (cutAt l)).take (l.length-cutAt l))=l.drop (cutAt l):=bS (by simp);simp only[hv,ak,dk,CS,W6 l hl,C7,if_pos c1,cO,ht,(KL (l.drop (cutAt l)) (by simp;omega)).1]
end
section
def Tt{α:Type}(Q:α->Prop)(r:Option α):Prop:=∃a,r=some a/\Q a
section
variable {α β σ ε:Type} {Q:α->Prop} {Q':β->Prop}
theorem Tt.ret{a:α}(h:Q a):Tt Q (some a):=⟨a,rfl,h⟩
theorem Tt.bind{r:Option α}{k:α->Option β}(h:Tt Q r)(hk: ∀a,Q a->Tt Q' (k a)):Tt Q' (r.bind k):=by obtain⟨a,rfl,h⟩:=h;exact hk a h
theorem Tt.mono{Q2:α->Prop}{r:Option α}(h:Tt Q r)(hq: ∀a,Q a->Q2 a):Tt Q2 r:=h.imp λ_ h=>⟨h.1,hq _ h.2⟩
theorem Tt.ip{p:Prop}{d:Decidable p}{x y:Option α}(hp:p)(h:Tt Q x):Tt Q (@iteP _ p d x y):=by rw[jq hp];exact h
theorem Tt.br{b:Bool}{x y:Option α}(h1:b=true->Tt Q x)(h2:b=false->Tt Q y):Tt Q (br b x y):=by
 cases b with
 |true=>exact h1 rfl
 |false=>exact h2 rfl
theorem Tt.get{γ:Type}{l:List γ}{i:Nat}{k:γ->Option α}(hi:i<l.length)(h: ∀x,l[i]? =some x->x∈l->Tt Q (k x)):Tt Q ((l[i]?).bind k):=by rw[an hi];exact h _ (an hi) (dq hi)
theorem Tt.loop{B:σ->Option (σ⊕ε)}{E:ε->Prop}(I:σ->Prop)(μ:σ->Nat)(h: ∀s,I s->Tt (Sum.elim (λs'=>I s'/\μ s'<μ s) E) (B s)){s:σ}(hs:I s):Tt E (md B s):=
 AF I μ E (λs hs=>by
  obtain⟨r,h1,h2⟩:=h s hs;cases r with
  |inl s'=>exact .inl ⟨s',h1,h2.1,h2.2⟩
  |inr e=>exact .inr ⟨e,h1,h2⟩) hs
theorem Tt.go{p:Prop}[Decidable p]{x y:Option α}(hp:p)(h:Tt Q x):Tt Q (Go.Proofs.YtkghndikalnipabGreat.En.br (decide p) x y):=by rw[j6,if_pos hp];exact h
theorem Tt.end{p:Prop}[Decidable p]{x y:Option α}(hp: ¬p)(h:Tt Q y):Tt Q (Go.Proofs.YtkghndikalnipabGreat.En.br (decide p) x y):=by rw[j6,if_neg hp];exact h
theorem Tt.count{B:σ->Option (σ⊕ε)}{E:ε->Prop}(n:Nat)(m:Nat->β->σ)(J:Nat->β->Prop)(h0: ∀b,J n b->Tt (Sum.elim (λ_=>False) E) (B (m n b)))
  (h1: ∀k b,k<n->J k b->Tt (Sum.elim (λs=> ∃b',s=m (k+1) b'/\J (k+1) b') E) (B (m k b))) (b:β) (hb:J 0 b):Tt E (md B (m 0 b)):=by
 have go: ∀ (d k:Nat) (b:β),k+d=n->J k b->Tt E (md B (m k b)):=by
  intro d
  induction d with
  |zero=>
   intro k b hk hb;obtain rfl:k=n:=hk;obtain⟨r,e1,e2⟩:=h0 b hb;cases r with
   |inl s=>exact e2.elim
   |inr e=>exact⟨e,by rw[kj,e1];rfl,e2⟩
  |succ d ih=>
   intro k b hk hb;obtain⟨r,e1,e2⟩:=h1 k b (by omega) hb;cases r with
   |inl s=>obtain⟨b',rfl,hb'⟩:=e2;rw[kj,e1];exact ih (k+1) b' (by omega) hb'
   |inr e=>exact⟨e,by rw[kj,e1];rfl,e2⟩
 exact go n 0 b (aM n) hb
end
abbrev T1{α:Type}(_:α):Prop:=True
theorem KB{l:List Int}(ha:Mw l): ∀y∈l,0<=y/\y<5:=by intro y hy;obtain⟨k,hk,rfl⟩:=aQ hy;have:=(ha k hk).1;omega
theorem Ni(c:om)(h:GO maxLen c):Tt (λy=>y.1.length<=10/\ ∀z∈y.1,0<=z/\z<5) (Gi c):=by obtain⟨v,v1,_⟩:=JF c h;unfold Gi;rw[v1,ak,Fc];refine .br (λe=> ?_) λ_=> .ret ⟨bH _,nofun⟩;subst e;obtain⟨a1,a2,_⟩:=LL h v1;have l1:=a1.len;have l2:=a2.len;obtain⟨r,r1,_,r4,r5⟩:=X6 c.replicas c.witnesses (by omega) (by omega);rw[r1];exact .ret ⟨by show r.length<=10;omega,λz hz=>((r4 z).1 hz).elim (KB a1 z) (KB a2 z)⟩
theorem U3{x:qN}(ok:F0 1048576 x)(vc:VC x)(a b:Int):Tt T1 (Gv x.sides a b):=by have h5:=K8 (Fq ok.2.1) vc.sides;unfold Gv;simp only[vc.sides,FW,ak,DG];refine .br (λha=> .br (λhb=> ?_) λ_=> .ret trivial) λ_=> .ret trivial;have ha:=Fi.1 ha;have hb:=Fi.1 hb;exact .ip ha.1 (.get (by omega) λ_ _ _=> .ip hb.1 (.get (by omega) λ_ _ _=> .ret trivial))
theorem Tt.srv{α:Type}{Q:α->Prop}{x:qN}(ok:F0 1048576 x)(vc:VC x){a:Int}(ha:0<=a/\a<5){k:qQ->Option α}(h: ∀s,x.servers[a.toNat]? =some s->F1 1048576 s->Fn s a=some (true,())->Tt Q (k s)):Tt Q (iteP (0<=a) ((x.servers[a.toNat]?).bind k) none):=by obtain⟨s,s1,s2,s3⟩:=Lo ok vc ha;refine .ip ha.1 ?_;rw[s1];exact h s s1 s2 s3
theorem Xf{x:qN}(ok:F0 1048576 x)(vc:VC x){a b:Int}(ha:0<=a/\a<5)(hb:0<=b/\b<5):Tt T1 (Kq x a b):=by unfold Kq;refine .srv ok vc hb λm m1 m2 _=> .bind (U3 ok vc a b) λ_ _=> .br (λ_=> .br (λ_=> .srv ok vc ha λp p1 p2 _=> .br (λ_=> .srv ok vc ha λ_ _ _ _=> .br (λ_=> .srv ok vc ha λq _ _ _=> ?_) λ_=> .ret trivial) λ_=> .ret trivial) λ_=> .ret trivial) λ_=> .ret trivial;rw[(Ht m.config q.config (Fx m2.1)).1];exact .ret trivial
theorem N6{l:List sf}(h:l.length<=maxLen): ∃b,Gk l=some (b,())/\(b=true->l.length<=16):=by
 rcases isLog l h with ⟨h1,_,h2⟩| ⟨h1,_⟩
 ·exact⟨true,h1,λ_=>h2⟩
 ·exact⟨false,h1,nofun⟩
theorem PJ{l:List sf}(h:l.length<=1048576):Gj l=some (l,()):=(KL l h).1
theorem YZ(l:List sf)(c q:Int)(hl:l.length<=maxLen):Tt (λy=>y.1= -1\/0<=y.1/\y.1< (l.length:Int)) (MW l c q):=by
 unfold MW;refine .bind (.count (B:=Kg) (E:=Sum.elim (λy=>0<=y.1.1/\y.1.1< (l.length:Int)) λ_=>True) l.length (λk (_:Unit)=>((l,c,q,(k:Int),()),(),())) (λ_ _=>True) (λ_ _=> ?_) (λk _ hk _=> ?_) () trivial) λy hy=> ?_
 ·unfold Kg;simp only[j6];rw[if_neg (by omega)];exact .ret trivial
 ·unfold Kg;simp only[j6];rw[if_pos (by omega)];refine .ip (by omega) (.get (by omega) λ_ _ _=> .br (λ_=> .ip (by omega) (.get (by omega) λ_ _ _=> .br (λ_=> .ret ?_) λ_=> .ret ⟨(),by rw[kT hl hk],trivial⟩)) λ_=> .ret ⟨(),by rw[kT hl hk],trivial⟩);exact⟨by show (0:Int)<=k;omega,by show (k:Int)<_;omega⟩
 ·cases y with
  |inl y=>exact .ret (.inr hy)
  |inr y=>exact .ret (.inl rfl)
end
section
theorem Pt{l:List qQ}(h:l.length<=1048576/\ ∀s∈l,F1 1048576 s){s:qQ}(hs:F1 1048576 s)(i:Nat): (l.set i s).length<=1048576/\ ∀s'∈l.set i s,F1 1048576 s':=
 ⟨by rw[EL];exact h.1,λs' hm=>(db hm).elim (h.2 s') λe=>e ▸ hs⟩
theorem ZJ(x:qN)(ok:F0 1048576 x)(id:Int): ∃y n,I7 x id=some (y,n,())/\F0 1048576 y/\y.servers.length=x.servers.length:=by
 obtain⟨b,b1,_,b2⟩:=RC x id ok;unfold I7;simp only[(HF x ok).1,b1,ak,Fc];cases b with
 |false=>exact⟨x,1,rfl,ok,rfl⟩
 |true=>
  obtain⟨hv,h0,h5⟩:=b2 rfl;obtain⟨s,s1,_⟩:=Lo ok (FX ok hv) ⟨h0,h5⟩;have hlt:=yw s1;have hs:=ok.1.2 s (ay s1);simp only[DG,C7,if_pos h0,s1,ak];rw[if_pos ⟨h0,by omega⟩];cases s.up with
  |false=>exact⟨x,2,rfl,ok,rfl⟩
  |true=>exact⟨_,0,rfl,⟨Pt ok.1 (show F1 1048576 ⟨false,s.intact,s.version,s.epoch,s.config,s.first,s.log,s.commit,s.learned⟩ from hs) _,ok.2⟩,EL⟩
theorem X4(x:qN)(ok:F0 1048576 x)(id:Int): ∃y n,Ih x id=some (y,n,())/\F0 1048576 y/\y.servers.length=x.servers.length:=by
 obtain⟨b,b1,_,b2⟩:=RC x id ok;unfold Ih;simp only[(HF x ok).1,b1,ak,Fc];cases b with
 |false=>exact⟨x,1,rfl,ok,rfl⟩
 |true=>
  obtain⟨hv,h0,h5⟩:=b2 rfl;obtain⟨s,s1,_⟩:=Lo ok (FX ok hv) ⟨h0,h5⟩;have hlt:=yw s1;have hs:=ok.1.2 s (ay s1);simp only[DG,C7,if_pos h0,s1,ak];rw[if_pos ⟨h0,by omega⟩];cases s.up with
  |true=>exact⟨x,1,rfl,ok,rfl⟩
  |false=>exact⟨_,0,rfl,⟨Pt ok.1 (show F1 1048576 ⟨true,s.intact,s.version,s.epoch,s.config,s.first,s.log,s.commit,s.learned⟩ from hs) _,ok.2⟩,EL⟩
theorem aad(x:qN)(ok:F0 1048576 x)(id:Int): ∃y n,LS x id=some (y,n,())/\F0 1048576 y/\y.servers.length=x.servers.length:=by
 obtain⟨b,b1,_,b2⟩:=RC x id ok;unfold LS;simp only[(HF x ok).1,b1,ak,Fc];cases b with
 |false=>exact⟨x,1,rfl,ok,rfl⟩
 |true=>obtain⟨hv,h0,h5⟩:=b2 rfl;obtain⟨s,s1,_⟩:=Lo ok (FX ok hv) ⟨h0,h5⟩;have hlt:=yw s1;simp only[DG,C7,if_pos h0,s1,ak,Lw];rw[if_pos ⟨h0,by omega⟩];exact⟨_,0,rfl,⟨Pt ok.1 ⟨⟨bH _,bH _⟩,bH _,bH _⟩ _,ok.2⟩,EL⟩
theorem XZ(x:qN)(ok:F0 1048576 x)(n:Int): ∃y k,JX x n=some (y,k,())/\F0 1048576 y/\y.servers.length=x.servers.length:=by
 obtain⟨v,v1,_⟩:=F6 x ok;unfold JX;simp only[(HF x ok).1,v1,FW,ak,Fc];cases v with
 |false=>exact⟨x,1,rfl,ok,rfl⟩
 |true=>
  simp only[DG];cases HK n 0 3 with
  |false=>exact⟨x,1,rfl,ok,rfl⟩
  |true=>exact⟨_,0,rfl,ok,rfl⟩
theorem aag(x:qN)(ok:F0 1048576 x)(a b:Int): ∃y k,JT x a b=some (y,k,())/\F0 1048576 y/\y.servers.length=x.servers.length:=by
 obtain⟨v,v1,_⟩:=F6 x ok;obtain⟨u,u1,_⟩:=NU x.sides (Fq ok.2.1)
 have hm: ∃l t,LU x.sides a b=some (l,t,())/\l.length=x.sides.length:=by
  unfold LU;simp only[bK,C7,u1,FW,ak,Fc];rw[if_pos (show x.sides.length*8<=2 ^ 40 by have:=ok.2.1;omega)];cases u with
  |false=>exact⟨_,_,rfl,rfl⟩
  |true=>
   simp only[DG];cases hw:HK a 0 4 with
   |false=>exact⟨_,_,rfl,rfl⟩
   |true=>
    simp only[DG];cases HK b 0 3 with
    |false=>exact⟨_,_,rfl,rfl⟩
    |true=>have hw:=Fi.1 hw;have hl:=K8 (Fq ok.2.1) u1;simp only[DG];rw[if_pos ⟨hw.1,by omega⟩,an (by omega)];exact⟨_,_,rfl,EL⟩
 obtain⟨l,t,l1,l2⟩:=hm;unfold JT;simp only[(HF x ok).1,v1,l1,ak,Fc];cases v with
 |false=>exact⟨x,1,rfl,ok,rfl⟩
 |true=>
  cases t with
  |false=>exact⟨x,1,rfl,ok,rfl⟩
  |true=>exact⟨_,0,rfl,⟨ok.1,by show l.length<=1048576;rw[l2];exact ok.2.1,ok.2.2⟩,rfl⟩
theorem U2(x:qN)(ok:F0 1048576 x)(id:Int): ∃n:Int,JE x id=some (n,())/\(n=0->Fd x=some (true,())/\0<=id/\id<5):=by
 obtain⟨v,v1,_⟩:=F6 x ok;unfold JE;simp only[v1,FW,ak,Fc];cases v with
 |false=>exact⟨1,rfl,λh=>absurd h (by decide)⟩
 |true=>
  simp only[DG];cases hw:HK id 0 4 with
  |false=>exact⟨1,rfl,λh=>absurd h (by decide)⟩
  |true=>
   have hw:=Fi.1 hw;obtain⟨s,s1,_⟩:=Lo ok (FX ok v1) ⟨hw.1,by omega⟩;simp only[DG,C7,if_pos hw.1,s1,ak];cases s.up with
   |false=>exact⟨2,rfl,λh=>absurd h (by decide)⟩
   |true=>exact⟨0,rfl,λ_=>⟨trivial,hw.1,by omega⟩⟩
end
section
theorem tn{k n:Nat}(h:k<n): (k:Int).toNat<n:=h
theorem UV(m:nX)(ho:m.objects.length<=1000)(hs:m.sessions.length<=1000):Tt (λy=>y.1=true->m.objects.length=3) (G6 m):=by
 have mo:m.objects.length<=maxLen:=by unfold maxLen;omega
 have ms:m.sessions.length<=maxLen:=by unfold maxLen;omega
 unfold G6;refine .bind (.count (B:=H6) (E:=Sum.elim (λy=>y.1.2=(false,())) λy=>y.2.1=((m.objects,m.sessions,()),())) m.objects.length (λk (_:Unit)=>(((),(k:Int),()),((m.objects,m.sessions,()),()),())) (λ_ _=>True) (λ_ _=> .end (EK _) (.ret rfl)) (λk _ hk _=> .go (EJ.2 hk) (.ip (EI k) (.get (tn hk) λx _ _=> ?_))) () trivial) λy hy=> ?_
 ·rw[FW,ak,Fc];exact .br (λ_=> .ret ⟨(),by rw[kT mo hk],trivial⟩) λ_=> .ret rfl
 cases y with
 |inl y=>exact .ret (by rw[show y.1.2=_ from hy];nofun)
 |inr y=>
  show Tt _ ((Ma (((),0,()),y.2.1,())).bind _);rw[show y.2.1=_ from hy];refine .bind (.count (B:=H7) (E:=Sum.elim (λy=>y.1.2=(false,())) λy=>y.2.1=((m.objects,m.sessions,()),())) m.sessions.length (λk (_:Unit)=>(((),(k:Int),()),((m.objects,m.sessions,()),()),())) (λ_ _=>True) (λ_ _=> .end (EK _) (.ret rfl)) (λk _ hk _=> .go (EJ.2 hk) (.ip (EI k) (.get (tn hk) λx _ _=> ?_))) () trivial) λy hy=> ?_
  ·simp only[FW,ak,Fc]
   have hw: (k:Int)>0->IntKind.wrap .i64 ((k:Int)-1)=(k:Int)-1:=λh=>by unfold maxLen at ms;exact of (by omega) (by omega)
   refine .br (λ_=> .br (λ_=> .br (λ_=> .br (λh=> ?_) λ_=> .ret ⟨(),by rw[kT ms hk],trivial⟩) λ_=> .ret rfl) λ_=> .ret rfl) λ_=> .ret rfl;have h:=of_decide_eq_true h;rw[hw h];exact .ip (by omega) (.get (by omega) λ_ _ _=> .br (λ_=> .ret rfl) λ_=> .ret ⟨(),by rw[kT ms hk],trivial⟩)
  cases y with
  |inl y=>exact .ret (by rw[show y.1.2=_ from hy];nofun)
  |inr y=>show Tt _ (some (((y.2.1.1.1.length:Int)==3),()));rw[show y.2.1=_ from hy];exact .ret λh=>by have : (m.objects.length:Int)=3:=eq_of_beq h;omega
theorem X9(m:nX)(c:Int)(hs:m.sessions.length<=1000):Tt (λy=>y.2.1=true-> ∃x∈m.sessions,x.client=c) (KX m c):=by
 have ms:m.sessions.length<=maxLen:=by unfold maxLen;omega
 unfold KX;refine .bind (.count (B:=KK) (E:=Sum.elim (λy=> ∃x∈m.sessions,x.client=c) λ_=>True) m.sessions.length (λk (_:Unit)=>((c,(),(),(k:Int),()),((m.objects,m.sessions,()),(0,0,false,0,()),()),())) (λ_ _=>True) (λ_ _=> .end (EK _) (.ret trivial)) (λk _ hk _=> .go (EJ.2 hk) (.ip (EI k) (.get (tn hk) λx _ hx=> .br (λe=> .ip (EI k) (.get (tn hk) λ_ _ _=> .ret ⟨x,hx,eq_of_beq e⟩)) λ_=> .ret ⟨(),by rw[kT ms hk],trivial⟩))) () trivial) λy hy=> ?_;cases y with
 |inl y=>exact .ret λ_=>hy
 |inr y=>exact .ret nofun
theorem U8(m:nX)(o:Op)(ho:m.objects.length<=1000)(hs:m.sessions.length<=900):Tt (λy=>y.1.sessions.length<=m.sessions.length+1/\y.1.objects.length=m.objects.length) (Kj m o):=by
 obtain⟨⟨b,_⟩,v1,v2⟩:=UV m ho (by omega);unfold Kj
 have cp:N5 m=some (m,()):=by unfold N5;simp only[bK];rw[jq (by omega),jq (by omega)]
 rw[cp,ak,v1,ak,Fc,NE];refine .br (λe=> ?_) λ_=> .ret ⟨cM _,rfl⟩;have h3:=v2 e;rw[ak,Fc];refine .br (λeo=> .bind (X9 m o.client (by omega)) λy hy=> ?_) λ_=> .ret ⟨cM _,rfl⟩;have hob:=Wi (show FD o=some (true,()) by rw[NE];rw[show ZW o=true from eo]);have hle:=YP m.sessions o.client;have hlt:y.2.1=true->Pv m.sessions o.client<m.sessions.length:=λh=>YQ (hy h);have hw:IntKind.wrap .i64 (((Pv m.sessions o.client:Nat):Int)+1)=((Pv m.sessions o.client:Nat):Int)+1:=of (by omega) (by omega);generalize hp:Pv m.sessions o.client=p at hle hlt hw
 have ln: ∀ (k:Nat) (z:nY),k<=m.sessions.length+1->p<=k->(m.sessions.take p++ [z] ++(m.sessions.drop k).take (m.sessions.length-k)).length=p+1+(m.sessions.length-k):=λk z h1 h2=>by simp only[be,ci,bR,cn];omega
 have g0:0<=(p:Int):=EI p;have g1: (p:Int)<=(m.sessions.length:Int):=Int.ofNat_le.2 hle;have g3:0<=(p:Int)+1:=by omega
 have g2:y.2.1=true->(p:Int)+1<=(m.sessions.length:Int):=λh=>by have:=hlt h;omega
 have l1: (m.sessions.take p).length<=900:=by rw[ci];omega
 extract_lets+lift j44 j45
 have h44:Tt (λy=>y.1.sessions.length<=m.sessions.length+1/\y.1.objects.length=m.objects.length) j44:=by
  unfold j44;refine .ip hob.1 (.get (by show o.object.toNat<_;omega) λx _ _=> .br (λ_=> .ip (by show 0<=o.object/\o.object< (m.objects.length:Int);omega) (.get (by show o.object.toNat<m.objects.length;omega) λ_ _ _=> ?_)) λ_=> .br (λ_=> .ip (by show 0<=o.object/\o.object< (m.objects.length:Int);omega) (.get (by show o.object.toNat<m.objects.length;omega) λ_ _ _=> ?_)) λ_=> ?_)
  all_goals
   show Tt _ ((LC (((),(),(),(),y.2.1,(),0,()),((o.client,o.seq,o.kind,o.object,o.old,o.value,()),((),(),()),(false,0,()),((),(),()),(_,_,()),()),_,m.sessions,())).bind _);rw[aau _ _ _ _ _ _ (by omega),hp,ak];simp only[hw,bK,aM,cF,cO,show (0:Int).toNat=0 from rfl,ET,show ((p:Int)+1).toNat=p+1 from rfl];refine .ip ⟨g0,g1,c9 _⟩ (.br (λe=> ?_) λ_=> ?_)
   ·have:=hlt e;refine .ip ⟨g3,g2 e,c9 _⟩ (.ip ⟨c9 _,g0,g1⟩ (.ip hle (.ip (by omega) (.ip (by rw[be,cn];omega) (.ip (by omega) (.ip (by rw[ln _ _ (by omega) (by omega)];omega) (.ret ⟨?_,by first |rfl|exact EL⟩)))))));show List.length _<=_;rw[ln _ _ (by omega) (by omega)];omega
   ·refine .ip ⟨c9 _,g0,g1⟩ (.ip hle (.ip (by omega) (.ip (by rw[be,cn];omega) (.ip (by omega) (.ip (by rw[ln _ _ (by omega) (by omega)];omega) (.ret ⟨?_,by first |rfl|exact EL⟩))))));show List.length _<=_;rw[ln _ _ (by omega) (by omega)];omega
 have h45:Tt (λy=>y.1.sessions.length<=m.sessions.length+1/\y.1.objects.length=m.objects.length) j45:=.br (λ_=> .br (λ_=> .ret ⟨cM _,rfl⟩) λ_=>h44) λ_=>h44;exact .br (λ_=> .br (λ_=> .ret ⟨cM _,rfl⟩) λ_=>h45) λ_=>h45
theorem Ul(l:List sf)(hl:l.length<=maxLen):Tt (λy=>y.1.objects.length<=3/\y.1.sessions.length<=16) (IG l):=by obtain⟨b,b1,b2⟩:=N6 hl;unfold IG Lu;rw[ak,b1,ak,Fc];refine .br (λe=> ?_) λ_=> .ret ⟨bH _,bH _⟩;have h16:=b2 e;refine .bind (.count (B:=KI) (E:=λy=>y.2.2.1.length<=3/\y.2.2.2.1.length<=16) l.length (λk (b:List Int×List nY)=>((l,(),(),(k:Int),()),(((),(),()),((),(),()),()),b.1,b.2,())) (λk b=>b.1.length<=3/\b.2.length<=k) (λb hb=> .end (EK _) (.ret ⟨hb.1,ba hb.2 h16⟩)) (λk b hk hb=> .go (EJ.2 hk) (.ip (EI k) (.get (tn hk) λx _ _=> .bind (U8 ⟨b.1,b.2⟩ x.op (ba hb.1 (by omega)) (ba hb.2 (by omega))) λy hy=> .ret ⟨(y.1.objects,y.1.sessions),by rw[kT hl hk],by rw[hy.2];exact hb.1,ba hy.1 (Nat.succ_le_succ hb.2)⟩))) ([0,0,0],[]) ⟨az _,az _⟩) λy hy=> .ret hy
theorem Wk(l:List sf)(i:Int)(hl:l.length<=maxLen):Tt T1 (Km l i):=by obtain⟨b,b1,b2⟩:=N6 hl;unfold Km;rw[b1,ak,Fc];refine .br (λe=> ?_) λ_=> .ret trivial;have h16:=b2 e;rw[of (n:=(l.length:Int)-1) (by omega) (by omega),FW,ak,Fc];refine .br (λh=> ?_) λ_=> .ret trivial;have h:=Fi.1 h;refine .ip (by omega) (.bind (Ul _ ?_) λy hy=> .ip h.1 (.get (by omega) λx _ _=> .bind (U8 _ _ (by omega) (by omega)) λz _=> .ret trivial));refine ba ?_ hl;rw[ci,bR];omega
theorem Ph(s:qQ)(h:F1 1048576 s)(hf:0<=s.first/\s.first<=16/\s.log.length<=16):Tt (λy=>y.1.length<=16) (FB s):=by
 unfold FB;rw[of (n:=s.first+(s.log.length:Int)) (by omega) (by omega)];simp only[FW,ak,Fc];refine .br (λh1=> ?_) λ_=> .ret (bH _);have h1:=Fi.1 h1;refine .br (λ_=> .ret (bH _)) λ_=> ?_;rw[of (n:=s.commit-s.first) (by omega) (by omega)]
 have hlen: ((s.log.drop (0:Int).toNat).take ((s.commit-s.first).toNat-(0:Int).toNat)).length<=16:=by rw[ci,bR];omega
 refine .ip (by omega) ?_;rw[PJ (by omega)];exact .ret hlen
theorem aaj(m:nX)(i:Int)(ho:m.objects.length<=1000)(hs:m.sessions.length<=1000):Tt T1 (JW m i):=by obtain⟨⟨b,_⟩,b1,b2⟩:=UV m ho hs;unfold JW;rw[b1,ak,Fc];refine .br (λe=> ?_) λ_=> .ret trivial;have h3:=b2 e;rw[FW,ak,Fc];refine .br (λh=> ?_) λ_=> .ret trivial;have h:=Fi.1 h;exact .ip h.1 (.get (by omega) λ_ _ _=> .ret trivial)
theorem Un{s:qQ}{id:Int}(h:F1 1048576 s)(hv:Fn s id=some (true,())):0<=s.first/\s.first<=16/\s.log.length<=16:=by obtain⟨h1,h2,h3,_⟩:=Sz h hv;exact⟨h1,h2,h3⟩
theorem Z0(s:qQ)(i:Int)(h:F1 1048576 s)(hf:0<=s.first/\s.first<=16/\s.log.length<=16):Tt T1 (LY s i):=by unfold LY;exact .bind (Ph s h hf) λy hy=> .bind (Ul _ (by unfold maxLen;omega)) λz hz=> .bind (aaj _ _ (by omega) (by omega)) λ_ _=> .ret trivial
theorem ZN(l:vz)(a b c:Int):Tt T1 (JR l a b c):=by obtain⟨v,v1,_⟩:=OL l;unfold JR;rw[v1,ak,FW,ak];exact .br (λ_=> .br (λ_=> .br (λ_=> .br (λ_=> .br (λ_=> .ret trivial) λ_=> .ret trivial) λ_=> .ret trivial) λ_=> .ret trivial) λ_=> .ret trivial) λ_=> .ret trivial
theorem WZ(x:qN)(ok:F0 1048576 x)(id:Int):Tt T1 (HV x id):=by obtain⟨b,b1,_,b2⟩:=OP x ok id;unfold HV;rw[b1,ak];refine .br (λe=> ?_) λ_=> .ret trivial;obtain⟨hv,h0,h5,_⟩:=b2 e;exact .srv ok (FX ok hv) ⟨h0,h5⟩ λs _ _ _=> .bind (ZN _ _ _ _) λ_ _=> .ret trivial
theorem VA(x:qN)(ok:F0 1048576 x)(id i:Int):Tt T1 (KU x id i):=by obtain⟨n,n1,n2⟩:=U2 x ok id;unfold KU;rw[n1,ak,Fc];refine .br (λe=> ?_) λ_=> .ret trivial;obtain⟨hv,h0,h5⟩:=n2 (eq_of_beq e);have vc:=FX ok hv;rw[FW,ak,Fc];refine .br (λ_=> .srv ok vc ⟨h0,h5⟩ λs _ s2 _=> ?_) λ_=> .ret trivial;obtain⟨b,b1,_⟩:=Mu s id s2;rw[b1,ak,Fc];refine .br (λ_=> .bind (WZ x ok id) λy _=> ?_) λ_=> .ret trivial;rw[Fc];exact .br (λ_=> .srv ok vc ⟨h0,h5⟩ λs _ s2 s3=> .bind (Z0 s i s2 (Un s2 s3)) λ_ _=> .ret trivial) λ_=> .ret trivial
end
section
def Kp(x y:qN):Prop:=F0 1048576 y/\y.servers.length=x.servers.length
theorem Kp.self{x:qN}(ok:F0 1048576 x):Kp x x:=⟨ok,rfl⟩
theorem Kp.trans{x y z:qN}(h:Kp x y)(k:Kp y z):Kp x z:=⟨k.1,k.2.trans h.2⟩
theorem Kp.srvs{x y:qN}(h:Kp x y){S:List qQ}(hl:S.length=y.servers.length)(hs: ∀s∈S,F1 1048576 s):Kp x ⟨y.now,S,y.sides,y.master,y.masterUp,y.lease,y.places⟩:=
 ⟨⟨⟨by rw[hl];exact h.1.1.1,hs⟩,h.1.2⟩,hl.trans h.2⟩
theorem Kp.set{x y:qN}(h:Kp x y){s:qQ}(hs:F1 1048576 s)(i:Nat):Kp x ⟨y.now,y.servers.set i s,y.sides,y.master,y.masterUp,y.lease,y.places⟩:=
 h.srvs EL (Pt h.1.1 hs i).2
theorem Tt.at{α:Type}{Q:α->Prop}{l:List qQ}(h5:l.length=5){a:Int}(ha:0<=a/\a<5){k:qQ->Option α}(h: ∀s,l[a.toNat]? =some s->s∈l->Tt Q (k s)):Tt Q (iteP (0<=a/\a< (l.length:Int)) ((l[a.toNat]?).bind k) none):=
 .ip (by rw[h5];exact ha) (.get (by omega) h)
theorem ZL(x:qN)(ok:F0 1048576 x)(id:Int):Tt T1 (I8 x id):=by obtain⟨b,b1,_,b2⟩:=OP x ok id;unfold I8;rw[b1,ak,Fc];refine .br (λe=> ?_) λ_=> .ret trivial;obtain⟨hv,h0,h5,_⟩:=b2 e;have vc:=FX ok hv;refine .srv ok vc ⟨h0,h5⟩ λs _ s2 _=> .bind (Ni _ (Fx s2.1)) λy hy=> .bind (.count (B:=Jg) (E:=λ_=>True) y.1.length (λk (b:Int)=>(((),b,(),(k:Int),()),(fx x,()),y.1,())) (λ_ _=>True) (λ_ _=> .end (EK _) (.ret trivial)) (λk b hk _=> .go (EJ.2 hk) (.ip ⟨EI k,EJ.2 hk⟩ (.get (tn hk) λz _ hz=> .srv ok vc (hy.2 z hz) λt _ _ _=> .ret ⟨_,by rw[kT (by have:=hy.1;unfold maxLen;omega) hk],trivial⟩))) 2 trivial) λ_ _=> .ret trivial
theorem Yl(x:qN)(ok:F0 1048576 x)(id:Int)(o:Op):Tt (λy=>Kp x y.1/\(y.2.1=0->y.1.servers.length=5/\0<=id/\id<5)) (Hv x id o):=by
 obtain⟨v,v1,_⟩:=F6 x ok;unfold Hv;rw[(HF x ok).1,ak,v1,ak,Fc];have bad: ∀n:Int,n≠0->Tt (λy:qN×Int×Unit=>Kp x y.1/\(y.2.1=0->y.1.servers.length=5/\0<=id/\id<5)) (some (x,n,())):=λn hn=> .ret ⟨.self ok,λh=>absurd h hn⟩;refine .br (λe=> ?_) λ_=>bad 1 (by decide);subst e;have vc:=FX ok v1;rw[FW,ak,Fc];refine .br (λh=> ?_) λ_=>bad 1 (by decide);have h:=Fi.1 h;have hid:0<=id/\id<5:=by omega
 rw[NE,ak,Fc];refine .br (λ_=> .srv ok vc hid λs s1 s2 s3=> ?_) λ_=>bad 1 (by decide);rw[Fc];refine .br (λ_=> ?_) λ_=>bad 2 (by decide);obtain⟨b,b1,_⟩:=Mu s id s2;rw[b1,ak,Fc];refine .br (λ_=> .bind (YZ s.log _ _ (Fq s2.2.1)) λy hy=> ?_) λ_=>bad 3 (by decide);have good: ∀n:Int,Tt (λy:qN×Int×Unit=>Kp x y.1/\(y.2.1=0->y.1.servers.length=5/\0<=id/\id<5)) (some (x,n,())):=λn=> .ret ⟨.self ok,λ_=>⟨vc.len,hid⟩⟩
 extract_lets+lift j17 j18
 have h17:Tt (λy=>Kp x y.1/\(y.2.1=0->y.1.servers.length=5/\0<=id/\id<5)) j17:=by
  unfold j17;refine .at vc.len hid λs' e' hs'=> ?_;show Tt _ ((x.servers[id.toNat]?).bind _);rw[e',ak];have hs:=ok.1.2 s' hs';have hs3:=hs.2.1;obtain rfl:s'=s:=by rw[s1] at e';exact (Option.some.inj e').symm
  have hl:=(Un s2 s3).2.2;refine .ip rfl ?_;have e1: ∀X Y:Option (qN×Int×Unit),iteP (s'.log.length<s'.log.length) X Y=Y:=λX Y=>by rw[C7,if_neg (dI _)]
  rw[e1]
  have hl2: (s'.log.take s'.log.length++([(⟨s'.epoch,o⟩:sf)]:List sf)).length<=17:=by rw[be,ci,cn];omega
  refine .ip (by omega) (.ip (by show 0<=id/\id< (x.servers.length:Int);rw[vc.len];exact hid) (.ip rfl (.ret ⟨(Kp.self ok).set (s:=⟨s'.up,s'.intact,s'.version,s'.epoch,s'.config,s'.first,s'.log.take s'.log.length++ [⟨s'.epoch,o⟩],s'.commit,s'.learned⟩) ⟨hs.1,ba hl2 (by omega),hs.2.2⟩ _,λ_=>⟨by show (x.servers.set _ _).length=5;rw[EL];exact vc.len,hid⟩⟩)))
 have h18:Tt (λy=>Kp x y.1/\(y.2.1=0->y.1.servers.length=5/\0<=id/\id<5)) j18:=by unfold j18;refine .bind (Ul s.log (Fq s2.2.1)) λm hm=> .bind (U8 m.1 o (by omega) (by omega)) λz _=> ?_;rw[Fc];refine .br (λ_=> .bind (Q:=T1) (by unfold Ir;exact .ret trivial) λw _=> ?_) λ_=>good 11;exact .br (λ_=> .bind (ZL x ok id) λ_ _=> .br (λ_=>good 6) λ_=> .br (λ_=>good 5) λ_=>h17) λ_=> .br (λ_=>good 5) λ_=>h17
 refine .br (λh=> .ip (of_decide_eq_true h) (.get ?_ λe _ _=> ?_)) λ_=> .br (λ_=>good 0) λ_=>h18
 ·have h:=of_decide_eq_true h;omega
 ·rw[Fc];exact .br (λ_=> .br (λ_=>good 0) λ_=>h18) λ_=>good 11
theorem aai(x:qN)(ok:F0 1048576 x)(id m:Int):Tt (λy=>Kp x y.1/\(y.2.1=true->0<=m/\m<5)) (IE x id m):=by
 obtain⟨b,b1,_,b2⟩:=OP x ok id;have bad:Tt (λy:qN×Bool×Unit=>Kp x y.1/\(y.2.1=true->0<=m/\m<5)) (some (x,false,())):=.ret ⟨.self ok,nofun⟩;unfold IE;rw[(HF x ok).1,ak,b1,ak,Fc];refine .br (λe=> ?_) λ_=>bad;obtain⟨hv,h0,h5,hp⟩:=b2 e;have vc:=FX ok hv;refine .srv ok vc ⟨h0,h5⟩ λs s1 s2 s3=> .bind (Ni _ (Fx s2.1)) λy hy=> ?_;rw[(FN y.1 m (by have:=hy.1;unfold maxLen;omega)).1,ak,Fc];refine .br (λhm=> ?_) λ_=>bad;have hm:=hy.2 m (of_decide_eq_true hm);refine .bind (Xf ok vc ⟨h0,h5⟩ hm) λz _=> ?_;rw[Fc];refine .br (λ_=> .srv ok vc ⟨h0,h5⟩ λt t1 t2 t3=> .srv ok vc ⟨h0,h5⟩ λu _ u2 _=> ?_) λ_=>bad;obtain⟨n,n1,_⟩:=PE u.config m (Fx u2.1);rw[n1,ak];have five: ∀ (i:Nat) (s:qQ),(x.servers.set i s).length=5:=λi s=>by rw[EL];exact vc.len
 refine .br (λ_=> ?_) λ_=> ?_
 ·rw[X5 t.log t2.2.1 (Sz t2 t3).2.2.2.2.2.1,ak];refine .ip (by show 0<=m/\m< (x.servers.length:Int);rw[vc.len];exact hm) (.at vc.len hm λw _ hw=> ?_);have hw:=ok.1.2 w hw;refine .get (by rw[five];omega) λw' _ hw'=> .ret ⟨.srvs (.self ok) (by rw[EL,EL]) λs hs=> ?_,λ_=>hm⟩;have all:=(Pt ok.1 (s:=⟨w.up,w.intact,w.version,w.epoch,w.config,((cutAt t.log:Nat):Int),w.log,w.commit,w.learned⟩) hw m.toNat)
  have hw':=all.2 w' hw';exact (Pt all (s:=⟨w'.up,w'.intact,w'.version,w'.epoch,w'.config,w'.first,t.log.drop (cutAt t.log),w'.commit,w'.learned⟩) ⟨hw'.1,by show List.length _<=_;rw[bR];have:=t2.2.1;omega,hw'.2.2⟩ m.toNat).2 s hs
 ·rw[PJ t2.2.1,ak];exact .at vc.len hm λw _ hw=> .ret ⟨(Kp.self ok).set (s:=⟨w.up,w.intact,w.version,w.epoch,w.config,w.first,t.log,w.commit,w.learned⟩) ⟨(ok.1.2 w hw).1,t2.2.1,(ok.1.2 w hw).2.2⟩ _,λ_=>hm⟩
theorem VU{l:List qQ}(h:l.length=5/\ ∀s∈l,F1 1048576 s){s:qQ}(hs:F1 1048576 s)(i:Nat): (l.set i s).length=5/\ ∀t∈l.set i s,F1 1048576 t:=⟨by rw[EL];exact h.1,λt ht=>(db ht).elim (h.2 t) λe=>e ▸ hs⟩
abbrev fz:Int×Unit×Unit×Unit×Int×Int×Int×Int×Int×Unit×Unit:=(0,(),(),(),0,0,0,0,0,(),())
abbrev fc(x:qN):Int×Unit×Unit×Unit×Int×Int×Int×Int×Int×Unit×Unit:=(x.now,(),(),(),x.master.activated,x.masterUp,x.lease.epoch,x.lease.holder,x.lease.ends,(),())
theorem VW(x:qN)(ok:F0 1048576 x)(id:Int):Tt (λy=>Kp x y.1) (Hl x id):=by
 obtain⟨b,b1,_,b2⟩:=OP x ok id;unfold Hl;rw[(HF x ok).1,ak,b1,ak,Fc];refine .br (λe=> ?_) λ_=> .ret (.self ok);obtain⟨hv,h0,h5,hp⟩:=b2 e;have vc:=FX ok hv;refine .srv ok vc ⟨h0,h5⟩ λs s1 s2 s3=> .bind (Ni _ (Fx s2.1)) λy hy=> ?_;have hl:y.1.length<=maxLen:=by have:=hy.1;unfold maxLen;omega
 refine .bind (.count (B:=Ix) (E:=λe=> ∃ (c:qN) (a:Bool),Kp x c/\e=((id,(),(),(),a,()),(fz,fc c,()),y.1,c.servers,c.sides,c.master.configs,c.places,())) y.1.length (λk (b:qN×Bool)=>((id,(),(),(),b.2,(k:Int),()),(fz,fc b.1,()),y.1,b.1.servers,b.1.sides,b.1.master.configs,b.1.places,())) (λ_ b=>Kp x b.1) (λb hb=> .end (EK _) (.ret ⟨b.1,b.2,hb,rfl⟩)) (λk b hk hb=> .go (EJ.2 hk) (.ip ⟨EI k,EJ.2 hk⟩ (.get (tn hk) λz _ hz=> .bind (aai b.1 hb.1 id z) λw hw=> .br (λ_=> .ret ⟨(w.1,w.2.1),by rw[kT hl hk],hb.trans hw.1⟩) λ_=> .ret ⟨(w.1,false),by rw[kT hl hk],hb.trans hw.1⟩))) (x,true) (.self ok)) ?_
 rintro _ ⟨c,a,hc,rfl⟩
 refine .bind (.count (B:=H5) (E:=λe=> ∃ (c:qN) (a:Bool),Kp x c/\e=(((),(),a,()),(fz,fc c,()),c.servers,c.sides,c.master.configs,c.places,())) y.1.length (λk (b:List qQ)=>((id,(),(),(),a,(k:Int),()),(fz,fc c,()),y.1,b,c.sides,c.master.configs,c.places,())) (λ_ b=>b.length=5/\ ∀s∈b,F1 1048576 s) (λb hb=> .end (EK _) (.ret ⟨⟨c.now,b,c.sides,c.master,c.masterUp,c.lease,c.places⟩,a,hc.srvs (by rw[hb.1,hc.2,vc.len]) hb.2,rfl⟩)) (λk b hk hb=> .go (EJ.2 hk) (.br (λ_=> .ip ⟨EI k,EJ.2 hk⟩ (.get (tn hk) λz _ hz=> .at hb.1 ⟨h0,h5⟩ λp _ _=> .at hb.1 (hy.2 z hz) λq _ hq=> .ret ⟨b.set z.toNat ⟨q.up,q.intact,q.version,q.epoch,q.config,q.first,q.log,((p.log.length:Nat):Int),q.learned⟩,by rw[kT hl hk],VU hb (s:=⟨q.up,q.intact,q.version,q.epoch,q.config,q.first,q.log,((p.log.length:Nat):Int),q.learned⟩) (hb.2 q hq) _⟩)) λ_=> .ret ⟨⟨c.now,b,c.sides,c.master,c.masterUp,c.lease,c.places⟩,a,hc.srvs (by rw[hb.1,hc.2,vc.len]) hb.2,rfl⟩)) c.servers ⟨hc.2.trans vc.len,hc.1.1.2⟩) ?_
 rintro _ ⟨d,a',hd,rfl⟩
 exact .ret hd
theorem Yn(x:qN)(ok:F0 1048576 x)(id:Int)(o:Op):Tt (λy=>Kp x y.1) (LQ x id o):=by
 unfold LQ;refine .bind (Yl x ok id o) λy hy=> ?_;rw[Fc];refine .br (λe=> ?_) λ_=> .ret hy.1;obtain⟨h5,hid⟩:=hy.2 (eq_of_beq e)
 have same: ∀ {α:Type} {Q:α->Prop} {l:List qQ} {k:qQ->qQ->Option α},l.length=5->(∀s∈l,F1 1048576 s)->(∀s,F1 1048576 s->Tt Q (k s s))->Tt Q (iteP (0<=id/\id< (l.length:Int)) ((l[id.toNat]?).bind λa=>(l[id.toNat]?).bind λb=>k a b) none):=λh5 hs h=> .at h5 hid λs e1 e2=>by rw[e1,ak];exact h s (hs s e2)
 have Bm: ∀s:qQ,(s.log.drop 0).take s.log.length=s.log:=λs=>by rw[cF,EM]
 refine same h5 hy.1.1.1.2 λs hs=> .ip (by omega) ?_;rw[Bm];refine .bind (YZ _ _ _ (Fq hs.2.1)) λi _=> .at h5 hid λt _ _=> .br (λ_=> .bind (VW y.1 hy.1.1 id) λz hz=> ?_) λ_=>same h5 hy.1.1.1.2 λs hs=> .ip (by omega) ?_
 ·rw[Fc];refine .br (λ_=>same (hz.2.trans h5) hz.1.1.2 λs hs=> .ip (by omega) ?_) λ_=> .ret (hy.1.trans hz);rw[Bm];exact .bind (Wk _ _ (Fq hs.2.1)) λ_ _=> .ret (hy.1.trans hz)
 ·rw[Bm];exact .bind (Wk _ _ (Fq hs.2.1)) λ_ _=> .ret hy.1
end
section
theorem Li(x:qN)(ok:F0 1048576 x):Tt (λy=>y.1=true->VC x) (Fd x):=by obtain⟨v,v1,_⟩:=F6 x ok;exact⟨(v,()),v1,λe=>FX ok (by rw[v1,show v=true from e])⟩
theorem VX(x:qN)(ok:F0 1048576 x)(e:Int): ∃c b,Ha x.master e=some (c,b,())/\GO maxLen c/\(VC x->c.replicas.length<=5/\c.witnesses.length<=5/\(∀z∈c.replicas,0<=z/\z<5)/\(∀z∈c.witnesses,0<=z/\z<5)/\(b=true->Fh c=some (true,())/\0<=c.primary/\c.primary<5)/\Mw c.replicas):=by
 obtain⟨c,b,h1,_,h2⟩:=PI x.master e ok.2.2.1;refine⟨c,b,h1,h2,λvc=> ?_⟩;obtain⟨c',b',g1,_,g2,_,g3,g4⟩:=NW x.master e ok.2.2.1 vc.ml;rw[h1] at g1;obtain⟨rfl,rfl⟩:c=c'/\b=b':=by simpa using g1
 cases b with
 |false=>rw[g4 rfl];exact⟨bH _,bH _,nofun,nofun,nofun,λk hk=>by simp at hk⟩
 |true=>obtain⟨a1,a2,a3,_⟩:=LL g2 (g3 rfl).1;exact⟨a1.len,a2.len,KB a1,KB a2,λ_=>⟨(g3 rfl).1,KB a1 _ a3⟩,a1⟩
theorem U7(x:qN)(ok:F0 1048576 x): ∃c b,Fp x.master=some (c,b,())/\GO maxLen c/\(VC x->c.replicas.length<=5/\c.witnesses.length<=5/\(∀z∈c.replicas,0<=z/\z<5)/\(∀z∈c.witnesses,0<=z/\z<5)/\(b=true->Fh c=some (true,())/\0<=c.primary/\c.primary<5)/\Mw c.replicas):=by obtain⟨c,b,h1,h2⟩:=VX x ok x.master.activated;exact⟨c,b,by unfold Fp;rw[h1];rfl,h2⟩
theorem U1(s:qQ)(e:Int)(h:F1 1048576 s):Tt (λy=>F1 1048576 y.1) (Hx s e):=by unfold Hx;rw[(Rx s h).1,ak,FW,ak,Fc];exact .br (λ_=> .br (λ_=> .ret h) λ_=> .br (λ_=> .ret h) λ_=> .ret h) λ_=> .ret h
theorem aal(x:qN)(ok:F0 1048576 x)(id e:Int):Tt (λy=>Kp x y.1) (Jb x id e):=by
 obtain⟨c,b,c1,c2,c3⟩:=U7 x ok;unfold Jb;rw[(HF x ok).1,ak,c1,ak];refine .bind (Li x ok) λv hv=> ?_;rw[Fc];refine .br (λh=> ?_) λ_=> .ret (.self ok);have vc:=hv h;rw[Fc];refine .br (λ_=> ?_) λ_=> .ret (.self ok);rw[FW,ak,Fc];refine .br (λ_=> .bind (Ni c c2) λm hm=> ?_) λ_=> .ret (.self ok);have hl:m.1.length<=maxLen:=by have:=hm.1;unfold maxLen;omega
 refine .bind (.count (B:=Ji) (E:=λe=> ∃S:List qQ,(S.length=5/\ ∀s∈S,F1 1048576 s)/\e=(((),(),()),(fz,fc x,()),S,x.sides,x.master.configs,x.places,())) m.1.length (λk (S:List qQ)=>((id,e,(),(),(),(),(k:Int),()),(fx x,fz,fc x,()),m.1,S,x.sides,x.master.configs,x.places,())) (λ_ S=>S.length=5/\ ∀s∈S,F1 1048576 s) (λS hS=> .end (EK _) (.ret ⟨S,hS,rfl⟩)) (λk S hk hS=> .go (EJ.2 hk) (.ip ⟨EI k,EJ.2 hk⟩ (.get (tn hk) λz hz' hz=> .srv ok vc (hm.2 z hz) λs _ _ _=> .br (λ_=> .ip ⟨EI k,EJ.2 hk⟩ (.get (tn hk) λz2 _ hz2=> .bind (U3 ok vc id z2) λ_ _=> .br (λ_=> .ip ⟨EI k,EJ.2 hk⟩ (.get (tn hk) λz3 _ hz3=> .ip ⟨EI k,EJ.2 hk⟩ (.get (tn hk) λz4 _ hz4=> .srv ok vc (hm.2 z4 hz4) λt _ t2 _=> .bind (U1 t e t2) λu hu=> .at hS.1 (hm.2 z3 hz3) λ_ _ _=> .ret ⟨S.set z3.toNat u.1,by rw[kT hl hk],VU hS hu _⟩))) λ_=> .ret ⟨S,by rw[kT hl hk],hS⟩)) λ_=> .ret ⟨S,by rw[kT hl hk],hS⟩))) x.servers ⟨vc.len,ok.1.2⟩) ?_
 rintro _ ⟨S,hS,rfl⟩
 exact .ret ((Kp.self ok).srvs (by rw[hS.1,vc.len]) hS.2)
section
variable {x:qN} (ok:F0 1048576 x) (vc:VC x) (id:Int)
include ok vc
theorem Yf:Tt (λy=>y.1.length<=5/\ ∀z∈y.1,0<=z/\z<5) (F4 x id):=by
 obtain⟨c,d,c1,c2,c3⟩:=U7 x ok;obtain⟨r5,_,inr,_⟩:=c3 vc;have rm:c.replicas.length<=maxLen:=by unfold maxLen;omega
 unfold F4;rw[c1,ak];refine .bind (.count (B:=Gp) (E:=λe=>e.2.2.1.length<=5/\ ∀z∈e.2.2.1,0<=z/\z<5) c.replicas.length (λk (b:List Int)=>((id,(),(),(),d,(k:Int),()),(fx x,(c.epoch,c.primary,(),(),()),()),b,c.replicas,c.witnesses,())) (λk b=>b.length<=k/\ ∀z∈b,0<=z/\z<5) (λb hb=> .end (EK _) (.ret ⟨ba hb.1 r5,hb.2⟩)) (λk b hk hb=> ?_) [] ⟨az _,nofun⟩) λy hy=> .ret hy;have ex:b.length<=5/\ ∀z∈b,0<=z/\z<5:=⟨by omega,hb.2⟩
 have st:b.length<=k+1/\ ∀z∈b,0<=z/\z<5:=⟨by omega,hb.2⟩
 refine .go (EJ.2 hk) (.br (λ_=> .bind (Li x ok) λ_ _=> .br (λ_=> ?_) λ_=> .ret ex) λ_=> .ret ex);rw[FW,ak];refine .br (λ_=> .ip ⟨EI k,EJ.2 hk⟩ (.get (tn hk) λz _ hz=> .srv ok vc (inr z hz) λs _ _ _=> .br (λ_=> .br (λ_=> .ip ⟨EI k,EJ.2 hk⟩ (.get (tn hk) λz2 _ hz2=> .bind (U3 ok vc id z2) λ_ _=> .br (λ_=> .ip ⟨EI k,EJ.2 hk⟩ (.get (tn hk) λz3 _ hz3=> .ip ?_ (.ret ⟨b++ [z3],by rw[kT rm hk],?_⟩))) λ_=> .ret ⟨b,by rw[kT rm hk],st⟩)) λ_=> .ret ⟨b,by rw[kT rm hk],st⟩) λ_=> .ret ⟨b,by rw[kT rm hk],st⟩)) λ_=> .ret ex
 ·show (b++ [z3]).length*8<=2 ^ 40;rw[be,cn];omega
 ·exact⟨by rw[be,cn];omega,λy hy=>(bi.1 hy).elim (hb.2 y) λh=>by rw[aJ.1 h];exact inr z3 hz3⟩
theorem Z8:Tt (λy=>y.1= -1\/0<=y.1/\y.1<5) (F3 x id):=by
 unfold F3;refine .bind (Yf ok vc id) λl hl=> ?_;have lm:l.1.length<=maxLen:=by have:=hl.1;unfold maxLen;omega
 refine .bind (.count (B:=Gn) (E:=λe=>e.1.1= -1\/0<=e.1.1/\e.1.1<5) l.1.length (λk (b:Int)=>(((),b,(),(k:Int),()),(fx x,()),l.1,())) (λ_ b=>b= -1\/0<=b/\b<5) (λb hb=> .end (EK _) (.ret hb)) (λk b hk hb=> ?_) (-1) (.inl rfl)) λy hy=> .ret hy;refine .go (EJ.2 hk) (.br (λ_=> .ip ⟨EI k,EJ.2 hk⟩ (.get (tn hk) λz _ hz=> .ret ⟨z,by rw[kT lm hk],.inr (hl.2 z hz)⟩)) λhn=> .ip ⟨EI k,EJ.2 hk⟩ (.get (tn hk) λz _ hz=> .srv ok vc (hl.2 z hz) λs _ _ _=> .srv ok vc (a:=b) ?_ λt _ _ _=> .br (λ_=> .ip ⟨EI k,EJ.2 hk⟩ (.get (tn hk) λz2 _ hz2=> .ret ⟨z2,by rw[kT lm hk],.inr (hl.2 z2 hz2)⟩)) λ_=> .ret ⟨b,by rw[kT lm hk],hb⟩));have hn: ¬b<0:=of_decide_eq_false hn;omega
omit ok vc in
theorem Wt(f:Int)(l:List sf)(hl:l.length<=maxLen):Tt (λy=>y.1=true->0<=f/\l.length<=3) (LJ f l):=by obtain⟨b,b1,b2⟩:=N6 hl;unfold LJ;rw[b1,ak];refine .br (λ_=> .br (λh=> ?_) λ_=> .ret nofun) λ_=> .ret nofun;have h: (l.length:Int)<=3:=of_decide_eq_true h;rw[FW,ak];refine .br (λw=> ?_) λ_=> .ret nofun;have w:=Fi.1 w;exact .br (λ_=> .ret λ_=>⟨w.1,by omega⟩) λ_=> .ret λ_=>⟨w.1,by omega⟩
omit ok vc in
theorem Z9(a:List sf)(f:Int)(t:List sf)(ha:a.length<=1048576)(ht:t.length<=1048576):Tt (λy=>y.1.length<=19) (Jr a f t):=by
 obtain⟨b,b1,b2⟩:=N6 (Fq ha);unfold Jr;rw[b1,ak,Fc];refine .br (λe=> ?_) λ_=> .ret (bH _);have h16:=b2 e;refine .bind (Wt f t (Fq ht)) λg hg=> ?_;rw[Fc];refine .br (λe=> ?_) λ_=> .ret (bH _);obtain⟨f0,t3⟩:=hg e;refine .br (λ_=> .ret (bH _)) λhn=> ?_;have hn: ¬f>(a.length:Int):=of_decide_eq_false hn;obtain⟨n,n1,n2,n3,_⟩:=PH ((a.drop f.toNat).take ((a.length:Int).toNat-f.toNat)) t (ba (by rw[ci,bR];omega) (Fq ha));refine .ip (by omega) ?_;rw[n1,ak,of (n:=(a.length:Int)-f) (by omega) (by omega)];refine .br (λ_=> .ret (bH _)) λ_=> ?_;rw[PJ ha,ak]
 have hl: (a++((t.drop (n:Int).toNat).take ((t.length:Int).toNat-(n:Int).toNat))).length<=19:=by rw[be,ci,bR];omega
 refine .ip (by omega) (.ip (ba (bg 56 hl) (by omega)) ?_);obtain⟨d,d1,_⟩:=N6 (l:=a++((t.drop (n:Int).toNat).take ((t.length:Int).toNat-(n:Int).toNat))) (by unfold maxLen;omega);rw[show Gk _=_ from d1,ak,Fc];exact .br (λ_=> .ret hl) λ_=> .ret (bH _)
omit ok vc in
theorem Z7(s:qQ)(id:Int)(h:F1 1048576 s)(hf:0<=s.first/\s.first<=16/\s.log.length<=16):Tt (λy=>y.1.length<=1048576) (Kr s id):=by obtain⟨n,n1,_⟩:=PE s.config id (Fx h.1);unfold Kr;rw[n1,ak,PJ h.2.2,ak];have fm:Tt (λy:List sf×Unit=>y.1.length<=1048576) ((FB s).bind λy3=>br (decide ((y3.1.length:Int)>(s.learned.length:Int))) (some (y3.1,())) (some (s.learned,()))):=.bind (Ph s h hf) λy hy=> .br (λ_=> .ret (by show y.1.length<=_;omega)) λ_=> .ret h.2.2;exact .br (λ_=>fm) λ_=> .br (λ_=>fm) λ_=> .ret h.2.2
theorem Z3{c:om}{w:qQ}(hw:F1 1048576 w)(j:Int)(d:Bool)(b:List sf×Bool)(hb:b.1.length<=19):Tt (λe=> ∃r:List sf×Bool,r.1.length<=19/\e=((id,(),(),r.2,(),d,j,()),(fx x,(c.epoch,c.primary,(),(),()),()),r.1,c.replicas,c.witnesses,())) (Ld ((id,(),(),b.2,(),d,j,(),0,()),(fx x,(c.epoch,c.primary,(),(),()),Yt w,()),b.1,c.replicas,c.witnesses,())):=by
 refine .count (B:=GS) (E:=λe=> ∃r:List sf×Bool,r.1.length<=19/\e=((id,(),(),r.2,(),d,j,()),(fx x,(c.epoch,c.primary,(),(),()),()),r.1,c.replicas,c.witnesses,())) 5 (λk (b:List sf×Bool)=>((id,(),(),b.2,(),d,j,(),(k:Int),()),(fx x,(c.epoch,c.primary,(),(),()),Yt w,()),b.1,c.replicas,c.witnesses,())) (λ_ b=>b.1.length<=19) (λb hb=> .end (EK _) (.ret ⟨b,hb,rfl⟩)) (λk b hk hb=> ?_) b hb;have hkk:0<=(k:Int)/\(k:Int)<5:=⟨EI k,EJ.2 hk⟩
 have sw:=kT (n:=5) (by decide) hk;refine .go hkk.2 (.srv ok vc hkk λs _ _ _=> ?_);dsimp only;rw[sw,Fc];refine .br (λ_=> .bind (U3 ok vc id k) λy _=> ?_) λ_=> .ret ⟨b,rfl,hb⟩;rw[Fc];refine .br (λ_=> .srv ok vc hkk λt _ t2 t3=> .bind (Z7 t k t2 (Un t2 t3)) λy hy=> .bind (Z9 y.1 w.first w.log hy hw.2.1) λz hz=> .br (λ_=> ?_) λ_=> .ret ⟨b,rfl,hb⟩) λ_=> .ret ⟨b,rfl,hb⟩;rw[Fc];exact .br (λ_=> .br (λ_=> .ret ⟨(z.1,true),rfl,hz⟩) λ_=> .ret ⟨b,rfl,hb⟩) λ_=> .ret ⟨(z.1,true),rfl,hz⟩
theorem Yk:Tt (λy=>y.1.length<=19) (Gd x id):=by
 obtain⟨c,d,c1,c2,c3⟩:=U7 x ok;obtain⟨_,r5,_,inw,_⟩:=c3 vc;have rm:c.witnesses.length<=maxLen:=by unfold maxLen;omega
 unfold Gd;rw[c1,ak];refine .bind (.count (B:=Gq) (E:=λe=>e.2.2.1.length<=19) c.witnesses.length (λk (b:List sf×Bool)=>((id,(),(),b.2,(),d,(k:Int),()),(fx x,(c.epoch,c.primary,(),(),()),()),b.1,c.replicas,c.witnesses,())) (λ_ b=>b.1.length<=19) (λb hb=> .end (EK _) (.ret hb)) (λk b hk hb=> ?_) ([],false) (bH _)) λy hy=> .ret hy;refine .go (EJ.2 hk) (.br (λ_=> .bind (Li x ok) λ_ _=> .br (λ_=> ?_) λ_=> .ret hb) λ_=> .ret hb);rw[FW,ak];refine .br (λ_=> .ip ⟨EI k,EJ.2 hk⟩ (.get (tn hk) λz _ hz=> .srv ok vc (inw z hz) λs _ s2 _=> ?_)) λ_=> .ret hb;have sw:=kT rm hk;rw[Fc];refine .br (λ_=> ?_) λ_=> .ret ⟨b,by rw[sw],hb⟩;rw[Fc];refine .br (λ_=> .ip ⟨EI k,EJ.2 hk⟩ (.get (tn hk) λz2 _ _=> .bind (U3 ok vc id z2) λy _=> ?_)) λ_=> .ret ⟨b,by rw[sw],hb⟩;rw[Fc];refine .br (λ_=> .bind (Z3 ok vc id (c:=c) s2 k d b hb) ?_) λ_=> .ret ⟨b,by rw[sw],hb⟩
 rintro _ ⟨r,hr,rfl⟩
 exact .ret ⟨r,by rw[<-sw],hr⟩
theorem YV:Tt (λy=>y.1.length<=1048576) (Gz x id):=by unfold Gz;refine .bind (Li x ok) λv _=> ?_;rw[Fc];refine .br (λ_=> ?_) λ_=> .ret (bH _);rw[FW,ak,Fc];refine .br (λ_=> .br (λ_=> .ret (bH _)) λ_=> .bind (Z8 ok vc id) λn hn=> .br (λh=> ?_) λ_=> .bind (Yk ok vc id) λy hy=> .ret (by show y.1.length<=_;omega)) λ_=> .ret (bH _);have h:n.1≥0:=of_decide_eq_true h;refine .srv ok vc (by omega) λs _ s2 _=> ?_;rw[PJ s2.2.1];exact .ret s2.2.1
end
theorem Rz(l:List sf)(hl:l.length<=maxLen):Tt T1 (Hb l):=by unfold Hb;refine .bind (.count (B:=IV) (E:=λ_=>True) l.length (λk (_:Unit)=>((l,(k:Int),()),(),())) (λ_ _=>True) (λ_ _=> .end (EK _) (.ret trivial)) (λk _ hk _=> .go (EJ.2 hk) (.ip (EI k) (.get (tn hk) λe _ _=> .bind (Q:=T1) (by unfold Ir;exact .ret trivial) λ_ _=> .br (λ_=> .ret trivial) λ_=> .ret ⟨(),by rw[kT hl hk],trivial⟩))) () trivial) λy _=> ?_;cases y<;>exact .ret trivial
theorem Uv(s:qQ)(c:om)(id:Int)(l:List sf)(hs:F1 1048576 s)(hc:GO 1048576 c)(hl:l.length<=1048576):Tt (λy=>F1 1048576 y.1) (Hm s c id l):=by
 obtain⟨n,n1,_⟩:=PE c id (Fx hc);obtain⟨b,b1,_⟩:=N6 (Fq hl);obtain⟨e,e1,_⟩:=M9 l (Fq hl);unfold Hm;simp only[n1,b1,e1,(Rx s hs).1,(OF c hc).1,PJ hl,FW,ak,Fc,W6 l hl];have hk:cutAt l<=l.length:=Nat.sub_le _ _
 have hl2: ((l.drop (cutAt l)).take ((l.length:Int).toNat-cutAt l)).length<=1048576:=by rw[ci,bR];omega
 refine .br (λ_=> .ret hs) λ_=> .br (λ_=> .br (λ_=> .br (λ_=> .br (λ_=> .ret hs) λ_=> .br (λ_=> .bind (Rz l (Fq hl)) λ_ _=> .br (λ_=> .ret hs) λ_=> ?_) λ_=> ?_) λ_=> .ret hs) λ_=> .ret hs) λ_=> .ret hs
 all_goals
  exact .br (λ_=> .ip (by omega) (.bind (Q:=λy=>y.1.length<=1048576) ⟨_,PJ hl2,hl2⟩ λy hy=> .ret ⟨hc,hy,bH _⟩)) λ_=> .ret ⟨hc,hl,bH _⟩
theorem RA(m:kB)(h:MS 1048576 m)(e:Int):Tt (λy=>MS 1048576 y.1/\y.1.configs.length=m.configs.length) (G5 m e):=by obtain⟨b,b1,_⟩:=masterLog m (Iu h);unfold G5;rw[(Tw m h).1,ak,b1,ak,Fc];refine .br (λ_=> ?_) λ_=> .ret ⟨h,rfl⟩;rw[Fc];exact .br (λ_=> .br (λ_=> .ret ⟨h,rfl⟩) λ_=> .ret ⟨h,rfl⟩) λ_=> .ret ⟨h,rfl⟩
theorem Ql(x:qN)(ok:F0 1048576 x):Tt (λy=>Kp x y.1) (Jq x):=by
 obtain⟨c,b,c1,c2,c3⟩:=VX x ok (x.master.configs.length:Int);unfold Jq Lt;rw[(HF x ok).1,ak,c1,ak,ak];refine .bind (Li x ok) λv hv=> ?_;rw[Fc];refine .br (λh=> ?_) λ_=> .ret (.self ok);have vc:=hv h;rw[Fc];refine .br (λhb=> .br (λ_=> .ret (.self ok)) λ_=> .br (λ_=> .ret (.self ok)) λ_=> ?_) λ_=> .ret (.self ok);obtain⟨r5,w5,_,_,hp,_⟩:=c3 vc;have hp:=(hp hb).2;have hc:GO 1048576 c:=⟨by omega,by omega⟩
 have s5:=K8 (Fq ok.2.1) vc.sides;refine .srv ok vc hp λs _ _ _=> ?_;rw[Fc];refine .br (λ_=> .ip hp.1 (.get (by show c.primary.toNat<x.sides.length;omega) λsd _ _=> ?_)) λ_=> .ret (.self ok);rw[Fc];refine .br (λ_=> ?_) λ_=> .ret (.self ok);obtain⟨o,o1,_⟩:=QT x.lease x.now;rw[o1,ak,Fc];refine .br (λ_=> .bind (aal x ok c.primary c.epoch) λy hy=> .bind (YV ok vc c.primary) λl hl=> ?_) λ_=> .ret (.self ok);rw[Fc];refine .br (λ_=> .bind (Ni c c2) λm hm=> ?_) λ_=> .ret hy;have ml:m.1.length<=maxLen:=by have:=hm.1;unfold maxLen;omega
 have hyS:y.1.servers.length=5/\ ∀s∈y.1.servers,F1 1048576 s:=⟨hy.2.trans vc.len,hy.1.1.2⟩
 refine .bind (.count (B:=KC) (E:=Sum.elim (λe=> ∃n:Int,e=(((),(),n,(),(),(),(),()),(fx x,fc y.1,(fc y.1,(c.epoch,c.primary,(),(),()),())),l.1,m.1,y.1.servers,y.1.sides,y.1.master.configs,y.1.places,c.replicas,c.witnesses,())) λe=>e.2=((fx x,fz,fc y.1,(c.epoch,c.primary,(),(),()),()),l.1,m.1,y.1.servers,y.1.sides,y.1.master.configs,y.1.places,c.replicas,c.witnesses,())) m.1.length (λk (_:Unit)=>(((),(),(),(),(),(),(k:Int),()),(fx x,fz,fc y.1,(c.epoch,c.primary,(),(),()),()),l.1,m.1,y.1.servers,y.1.sides,y.1.master.configs,y.1.places,c.replicas,c.witnesses,())) (λ_ _=>True) (λ_ _=> .end (EK _) (.ret rfl)) (λk _ hk _=> ?_) () trivial) λe he=> ?_
 ·refine .go (EJ.2 hk) (.ip ⟨EI k,EJ.2 hk⟩ (.get (tn hk) λz _ hz=> .srv ok vc (hm.2 z hz) λs _ _ _=> ?_));rw[Fc];refine .br (λ_=> .ip ⟨EI k,EJ.2 hk⟩ (.get (tn hk) λz2 _ hz2=> .ip (hm.2 z2 hz2).1 (.get (by have:=hm.2 z2 hz2;show z2.toNat<x.sides.length;omega) λw _ _=> ?_))) λ_=> .ret ⟨_,rfl⟩;rw[Fc];exact .br (λ_=> .ret ⟨(),by rw[kT ml hk],trivial⟩) λ_=> .ret ⟨_,rfl⟩
 cases e with
 |inl e=>obtain⟨n,rfl⟩:=he;exact .ret hy
 |inr e=>
  show Tt _ ((O1 (((),(),(),(),(),(),0,()),e.2)).bind _);rw[show e.2=_ from he];refine .bind (.count (B:=KD) (E:=Sum.elim (λe=> ∃n:Int,e=(((),(),n,(),(),(),(),()),(fx x,fc y.1,(fc y.1,(c.epoch,c.primary,(),(),()),())),l.1,m.1,y.1.servers,y.1.sides,y.1.master.configs,y.1.places,c.replicas,c.witnesses,())) λe=>e.2=((fx x,fz,fc y.1,(c.epoch,c.primary,(),(),()),()),l.1,m.1,y.1.servers,y.1.sides,y.1.master.configs,y.1.places,c.replicas,c.witnesses,())) m.1.length (λk (_:Unit)=>(((),(),(),(),(),(),(k:Int),()),(fx x,fz,fc y.1,(c.epoch,c.primary,(),(),()),()),l.1,m.1,y.1.servers,y.1.sides,y.1.master.configs,y.1.places,c.replicas,c.witnesses,())) (λ_ _=>True) (λ_ _=> .end (EK _) (.ret rfl)) (λk _ hk _=> .go (EJ.2 hk) (.ip ⟨EI k,EJ.2 hk⟩ (.get (tn hk) λz _ hz=> .srv ok vc (hm.2 z hz) λs _ _ _=> .br (λ_=> .bind (Rz l.1 (Fq hl)) λ_ _=> .br (λ_=> .ret ⟨_,rfl⟩) λ_=> .ret ⟨(),by rw[kT ml hk],trivial⟩) λ_=> .ret ⟨(),by rw[kT ml hk],trivial⟩))) () trivial) λe he=> ?_;cases e with
  |inl e=>obtain⟨n,rfl⟩:=he;exact .ret hy
  |inr e=>
   show Tt _ ((O2 (((),(),(),(),(),(),0,()),e.2)).bind _);rw[show e.2=_ from he];refine .bind (.count (B:=KE) (E:=λe=> ∃S:List qQ,(S.length=5/\ ∀s∈S,F1 1048576 s)/\e=(((),(),(),(),()),(fx x,fz,fc y.1,(c.epoch,c.primary,(),(),()),()),S,y.1.sides,y.1.master.configs,y.1.places,c.replicas,c.witnesses,())) m.1.length (λk (S:List qQ)=>(((),(),(),(),(),(),(k:Int),()),(fx x,fz,fc y.1,(c.epoch,c.primary,(),(),()),()),l.1,m.1,S,y.1.sides,y.1.master.configs,y.1.places,c.replicas,c.witnesses,())) (λ_ S=>S.length=5/\ ∀s∈S,F1 1048576 s) (λS hS=> .end (EK _) (.ret ⟨S,hS,rfl⟩)) (λk S hk hS=> ?_) y.1.servers hyS) ?_
   ·refine .go (EJ.2 hk) (.ip ⟨EI k,EJ.2 hk⟩ (.get (tn hk) λz _ hz=> .ip ⟨EI k,EJ.2 hk⟩ (.get (tn hk) λz2 _ hz2=> .at hS.1 (hm.2 z2 hz2) λs e' hs=> .ip ⟨EI k,EJ.2 hk⟩ (.get (tn hk) λz3 _ _=> ?_))));dsimp only;simp only[e',ak,cF,EM,aM];refine .ip (az _) (.ip (az _) (.ip (az _) (.ip (az _) (.bind (Uv s c z3 l.1 (hS.2 s hs) hc hl) λu hu=> .at hS.1 (hm.2 z hz) λ_ _ _=> .ret ⟨S.set z.toNat u.1,by rw[kT ml hk],VU hS hu _⟩))))
   ·rintro _ ⟨S,hS,rfl⟩
    refine .bind (RA x.master ok.2.2.1 c.epoch) λw hw=> .ret ?_;exact⟨⟨⟨by show S.length<=_;rw[hS.1];decide,hS.2⟩,hy.1.2.1,hw.1,hy.1.2.2.2⟩,by show S.length=_;rw[hS.1,vc.len]⟩
end
section
theorem Q1(m:kB)(h:MS 1048576 m)(c:om)(hc:GO 1048576 c):Tt (λy=>MS 1048576 y.1/\y.1.configs.length<=m.configs.length+1) (Hn m c):=by
 have self:MS 1048576 m/\m.configs.length<=m.configs.length+1:=⟨h,cM _⟩
 obtain⟨b,b1,_⟩:=masterLog m (Iu h);obtain⟨d,d1,_⟩:=JF c (Fx hc);unfold Hn;rw[(Tw m h).1,ak,b1,ak,Fc];refine .br (λe=> ?_) λ_=> .ret self;subst e;have hl:=aaf h b1;rw[d1,ak,Fc];refine .br (λ_=> ?_) λ_=> .ret self;rw[Fc];refine .br (λ_=> ?_) λ_=> .ret self;rw[(OF c hc).1,ak];have h2: (m.configs++ [c]).length<=21:=by rw[be,cn];omega
 exact .ip (ba (bg 64 h2) (by omega)) (.ret ⟨⟨ba h2 (by omega),λd hd=>(bi.1 hd).elim (h.2 d) λe=>by rw[aJ.1 e];exact hc⟩,by show (m.configs++ [c]).length<=_;rw[be];exact az _⟩)
theorem Qz(x:qN)(ok:F0 1048576 x)(c:om)(hc:GO 1048576 c):Tt (λy=>Kp x y.1) (HH x c):=by unfold HH;rw[(HF x ok).1,ak];refine .bind (Li x ok) λv _=> ?_;rw[Fc];refine .br (λ_=> .br (λ_=> .ret (.self ok)) λ_=> .bind (Q1 x.master ok.2.2.1 c hc) λm hm=> ?_) λ_=> .ret (.self ok);rw[Fc];exact .br (λ_=> .ret ⟨⟨ok.1,ok.2.1,hm.1,ok.2.2.2⟩,rfl⟩) λ_=> .ret (.self ok)
theorem ZE(x:qN)(ok:F0 1048576 x)(n:Int):Tt (λy=>Kp x y.1) (Kl x n):=by unfold Kl;rw[(HF x ok).1,ak];refine .bind (Li x ok) λv _=> ?_;rw[Fc];refine .br (λ_=> ?_) λ_=> .ret (.self ok);rw[FW,ak,Fc];exact .br (λ_=> .ret ⟨ok,rfl⟩) λ_=> .ret (.self ok)
theorem Y0(x:qN)(ok:F0 1048576 x)(id:Int):Tt (λy=>y.1=true->VC x/\0<=id/\id<5) (Hp x id):=by obtain⟨b,b1,_,b2⟩:=RC x id ok;exact⟨_,b1,λe=>⟨FX ok (b2 e).1,(b2 e).2⟩⟩
theorem Yi(x:qN)(ok:F0 1048576 x)(id:Int):Tt (λy=>Kp x y.1) (Ij x id):=by unfold Ij;rw[(HF x ok).1,ak];refine .bind (Y0 x ok id) λv hv=> ?_;rw[Fc];refine .br (λe=> ?_) λ_=> .ret (.self ok);obtain⟨vc,hid⟩:=hv e;refine .srv ok vc hid λs _ _ _=> .br (λ_=> .ret (.self ok)) λ_=> .srv ok vc hid λt _ _ _=> ?_;rw[Fc];exact .br (λ_=> .at vc.len hid λu _ hu=> .ret ((Kp.self ok).set (s:=⟨u.up,u.intact,2,u.epoch,u.config,u.first,u.log,u.commit,u.learned⟩) (ok.1.2 u hu) _)) λ_=> .ret (.self ok)
theorem Vd(x:qN)(ok:F0 1048576 x)(id:Int):Tt (λy=>Kp x y.1) (Hw x id):=by
 unfold Hw;rw[(HF x ok).1,ak];refine .bind (Y0 x ok id) λv hv=> ?_;rw[Fc];refine .br (λe=> ?_) λ_=> .ret (.self ok);obtain⟨vc,hid⟩:=hv e;refine .srv ok vc hid λs _ _ _=> .br (λ_=> .ret (.self ok)) λ_=> .srv ok vc hid λt _ _ _=> ?_;rw[Fc];refine .br (λ_=> .srv ok vc hid λs _ s2 _=> .bind (Q:=T1) ?_ λ_ _=> .br (λ_=> .ret (.self ok)) λ_=> .bind (.count (B:=Hs) (E:=Sum.elim (λe=> ∃n:Int,e=((id,(),n,(),()),(fc x,fc x,()),x.servers,x.sides,x.master.configs,x.places,())) λe=>e=((id,(),(),(),()),(fz,fc x,()),x.servers,x.sides,x.master.configs,x.places,())) x.servers.length (λk (_:Unit)=>((id,(),(),(),(),(k:Int),()),(fx x,fz,fc x,Yt s,()),x.servers,x.sides,x.master.configs,x.places,())) (λ_ _=>True) (λ_ _=> .end (EK _) (.ret rfl)) (λk _ hk _=> ?_) () trivial) λe he=> ?_) λ_=> .ret (.self ok)
 ·unfold HX;exact .bind (Rz _ (Fq s2.2.2)) λ_ _=> .ret trivial
 ·have sw:=kT (Fq ok.1.1) hk;refine .go (EJ.2 hk) ?_;rw[show It _=_ from OO s.config (Fx s2.1),ak,Fc];refine .br (λ_=> .ret rfl) λ_=> .ip (EI k) (.get (tn hk) λt _ ht=> ?_);have ht:=ok.1.2 t ht;rw[show Gu _ _=_ from (Ht t.config s.config (Fx ht.1)).1,ak];refine .br (λ_=> .ip (EI k) (.get (tn hk) λu _ hu=> .bind (Q:=T1) ?_ λ_ _=> .br (λ_=> .ret ⟨_,rfl⟩) λ_=> .ret ⟨(),by rw[sw],trivial⟩)) λ_=> .ret ⟨(),by rw[sw],trivial⟩;unfold HX;exact .bind (Rz _ (Fq (ok.1.2 u hu).2.1)) λ_ _=> .ret trivial
 cases e with
 |inl e=>obtain⟨n,rfl⟩:=he;exact .ret (.self ok)
 |inr e=>obtain rfl:=he;exact .at vc.len hid λu _ hu=> .ret ((Kp.self ok).set (s:=⟨u.up,u.intact,1,u.epoch,u.config,u.first,u.log,u.commit,u.learned⟩) (ok.1.2 u hu) _)
theorem X8(x:qN)(ok:F0 1048576 x):Tt T1 (HZ x):=by
 obtain⟨c,b,c1,c2,c3⟩:=U7 x ok;unfold HZ;rw[c1,ak];refine .bind (Li x ok) λv hv=> ?_;rw[Fc];refine .br (λh=> ?_) λ_=> .ret trivial;have vc:=hv h;rw[Fc];refine .br (λhb=> ?_) λ_=> .ret trivial;obtain⟨_,_,_,_,hp,_⟩:=c3 vc;have hp:=(hp hb).2;refine .srv ok vc hp λs _ s2 _=> ?_;obtain⟨d,d1,_⟩:=Mu s c.primary s2;rw[d1,ak,Fc];refine .br (λ_=> .srv ok vc hp λt _ _ _=> ?_) λ_=> .ret trivial;rw[Fc];refine .br (λ_=> .bind (Ni c c2) λm hm=> .bind (.count (B:=H8) (E:=λ_=>True) m.1.length (λk (_:Unit)=>(((),(),(),(k:Int),()),(fx x,(c.epoch,c.primary,(),(),()),()),m.1,c.replicas,c.witnesses,())) (λ_ _=>True) (λ_ _=> .end (EK _) (.ret trivial)) (λk _ hk _=> .go (EJ.2 hk) (.ip ⟨EI k,EJ.2 hk⟩ (.get (tn hk) λz _ hz=> .bind (Xf ok vc hp (hm.2 z hz)) λy _=> ?_))) () trivial) λe _=> ?_) λ_=> .ret trivial
 ·rw[Fc];exact .br (λ_=> .ret ⟨(),by rw[kT (by have:=hm.1;unfold maxLen;omega) hk],trivial⟩) λ_=> .ret trivial
 ·cases e<;>exact .ret trivial
theorem V3(x:qN)(ok:F0 1048576 x):Tt T1 (JA x):=by unfold JA;exact .bind (X8 x ok) λ_ _=> .ret trivial
section
variable {l:List vB} (hl:l.length<=maxLen) (hv:FG l=some (true,()))
include hl hv
theorem ZZ(m:List Int)(hm:Mw m):Tt (λy=>y.1.length<=5) (MY l m):=by have h5:=Qy hl hv;have ml:=hm.len;unfold MY;refine .bind (.count (B:=Mx) (E:=λe=>e.2.2.1.length<=5) m.length (λk (b:List Int)=>((l,m,(),(k:Int),()),(),b,())) (λk b=>b.length<=k/\SS b) (λb hb=> .end (EK _) (.ret (ba hb.1 ml))) (λk b hk hb=> ?_) [] ⟨az _,List.Pairwise.nil⟩) λy hy=> .ret hy;refine .go (EJ.2 hk) ?_;dsimp only;rw[hv,ak,(OE hm).1,ak];refine .br (λ_=> .br (λ_=> .ip (EI k) (.get (tn hk) λz _ hz=> .ip (KB hm z hz).1 (.get (by have:=KB hm z hz;omega) λp _ _=> ?_))) (λh=>by cases h)) (λh=>by cases h);obtain⟨r,r1,r2,_,r4,_⟩:=YR b p.rack (by omega) hb.2;rw[r1,ak];exact .ret ⟨r,by rw[kT (by unfold maxLen;omega) hk],by omega,r2⟩
theorem aak(i:Int):Tt T1 (MX l i):=by have h5:=Qy hl hv;unfold MX;rw[hv,ak,FW,ak];refine .br (λ_=> .br (λh=> ?_) λ_=> .ret trivial) λ_=> .ret trivial;have h:=Fi.1 h;exact .ip h.1 (.get (by omega) λ_ _ _=> .ip h.1 (.get (by omega) λ_ _ _=> .ret trivial))
theorem Ym(r:List Int)(hr:r.length<=5){a b:Int}(ha:0<=a/\a<5)(hb:0<=b/\b<5):Tt T1 (L3 l r a b):=by
 have h5:=Qy hl hv;have rm:r.length<=maxLen:=by unfold maxLen;omega
 unfold L3;refine .ip ha.1 (.get (by omega) λp _ _=> ?_);rw[(FN r p.rack rm).1,ak];refine .ip hb.1 (.get (by omega) λq _ _=> ?_);rw[(FN r q.rack rm).1,ak,Fc];exact .br (λ_=> .ip ha.1 (.get (by omega) λ_ _ _=> .ip hb.1 (.get (by omega) λ_ _ _=> .ret trivial))) λ_=> .ret trivial
theorem Yg(m d:List Int)(hm:Mw m)(hd:d.length<=maxLen):Tt (λy=>y.1= -1\/(0<=y.1/\y.1<5/\y.1∉m)) (JC l m d):=by
 have ml:m.length<=maxLen:=by have:=hm.len;unfold maxLen;omega
 unfold JC;refine .bind (ZZ hl hv m hm) λr hr=> .bind (.count (B:=KH) (E:=λe=>e.1.1= -1\/(0<=e.1.1/\e.1.1<5/\e.1.1∉m)) 5 (λk (b:Int)=>((l,m,d,b,(),(k:Int),()),(),r.1,())) (λ_ b=>b= -1\/(0<=b/\b<5/\b∉m)) (λb hb=> .end (EK _) (.ret hb)) (λk b hk hb=> ?_) (-1) (.inl rfl)) λy hy=> .ret hy;have hkk:0<=(k:Int)/\(k:Int)<5:=⟨EI k,EJ.2 hk⟩
 refine .go hkk.2 ?_;dsimp only;rw[(OE hm).1,ak,kT (n:=5) (by decide) hk];refine .br (λ_=> .bind (aak hl hv k) λy _=> ?_) (λh=>by cases h);rw[Fc,(FN m k ml).1,(FN d k hd).1];refine .br (λ_=> .br (λ_=> .ret ⟨b,rfl,hb⟩) λhn=> .br (λ_=> .ret ⟨b,rfl,hb⟩) λ_=> ?_) λ_=> .ret ⟨b,rfl,hb⟩;have hn: (k:Int)∉m:=of_decide_eq_false hn;refine .br (λ_=> .ret ⟨(k:Int),rfl,.inr ⟨hkk.1,hkk.2,hn⟩⟩) λh0=> ?_;have h0: ¬b<0:=of_decide_eq_false h0;exact .bind (Ym hl hv r.1 hr hkk (by omega)) λ_ _=> .br (λ_=> .ret ⟨(k:Int),rfl,.inr ⟨hkk.1,hkk.2,hn⟩⟩) λ_=> .ret ⟨b,rfl,hb⟩
omit hv in
theorem aah(m a:List Int)(hm:Mw m)(ha:Mw a)(want:Int):Tt (λy=>Mw y.1) (I9 l m a want):=by
 have am:a.length<=maxLen:=by have:=ha.len;unfold maxLen;omega
 obtain⟨v,v1,_⟩:=MT l hl;have nil:Mw [] :=λk hk=>by simp at hk
 unfold I9;rw[Qk m a hm am,Sx _ a VV am,ak,ak,v1,ak,Fc,(OE hm).1,(OE ha).1];refine .br (λe=> .br (λh=>by cases h) λ_=> .br (λh=>by cases h) λ_=> ?_) λ_=> .ret nil;subst e;rw[FW,ak,Fc];refine .br (λ_=> ?_) λ_=> .ret nil;have dl:=(VV.filter λx=> !decide (x∈a)).len;have dm: (([0,1,2,3,4]:List Int).filter λx=> !decide (x∈a)).length<=maxLen:=by unfold maxLen;omega
 generalize ([0,1,2,3,4]:List Int).filter (λx=> !decide (x∈a))=dead at dm;refine .bind (.loop (B:=Jh) (E:=Sum.elim (λe=>Mw e.2.2.1) λe=>Mw e.2.2.1) (λs=> ∃out:List Int,s=((l,want,(),(),()),(),out,dead,())/\Mw out) (λs=>(want-s.2.2.1.length).toNat) ?_ ⟨_,rfl,hm.filter _⟩) λy hy=> ?_
 ·rintro _ ⟨out,rfl,ho⟩
  have ol:=ho.len;refine .br (λc=> ?_) λ_=> .ret ho;have c: (out.length:Int)<want:=of_decide_eq_true c;refine .bind (Yg hl v1 out dead ho dm) λn hn=> .br (λ_=> .ret ho) λh=> ?_;have h: ¬n.1<0:=of_decide_eq_false h
  obtain⟨n0,n5,nm⟩:0<=n.1/\n.1<5/\n.1∉out:=by
   rcases hn with h'|h'
   ·omega
   ·exact h'
  obtain⟨r,r1,r2,r3,_,r5⟩:=YR out n.1 (by omega) ho.pair;rw[show HL _ _=_ from r1,ak];refine .ret ⟨⟨r,rfl,NV r2 λy hy=>((r3 y).1 hy).elim (λe=>by rw[e];exact⟨n0,n5⟩) (KB ho y)⟩,?_⟩;show (want-(r.length:Int)).toNat< (want-(out.length:Int)).toNat;have:=r5 nm;omega
 ·cases y with
  |inl y=>exact .ret hy
  |inr y=>exact .ret hy
end
theorem ZC(x:qN)(ok:F0 1048576 x)(want wit:Int):Tt (λy=>GO 1048576 y.1) (IX x want wit):=by
 have zero:GO 1048576 ⟨0,0,[],[]⟩:=⟨bH _,bH _⟩
 obtain⟨v,v1,_⟩:=F6 x ok;unfold IX;rw[v1,ak,Fc];refine .br (λe=> ?_) λ_=> .ret zero;subst e;have vc:=FX ok v1;rw[FW,ak,Fc];refine .br (λ_=> ?_) λ_=> .ret zero;rw[FW,ak,Fc];refine .br (λ_=> .br (λ_=> .ret zero) λ_=> ?_) λ_=> .ret zero;obtain⟨c,b,c1,c2,c3⟩:=U7 x ok;obtain⟨r5,w5,inr,_,_,rasc⟩:=c3 vc;have rm:c.replicas.length<=maxLen:=by unfold maxLen;omega
 rw[Z5 x ok v1,ak,c1,ak];have up:=V0 (Tv x) (n:=5) (by omega);generalize PR (Tv x) 5=u at up;have um:u.length<=maxLen:=by have:=up.len;unfold maxLen;omega
 refine .bind (.count (B:=JK) (E:=λe=> ∃have':List Int,Mw have'/\e=((want,wit,(),(),(),(),(),()),(fx x,(0,0,(),(),()),(c.epoch,c.primary,(),(),()),()),u,have',c.replicas,c.witnesses,())) c.replicas.length (λk (b:List Int)=>((want,wit,(),(),(),(),(),(k:Int),()),(fx x,(0,0,(),(),()),(c.epoch,c.primary,(),(),()),()),u,b,c.replicas,c.witnesses,())) (λk b=>b.Sublist (c.replicas.take k)) (λb hb=> .end (EK _) (.ret ⟨b,?_,rfl⟩)) (λk b hk hb=> ?_) [] (List.nil_sublist _)) ?_
 ·rw[EM] at hb;exact NV (rasc.pair.sublist hb) λy hy=>inr y (hb.subset hy)
 ·have sw:=kT rm hk;have st:b.Sublist (c.replicas.take (k+1)):=hb.trans (List.take_sublist_take_left (cM k));refine .go (EJ.2 hk) (.ip ⟨EI k,EJ.2 hk⟩ (.get (tn hk) λz _ hz=> ?_));rw[show FC _ _=_ from (FN u z um).1,ak];refine .br (λ_=> .ip ⟨EI k,EJ.2 hk⟩ (.get (tn hk) λz2 _ hz2=> .srv ok vc (inr z2 hz2) λs _ _ _=> .br (λ_=> .ip ⟨EI k,EJ.2 hk⟩ (.get (tn hk) λz3 e3 _=> ?_)) λ_=> .ret ⟨b,by rw[sw],st⟩)) λ_=> .ret ⟨b,by rw[sw],st⟩;have e3:c.replicas[k]? =some z3:=e3
  have h2: (b++ [z3]).Sublist (c.replicas.take (k+1)):=by rw[EN,e3];exact hb.append (List.Sublist.refl _)
  have h3:=h2.length_le;rw[ci] at h3;exact .ip (by show (b++ [z3]).length*8<=2 ^ 40;omega) (.ret ⟨b++ [z3],by rw[sw],h2⟩)
 ·rintro _ ⟨hv,ha,rfl⟩
  refine .bind (aah (Fq ok.2.2.2) hv u ha up want) λp hp=> .br (λ_=> .ret zero) λh0=> ?_;have pl:=hp.len
  have p0:0<p.1.length:=by
   rcases bu p.1.length with h|h
   ·rw[h] at h0;cases h0
   ·exact h
  refine .ip ⟨c9 _,EJ.2 p0⟩ (.get p0 λq _ _=> ?_);rw[show FC _ _=_ from (FN p.1 c.primary (by unfold maxLen;omega)).1,ak];have fm: ∀w:List Int,w.length<=1-> ∀ (e p':Int) (d:Bool),Tt (λy:om×Bool×Unit=>GO 1048576 y.1) (some (⟨e,p',p.1,w⟩,d,())):=λw hw _ _ _=> .ret ⟨by show p.1.length<=_;omega,by show w.length<=_;omega⟩
  extract_lets j43
  have h43: ∀p',Tt (λy=>GO 1048576 y.1) (j43 p'):=λp'=>by unfold j43;refine .br (λ_=> ?_) λ_=>fm [] (by decide) _ _ _;rw[show FP _ _=_ from Sx _ u VV um,ak];refine .bind (Yg (Fq ok.2.2.2) vc.places p.1 _ hp ?_) λ_ _=> .br (λ_=>fm [_] (az 1) _ _ _) λ_=>fm [] (by decide) _ _ _;have:=(VV.filter λx=> !decide (x∈u)).len;exact ba this (by unfold maxLen;omega)
  refine .br (λ_=> ?_) λ_=>h43 _;rw[show It _=_ from OO c c2,ak];exact .br (λ_=>h43 _) λ_=>h43 _
theorem X3(x:qN)(ok:F0 1048576 x)(id t:Int):Tt (λy=>Kp x y.1) (IY x id t):=by obtain⟨n,n1,n2⟩:=U2 x ok id;unfold IY;rw[(HF x ok).1,ak,n1,ak,Fc];refine .br (λe=> ?_) λ_=> .ret (.self ok);obtain⟨hv,h0,h5⟩:=n2 (eq_of_beq e);have vc:=FX ok hv;have s5:=K8 (Fq ok.2.1) vc.sides;refine .srv ok vc ⟨h0,h5⟩ λs _ s2 _=> ?_;obtain⟨b,b1,_⟩:=Mu s id s2;rw[b1,ak,Fc];refine .br (λ_=> .br (λ_=> .ret (.self ok)) λ_=> .ip h0 (.get (by omega) λ_ _ _=> ?_)) λ_=> .ret (.self ok);rw[Fc];refine .br (λ_=> ?_) λ_=> .ret (.self ok);rw[Fc];refine .br (λ_=> ?_) λ_=> .ret (.self ok);obtain⟨l,d,g1,_⟩:=Vg x.lease s.config.epoch id x.now t;rw[g1,ak,Fc];exact .br (λ_=> .ret ⟨ok,rfl⟩) λ_=> .ret (.self ok)
theorem YT(x:qN)(ok:F0 1048576 x)(want term:Int):Tt (λy=>Kp x y.1) (Ja x want term):=by unfold Ja;rw[(HF x ok).1,ak];refine .bind (Li x ok) λv _=> ?_;rw[Fc];refine .br (λ_=> ?_) λ_=> .ret (.self ok);rw[FW,ak,Fc];refine .br (λ_=> .bind (V3 x ok) λ_ _=> .br (λ_=> .ret (.self ok)) λ_=> .bind (ZC x ok want 0) λn hn=> ?_) λ_=> .ret (.self ok);rw[Fc];refine .br (λ_=> .bind (Qz x ok n.1 hn) λy hy=> ?_) λ_=> .ret (.self ok);rw[Fc];refine .br (λ_=> ?_) λ_=> .ret (.self ok);obtain⟨t,t1,_⟩:=U0 x.lease;rw[t1,ak];refine .bind (ZE y.1 hy.1 _) λz hz=> ?_;rw[Fc];refine .br (λ_=> .bind (Ql z.1 hz.1) λa ha=> ?_) λ_=> .ret (.self ok);rw[Fc];exact .br (λ_=> .bind (X3 a.1 ha.1 _ _) λr hr=> .ret (hy.trans (hz.trans (ha.trans hr)))) λ_=> .ret (hy.trans (hz.trans ha))
theorem aas(x:qN)(ok:F0 1048576 x)(to:Int):Tt (λy=>y.1=0->VC x) (KV x to):=by obtain⟨c,b,c1,c2,c3⟩:=U7 x ok;unfold KV;rw[c1,ak];refine .bind (Li x ok) λv hv=> ?_;rw[Fc];refine .br (λh=> ?_) λ_=> .ret nofun;have vc:=hv h;have s5:=K8 (Fq ok.2.1) vc.sides;rw[Fc];refine .br (λhb=> ?_) λ_=> .ret nofun;obtain⟨r5,_,_,_,hp,_⟩:=c3 vc;have hp:=(hp hb).2;rw[(FN c.replicas to (by unfold maxLen;omega)).1,ak,Fc];refine .br (λ_=> .br (λ_=> .ret nofun) λ_=> ?_) λ_=> .ret nofun;rw[Fc];refine .br (λ_=> .br (λ_=> .ret nofun) λ_=> .br (λ_=> .ret nofun) λ_=> .bind (V3 x ok) λ_ _=> ?_) λ_=> .ret nofun;rw[Fc];refine .br (λ_=> .ip hp.1 (.get (by show c.primary.toNat<x.sides.length;omega) λ_ _ _=> ?_)) λ_=> .ret nofun;rw[Fc];refine .br (λ_=> .br (λ_=> ?_) λ_=> .ret λ_=>vc) λ_=> .ret nofun;rw[Fc];exact .br (λ_=> .ret λ_=>vc) λ_=> .ret nofun
theorem YW(x:qN)(ok:F0 1048576 x)(to:Int):Tt (λy=>Kp x y.1) (Ii x to):=by
 obtain⟨c,b,c1,c2,c3⟩:=U7 x ok;unfold Ii;rw[(HF x ok).1,ak];refine .bind (aas x ok to) λn hn=> ?_;rw[Fc];refine .br (λh=> ?_) λ_=> .ret (.self ok);obtain⟨r5,w5,_⟩:=c3 (hn (eq_of_beq h));rw[c1,ak];refine .bind (VW x ok c.primary) λy hy=> ?_;have hy':Kp x ⟨y.1.now,y.1.servers,y.1.sides,y.1.master,y.1.masterUp,⟨0,0,0⟩,y.1.places⟩:=⟨hy.1,hy.2⟩
 exact .bind (Qz _ hy'.1 ⟨_,to,c.replicas,c.witnesses⟩ ⟨by show c.replicas.length<=_;omega,by show c.witnesses.length<=_;omega⟩) λz hz=> .bind (Ql z.1 hz.1) λw hw=> .ret (hy'.trans (hz.trans hw))
end
end Go.Proofs.YtkghndikalnipabGreat.En
