/- Plain laws. -/
import Derived.Test.YtkghndikalnipabGreatZBX
set_option linter.unusedSimpArgs false
set_option linter.unusedVariables false
namespace Go.Proofs.YtkghndikalnipabGreat.En
open Go
section
def FR[dL](c:qO):Prop:=∃l,ly c.b=some l/\l.length<=maxLen/\(∀m∈l,0<=m/\m<=255)/\0<=c.i/\c.i<=c.b.n
def Dn[dL]{α:Type}(Q:α->Prop)(r:Option (List qO×α)):Prop:=∃c a,r=some ([c],a)/\FR c/\Q a
section
variable [dL] {α β:Type} {Q:α->Prop} {Q':β->Prop}
theorem Dn.ret{c:qO}{a:α}(hc:FR c)(h:Q a):Dn Q (some ([c],a)):=⟨c,a,rfl,hc,h⟩
theorem Dn.bind{r:Option (List qO×α)}{k:List qO×α->Option (List qO×β)}(h:Dn Q r)(hk: ∀c a,FR c->Q a->Dn Q' (k ([c],a))):Dn Q' (r.bind k):=by obtain⟨c,a,rfl,h1,h2⟩:=h;exact hk c a h1 h2
theorem Dn.mono{Q2:α->Prop}{r:Option (List qO×α)}(h:Dn Q r)(hq: ∀a,Q a->Q2 a):Dn Q2 r:=by obtain⟨c,a,h1,h2,h3⟩:=h;exact⟨c,a,h1,h2,hq a h3⟩
theorem Dn.iteP{p:Prop}[Decidable p]{x y:Option (List qO×α)}(hp:p)(h:Dn Q x):Dn Q (iteP p x y):=by rw[jq hp];exact h
theorem Dn.br{b:Bool}{x y:Option (List qO×α)}(h1:b=true->Dn Q x)(h2:b=false->Dn Q y):Dn Q (br b x y):=by
 cases b with
 |true=>exact h1 rfl
 |false=>exact h2 rfl
theorem Dn.get{γ:Type}{l:List γ}{i:Nat}{k:γ->Option (List qO×α)}(hi:i<l.length)(h: ∀x∈l,Dn Q (k x)):Dn Q ((l[i]?).bind k):=by rw[an hi];exact h _ (dq hi)
end
theorem Ub(x:Int):0<=bits .and .i64 x 255/\bits .and .i64 x 255<=255:=by
 have h: (BitVec.ofInt 64 x&&& BitVec.ofInt 64 255).toNat<=255:=by rw[BitVec.toNat_and];exact Nat.and_le_right
 show 0<=IntKind.wrap .i64 _/\IntKind.wrap .i64 _<=255;have e:IntKind.wrap .i64 ((BitVec.ofInt 64 x&&& BitVec.ofInt 64 255).toNat:Int)=((BitVec.ofInt 64 x&&& BitVec.ofInt 64 255).toNat:Int):=of (by omega) (by omega);have e2:bits .and .i64 x 255=IntKind.wrap .i64 ((BitVec.ofInt 64 x&&& BitVec.ofInt 64 255).toNat:Int):=rfl;rw[<-e2] at e;constructor
 ·show 0<=bits .and .i64 x 255;omega
 ·show bits .and .i64 x 255<=255;omega
theorem Wq{x n:Int}(hx:0<=x)(hn:0<n):0<=x.tmod n/\x.tmod n<n:=⟨Int.tmod_nonneg _ hx,Int.tmod_lt_of_pos _ hn⟩
section
variable [dL]
theorem XS{x:Hd}{l:List Int}(h:ly x=some l)(hl:l.length<=maxLen)(hb: ∀m∈l,0<=m/\m<=255):Dn (λ_:Unit=>True) (Q5 x):=by unfold Q5 D7;rw[h];exact⟨_,(),rfl,⟨l,h,hl,hb,c9 _,EI _⟩,trivial⟩
theorem Pq{c:qO}(h:FR c):Dn (λy:Int×Unit=>0<=y.1/\y.1<=255) (MJ [c]):=by
 obtain⟨l,h1,h2,h3,h4,h5⟩:=h;show Dn _ ((DH c).map λy=>([y.1],y.2,()));unfold DH;have hlen:=(B4 h1).1;by_cases hi:c.i< (c.b.n:Int)
 ·rw[if_pos hi,if_pos h4,h1,ak,an (by omega)];refine⟨_,_,rfl,⟨l,h1,h2,h3,?_,?_⟩,Ub _⟩
  ·show 0<=RowKit.wrap64 (c.i+1);unfold RowKit.wrap64;simp only[maxLen] at h2;omega
  ·show RowKit.wrap64 (c.i+1)<=c.b.n;unfold RowKit.wrap64;simp only[maxLen] at h2;omega
 ·rw[if_neg hi];exact⟨_,_,rfl,⟨l,h1,h2,h3,h4,h5⟩,Ub _⟩
theorem FS{c:qO}(h:FR c)(n:Int):Dn (λy:Int×Unit=>0<=y.1/\(y.1<n\/n<=0/\y.1=0)) (Fh [c] n):=by
 unfold Fh;refine .br (λhn=> .ret h ⟨c9 _,.inr ⟨of_decide_eq_true hn,rfl⟩⟩) λhn=> ?_;have hn:=of_decide_eq_false hn;refine .br (λ_=> .bind (Pq h) λc1 y h1 hy=> .iteP rfl ?_) λ_=> .bind (Pq h) λc1 y h1 hy=> .iteP rfl (.bind (Pq h1) λc2 y2 h2 hy2=> .iteP rfl (.bind (Pq h2) λc3 y3 h3 hy3=> .iteP rfl (.bind (Pq h3) λc4 y4 h4 hy4=> .iteP rfl ?_)))
 ·rw[C8 (by omega)];have:=Wq hy.1 (show 0<n by omega);exact .ret h1 ⟨this.1,.inl this.2⟩
 ·rw[C8 (by omega)];simp only;rw[of (n:=y.1*16777216) (by omega) (by omega),of (n:=y2.1*65536) (by omega) (by omega),of (n:=y3.1*256) (by omega) (by omega),of (n:=y.1*16777216+y2.1*65536) (by omega) (by omega),of (n:=y.1*16777216+y2.1*65536+y3.1*256) (by omega) (by omega),of (n:=y.1*16777216+y2.1*65536+y3.1*256+y4.1) (by omega) (by omega)];have:=Wq (show 0<=y.1*16777216+y2.1*65536+y3.1*256+y4.1 by omega) (show 0<n by omega);exact .ret h4 ⟨this.1,.inl this.2⟩
theorem I0{c:qO}(h:FR c){n:Int}(hn:0<n):Dn (λy:Int×Unit=>0<=y.1/\y.1<n) (Fh [c] n):=(FS h n).mono λy hy=>⟨hy.1,by omega⟩
theorem HF{c:qO}(h:FR c)(n:Int):Dn (λ_:Bool×Unit=>True) (F8 [c] n):=by unfold F8;exact .bind (FS h n) λc1 y h1 hy=> .iteP rfl (.ret h1 trivial)
theorem GP{c:qO}(h:FR c){l:List Int}(hl:l≠ []):Dn (λy:Int×Unit=>y.1∈l) (Fo [c] l):=by unfold Fo;have h0:0<l.length:=List.length_pos_iff.2 hl;refine .bind (I0 h (show 0< (l.length:Int) by omega)) λc1 y h1 hy=> .iteP rfl (.iteP hy.1 (.get (by show y.1.toNat<l.length;have:=hy.1;have:=hy.2;omega) λx hx=> .ret h1 hx))
theorem UT{c:qO}(h:FR c):Dn (λ_:Op×Unit=>True) (Mj [c]):=by
 unfold Mj
 repeat first |exact .ret (by assumption) trivial|refine .iteP rfl ?_|refine .br (λ_=> ?_) λ_=> ?_|refine .bind (FS (by assumption) _) λ_ _ _ _=> ?_|refine .bind (HF (by assumption) _) λ_ _ _ _=> ?_|refine .bind (GP (by assumption) (by simp)) λ_ _ _ _=> ?_
theorem Xu{c:qO}(h:FR c):Dn (λ_:vz×Unit=>True) (NP [c]):=by
 unfold NP;dsimp only
 repeat first |exact .ret (by assumption) trivial|refine .iteP rfl ?_|refine .br (λ_=> ?_) λ_=> ?_|refine .bind (FS (by assumption) _) λ_ _ _ _=> ?_|refine .bind (HF (by assumption) _) λ_ _ _ _=> ?_|refine .bind (GP (by assumption) (by simp)) λ_ _ _ _=> ?_
theorem Xc{c:qO}(h:FR c):Dn (λ_:xx×Unit=>True) (LJ [c]):=by
 unfold LJ;dsimp only
 repeat first |exact .ret (by assumption) trivial|refine .iteP rfl ?_|refine .br (λ_=> ?_) λ_=> ?_|refine .bind (FS (by assumption) _) λ_ _ _ _=> ?_|refine .bind (HF (by assumption) _) λ_ _ _ _=> ?_|refine .bind (GP (by assumption) (by simp)) λ_ _ _ _=> ?_|refine .bind (UT (by assumption)) λ_ _ _ _=> ?_
def Ro{σ ε:Type}(I:σ->Prop)(E:ε->Prop)(r:Option (σ⊕ε)):Prop:=(∃s,r=some (.inl s)/\I s)\/ ∃e,r=some (.inr e)/\E e
section
variable {σ ε α:Type} {I:σ->Prop} {E:ε->Prop} {Q:α->Prop}
omit [dL] in
theorem Ro.again{s:σ}(h:I s):Ro I E (some (.inl s)):=.inl ⟨s,rfl,h⟩
omit [dL] in
theorem Ro.done{e:ε}(h:E e):Ro I E (some (.inr e)):=.inr ⟨e,rfl,h⟩
omit [dL] in
theorem Ro.iteP{p:Prop}[Decidable p]{x y:Option (σ⊕ε)}(hp:p)(h:Ro I E x):Ro I E (iteP p x y):=by rw[jq hp];exact h
omit [dL] in
theorem Ro.br{b:Bool}{x y:Option (σ⊕ε)}(h1:b=true->Ro I E x)(h2:b=false->Ro I E y):Ro I E (br b x y):=by
 cases b with
 |true=>exact h1 rfl
 |false=>exact h2 rfl
theorem Ro.draw{r:Option (List qO×α)}{k:List qO×α->Option (σ⊕ε)}(h:Dn Q r)(hk: ∀c a,FR c->Q a->Ro I E (k ([c],a))):Ro I E (r.bind k):=by obtain⟨c,a,rfl,h1,h2⟩:=h;exact hk c a h1 h2
omit [dL] in
theorem TE{B:σ->Option (σ⊕ε)}(μ:σ->Nat)(h: ∀s,I s->Ro (λs'=>I s'/\μ s'<μ s) E (B s)){s:σ}(hs:I s): ∃e,md B s=some e/\E e:=
 AF I μ E (λs hs=>(h s hs).imp (λ⟨s',a,b,c⟩=>⟨s',a,b,c⟩) id) hs
end
theorem Ue{c:qO}(h:FR c){n:Int}(h0:0<=n){evs:List xx}{M:Nat}(hM:evs.length+n.toNat<=M)(hM2:M<=1000):Dn (λy:List xx×Unit=>y.1.length<=M) ((KM (((),(),n,()),(()),[c],evs,())).bind λe=>some e.2.2):=by
 unfold KM
 obtain⟨⟨_,_,l,ps,_⟩,h1,c2,rfl,h2,h3⟩:=TE (B:=I2) (I:=λs=> ∃c,s.2.2.1= [c] /\FR c/\0<=s.1.2.2.1/\s.2.2.2.1.length+s.1.2.2.1.toNat<=M) (E:=λe=> ∃c,e.2.2.1= [c] /\FR c/\e.2.2.2.1.length<=M) (λs=>s.1.2.2.1.toNat) (by
  rintro⟨⟨_,_,k,_⟩,_,l,ps,_⟩ ⟨c,rfl,hc,h0,h1⟩
  simp only at h0 h1;unfold I2;refine .br (λhk=> ?_) λhk=> .done ⟨c,rfl,hc,by show ps.length<=M;omega⟩;have hk:k>0:=of_decide_eq_true hk;have e:IntKind.wrap .i64 (k-1)=k-1:=of (by omega) (by omega)
  have fm: ∀ (c:qO) (x:xx),FR c->Ro (λs': (Unit×Unit×Int×Unit)×Unit×List qO×List xx×Unit=>(∃c,s'.2.2.1= [c] /\FR c/\0<=s'.1.2.2.1/\s'.2.2.2.1.length+s'.1.2.2.1.toNat<=M)/\s'.1.2.2.1.toNat<k.toNat) (λe: (Unit×Unit)×Unit×List qO×List xx×Unit=> ∃c,e.2.2.1= [c] /\FR c/\e.2.2.2.1.length<=M) (iteP ((ps++ [x]).length*80<=2 ^ 40) (some (.inl (((),(),IntKind.wrap .i64 (k-1),()),(()),[c],ps++ [x],()))) none):=λc x hc=>by refine .iteP (by simp only[be,cn];omega) (.again ?_);simp only[e];exact⟨⟨c,rfl,hc,by omega,by simp only[be,cn];omega⟩,by omega⟩
  refine .draw (Xc hc) λc1 _ h1 _=> .iteP rfl (.br (λ_=> .draw (HF h1 _) λc2 _ h2 _=> .iteP rfl (.br (λ_=> .draw (GP h2 (by simp)) λc3 _ h3 _=> .iteP rfl (fm _ _ h3)) λ_=>fm _ _ h2)) λ_=>fm _ _ h1)) (s:=(((),(),n,()),(()),[c],evs,())) ⟨c,rfl,h,h0,hM⟩
 rw[h1];exact⟨c2,_,rfl,h2,h3⟩
theorem Wx{c:qO}(h:FR c){n:Int}(h0:0<=n)(hn:n<=100):Dn (λy:List xx×Unit=>y.1.length<=200) (K1 [c] n):=by
 unfold K1;rw[of (n:=n+1) (by omega) (by omega)];refine .bind (FS h _) λc1 _ h1 _=> .iteP rfl (.bind (FS h1 _) λc2 _ h2 _=> .iteP rfl (.bind (HF h2 _) λc3 _ h3 _=> .iteP rfl (.br (λ_=> ?_) λ_=> ?_)))
 ·exact .bind (I0 h3 (by omega)) λc4 y h4 hy=> .iteP rfl (Ue h4 hy.1 (by have:=hy.2;simp only[bD,bX];omega) (by omega))
 ·exact .bind (I0 h3 (by omega)) λc4 y h4 hy=> .iteP rfl (Ue h4 hy.1 (by have:=hy.2;simp only[bD,bX];omega) (by omega))
theorem X7{c:qO}(h:FR c):Dn (λy:List Int×Unit=>y.1.length=5) (LH [c]):=by
 unfold LH PH
 obtain⟨⟨_,_,l,ps,_⟩,h1,c2,rfl,h2,h3⟩:=TE (B:=JL) (I:=λs=> ∃c,s.2.2.1= [c] /\FR c/\0<=s.1.2.2.1/\s.1.2.2.1<=5/\(s.2.2.2.1.length:Int)=s.1.2.2.1) (E:=λe=> ∃c,e.2.2.1= [c] /\FR c/\e.2.2.2.1.length=5) (λs=>(5-s.1.2.2.1).toNat) (by
  rintro⟨⟨_,_,k,_⟩,_,l,ps,_⟩ ⟨c,rfl,hc,h0,h1,h2⟩
  simp only at h0 h1 h2;unfold JL;refine .br (λhk=> ?_) λhk=> .done ⟨c,rfl,hc,by have : ¬k<5:=of_decide_eq_false hk;show ps.length=5;omega⟩;have hk:k<5:=of_decide_eq_true hk;refine .draw (GP hc (by simp)) λc1 _ h1 _=> .iteP rfl (.iteP (by simp only[be,cn];omega) (.again ?_));simp only;rw[of (n:=k+1) (by omega) (by omega)];exact⟨⟨c1,rfl,h1,by omega,by omega,by simp only[be,cn];omega⟩,by omega⟩) (s:=(((),(),0,()),(()),[c],([]:List Int),())) ⟨c,rfl,h,c9 _,by simp,by simp⟩
 rw[h1];exact⟨c2,_,rfl,h2,h3⟩
theorem Xv{c:qO}(h:FR c):Dn (λy:List sf×Unit=>y.1.length<=6) (Ow [c]):=by
 unfold Ow;refine .bind (I0 h (by decide)) λc0 y0 hc0 hy0=> .iteP rfl ?_;unfold SM
 obtain⟨⟨_,_,l,ps,_⟩,h1,c2,rfl,h2,h3⟩:=TE (B:=Mz) (I:=λs=> ∃c,s.2.2.1= [c] /\FR c/\0<=s.1.2.2.2.1/\s.2.2.2.1.length+s.1.2.2.2.1.toNat<=6) (E:=λe=> ∃c,e.2.2.1= [c] /\FR c/\e.2.2.2.1.length<=6) (λs=>s.1.2.2.2.1.toNat) (by
  rintro⟨⟨_,_,g,k,_⟩,_,l,ps,_⟩ ⟨c,rfl,hc,h0,h1⟩
  simp only at h0 h1;unfold Mz;refine .br (λhk=> ?_) λhk=> .done ⟨c,rfl,hc,by show ps.length<=6;omega⟩;have hk:k>0:=of_decide_eq_true hk;have e:IntKind.wrap .i64 (k-1)=k-1:=of (by omega) (by omega);refine .draw (HF hc _) λc1 _ h1 _=> .iteP rfl (.br (λ_=> .draw (UT h1) λc2 _ h2 _=> .iteP rfl (.iteP (by simp only[be,cn];omega) (.again ?_))) λ_=> .draw (UT h1) λc2 _ h2 _=> .iteP rfl (.iteP (by simp only[be,cn];omega) (.again ?_)))
  all_goals
   simp only[e];exact⟨⟨c2,rfl,h2,by omega,by simp only[be,cn];omega⟩,by omega⟩) (s:=(((),(),1,y0.1,()),(()),[c0],([]:List sf),())) ⟨c0,rfl,hc0,hy0.1,by have:=hy0.2;simp;omega⟩
 rw[h1];exact⟨c2,_,rfl,h2,h3⟩
theorem XT{c:qO}(h:FR c):Dn (λ_:Op×Unit=>True) (Pv [c]):=by
 unfold Pv;refine .bind (UT h) λ_ _ _ _=> ?_
 repeat first |exact .ret (by assumption) trivial|refine .iteP rfl ?_|refine .br (λ_=> ?_) λ_=> ?_|refine .bind (FS (by assumption) _) λ_ _ _ _=> ?_|refine .bind (HF (by assumption) _) λ_ _ _ _=> ?_|refine .bind (GP (by assumption) (by simp)) λ_ _ _ _=> ?_
theorem WM{c:qO}(h:FR c):Dn (λy:List sf×Unit=>y.1.length<=17) (Pw [c]):=by
 unfold Pw;refine .bind (Xv h) λc1 y h1 hy=> .iteP rfl (.bind (FS h1 _) λc2 _ h2 _=> .iteP rfl (.br (λ_=> ?_) λ_=> .br (λ_=> ?_) λ_=> .ret h2 (by show y.1.length<=17;omega)))
 ·refine .bind (GP h2 (by simp)) λc3 _ h3 _=> .iteP rfl (.bind (XT h3) λc4 z h4 _=> .iteP rfl ?_);have e: ∀x:sf,(y.1++ [x]).length<=17:=λx=>by simp only[be,cn];omega
  exact .iteP (ba (bg _ (e _)) (by decide)) (.ret h4 (e _))
 ·unfold SK
  obtain⟨⟨_,_,l,ps,_⟩,h1,c2,rfl,h2,h3⟩:=TE (B:=Lx) (I:=λs=> ∃c,s.2.2.1= [c] /\FR c/\s.2.2.2.1.length<=17) (E:=λe=> ∃c,e.2.2.1= [c] /\FR c/\e.2.2.2.1.length<=17) (λs=>17-s.2.2.2.1.length) (by
   rintro⟨⟨_,_,_⟩,_,l,ps,_⟩ ⟨c,rfl,hc,h0⟩
   simp only at h0;unfold Lx;refine .br (λhk=> ?_) λhk=> .done ⟨c,rfl,hc,h0⟩;have hk: (ps.length:Int)<17:=of_decide_eq_true hk;refine .draw (UT hc) λc1 _ h1 _=> .iteP rfl (.iteP (by simp only[be,cn];omega) (.again ?_));exact⟨⟨c1,rfl,h1,by simp only[be,cn];omega⟩,by simp only[be,cn];omega⟩) (s:=(((),(),()),(()),[c2],y.1,())) ⟨c2,rfl,h2,by show y.1.length<=17;omega⟩
  show Dn _ ((md Lx (((),(),()),(()),[_],y.1,())).bind _);rw[h1];exact⟨c2,_,rfl,h2,h3⟩
end
end
section
def GV(M:Nat)(c:om):Prop:=c.replicas.length<=M/\c.witnesses.length<=M
def F3(M:Nat)(s:qQ):Prop:=GV M s.config/\s.log.length<=M/\s.learned.length<=M
def Mw(M:Nat)(m:kB):Prop:=m.configs.length<=M/\ ∀c∈m.configs,GV M c
def F9(M:Nat)(c:qN):Prop:=(c.servers.length<=M/\ ∀s∈c.servers,F3 M s)/\c.sides.length<=M/\Mw M c.master/\c.places.length<=M
theorem Fw{n:Nat}(h:n<=1048576):n<=maxLen:=by unfold maxLen;omega
end
section
theorem Kg{ρ:Type}(a b:Int)(x y:ρ):br (a==b) x y=if a=b then x else y:=by rw[BP];by_cases h:a=b<;>simp[h]
theorem Ff{ρ:Type}(b:Bool)(x y:ρ):br (!b) x y=br b y x:=by cases b<;>rfl
def G9(x a b:Int):Bool:=decide (a<=x)&&decide (x<=b)
theorem F2(x a b:Int):Fi x a b=some (G9 x a b,()):=by unfold Fi G9;rw[j6];split<;>rename_i h<;>simp[h]
theorem Jr(x a b:Int):Fj x a b=some (G9 x a b,()):=by unfold Fj G9;rw[j6];split<;>rename_i h<;>simp[h]
theorem Fl{x a b:Int}:G9 x a b=true↔a<=x/\x<=b:=by simp[G9]
def Mb(l:List Int):Prop:=∀k (h:k<l.length),(0<=l[k] /\l[k] <=4)/\ ∀_:0<k,l[k-1]'(by omega)<l[k]
theorem Nc(l:List Int)(hl:l.length<=maxLen): (F4 l=some (true,())/\GO l=some (true,())/\Mb l)\/(F4 l=some (false,())/\GO l=some (false,())):=by
 have fm:=DL (B1:=Gj) (B2:=Gi) l.length (λk=>((l,(k:Int),()),(),())) (λk=>((l,l,(l.length:Int),(k:Int),()),(),())) (.inr (((),()),(),())) (.inr (((),()),(),())) (λ_=> .inl ((false,()),(),())) (λ_=> .inl ((false,()),(),()))
  (λk=> ∀h:k<l.length,(0<=l[k] /\l[k] <=4)/\ ∀_:0<k,l[k-1]'(by omega)<l[k]) (λ_=>True)
  (by simp only[Gj];rw[j6,if_neg (by omega)])
  (by simp only[Gi];rw[j6,if_neg (by omega)])
  (λk hk=>by
    have c1: (k:Int)< (l.length:Int):=by omega
    have c2: (0:Int)<=(k:Int):=by omega
    have e1:l[k]? =some l[k] :=an hk;simp only[Gj,Gi,j6,C7,if_pos c1,if_pos c2,cO,e1,ak,F2,Jr];cases hw:G9 l[k] 0 4 with
    |false=>exact .inr ⟨rfl,rfl,trivial⟩
    |true=>
     simp only[dk,CS];have hw:=Fl.1 hw;by_cases h0:0<k
     ·have c3: (k:Int)>0:=by omega
      have c4: (0:Int)<=((k-1:Nat):Int):=by omega
      have e2:l[k-1]? =some l[k-1] :=an (by omega);simp only[if_pos c3,CO h0 (by omega),if_pos c4,cO,e2,ak];by_cases hlt:l[k-1]<l[k]
      ·rw[if_neg (by omega),if_neg (by omega),kT hl hk];exact .inl ⟨rfl,rfl,λ_=>⟨hw,λ_=>hlt⟩⟩
      ·rw[if_pos (by omega),if_pos (by omega)];exact .inr ⟨rfl,rfl,trivial⟩
     ·rw[if_neg (by omega),if_neg (by omega),kT hl hk];exact .inl ⟨rfl,rfl,λ_=>⟨hw,λh=>absurd h h0⟩⟩)
 unfold F4 GO;rcases fm with ⟨k1,k2,k3⟩| ⟨k,_,k1,k2,_⟩
 ·rw[show J8 ((l,0,()),(),())=_ from k1,show J7 ((l,l,(l.length:Int),0,()),(),())=_ from k2];exact .inl ⟨rfl,rfl,λk hk=>k3 k hk hk⟩
 ·rw[show J8 ((l,0,()),(),())=_ from k1,show J7 ((l,l,(l.length:Int),0,()),(),())=_ from k2];exact .inr ⟨rfl,rfl⟩
theorem Mb.lt{l:List Int}(h:Mb l): ∀ (d i:Nat) (h2:i+d+1<l.length),l[i]'(by omega)<l[i+d+1] :=by
 intro d
 induction d with
 |zero=>intro i h2;exact (h (i+1) h2).2 (by omega)
 |succ d ih=>intro i h2;have h1:=ih i (by omega);have h3:=(h (i+d+1+1) h2).2 (by omega);exact Int.lt_trans h1 h3
theorem Mb.pair{l:List Int}(h:Mb l):l.Pairwise (· < ·):=by rw[EO];intro i j hi hj hij;have:=h.lt (j-i-1) i (by omega);simpa [show i+(j-i-1)+1=j by omega] using this
theorem Mb.len{l:List Int}(h:Mb l):l.length<=5:=by
 have ge: ∀k (hk:k<l.length),(k:Int)<=l[k] :=by
  intro k
  induction k with
  |zero=>intro hk;exact (h 0 hk).1.1
  |succ k ih=>intro hk;have h1:=ih (by omega);have h2:=(h (k+1) hk).2 (by omega);simp only[bP] at h2;omega
 rcases cU 5 l.length with hlt|hge
 ·have h1:=ge 5 hlt;have h2:=(h 5 hlt).1.2;omega
 ·exact hge
theorem FP(l:List Int)(x:Int)(hl:l.length<=maxLen):FC l x=some (decide (x∈l),())/\Hk l x=some (decide (x∈l),()):=by
 have fm:=DL (B1:=Ij) (B2:=HI) l.length (λk=>((l,x,(k:Int),()),(),())) (λk=>((l,x,(l.length:Int),(k:Int),()),(),())) (.inr (((),()),(),())) (.inr (((),()),(),())) (λ_=> .inl ((true,()),(),())) (λk=> .inl (((k:Int),()),(),()))
  (λk=>l[k]? ≠some x) (λk=>l[k]? =some x)
  (by simp only[Ij];rw[j6,if_neg (by omega)])
  (by simp only[HI];rw[j6,if_neg (by omega)])
  (λk hk=>by
    have c1: (k:Int)< (l.length:Int):=by omega
    have c2: (0:Int)<=(k:Int):=by omega
    have e1:l[k]? =some l[k] :=an hk;simp only[Ij,HI,j6,C7,if_pos c1,if_pos c2,cO,e1,ak,kT hl hk,Kg];by_cases he:l[k] =x
    ·rw[if_pos he,if_pos he.symm,he];exact .inr ⟨rfl,rfl,rfl⟩
    ·rw[if_neg he,if_neg (λh=>he h.symm)];exact .inl ⟨rfl,rfl,λh=>he (Option.some.inj h)⟩)
 unfold FC Hk Jm Lo;rcases fm with ⟨k1,k2,k3⟩| ⟨k,hk,k1,k2,k3⟩
 ·rw[show Mr ((l,x,0,()),(),())=_ from k1,show LS ((l,x,(l.length:Int),0,()),(),())=_ from k2]
  have hn:x∉l:=λh=>by obtain⟨k,hk,he⟩:=aQ h;exact k3 k hk (by rw[an hk,he])
  rw[decide_eq_false hn];exact⟨rfl,rfl⟩
 ·rw[show Mr ((l,x,0,()),(),())=_ from k1,show LS ((l,x,(l.length:Int),0,()),(),())=_ from k2];rw[decide_eq_true (ay k3)];refine⟨rfl,?_⟩;simp only[ak,EY];rw[decide_eq_true (by omega)]
end
section
theorem IZ{n:Nat}(h:n<=1048576):n*8<=2 ^ 40:=by
 have : (2:Nat) ^ 40=1099511627776:=by decide
 omega
theorem TQ(l:List Int)(x:Int)(hl:l.length<=1000)(h: ∀y∈l,y<x):HE l x=some (l++ [x],()):=by
 have hm:l.length<=maxLen:=by unfold maxLen;omega
 have fm:=tC (B:=IR) l (λk (_:Unit)=>((l,x,(k:Int),()),(),())) (λ_ _=>True) (λk r _=>((l,x,((k+r.length:Nat):Int),()),(),()))
  (λb hb=>by simp only[IR];rw[j6,if_neg (by omega)];rfl)
  (λk b y hy hb=>by
    have hk:=yw hy;have c1: (k:Int)< (l.length:Int):=by omega
    have c2: (0:Int)<=(k:Int):=by omega
    refine .inl ⟨(),?_,trivial,?_⟩
    ·simp only[IR,j6,C7,if_pos c1,if_pos c2,cO,hy,ak,if_pos (h y (ay hy)),kT hm hk]
    ·rw[bD,show k+((l.drop (k+1)).length+1)=k+1+(l.drop (k+1)).length by omega])
  0 () (bH _) trivial
 unfold HE;rw[show Qe ((l,x,0,()),(),())=_ from fm];simp only[ak,cF,aM];have c0: ¬ ((l.length:Int)< (l.length:Int)):=by omega
 have d1: (0:Int)<=0/\(0:Int)<=(l.length:Int)/\(l.length:Int)<=(l.length:Int):=by omega
 have d2: (0:Int)<=(l.length:Int)/\(l.length:Int)<=(l.length:Int)/\(l.length:Int)<=(l.length:Int):=by omega
 simp only[j6,if_neg c0,C7,if_pos d1,if_pos d2,cO,Fc,cF,EW,de,dE,bI,EM,bK];rw[if_pos (IZ (by omega)),if_pos (IZ (by simp;omega))];exact if_pos (IZ (by simp;omega))
theorem PY(a b:List Int)(ha:Mb a)(hb:b.length<=maxLen):GL a b=some (a.filter λx=>decide (x∈b),()):=by
 have hl:=ha.len;have hm:a.length<=maxLen:=by unfold maxLen;omega
 have hp:=ha.pair
 have fm:=tC (B:=GF) a (λk (out:List Int)=>((a,b,(),(k:Int),()),(),(out,()))) (λk out=>out=(a.take k).filter λx=>decide (x∈b)) (λk r out=>(((),()),(),(out++r.filter λx=>decide (x∈b),())))
  (λout hb=>by simp only[GF];rw[j6,if_neg (by omega)];simp)
  (λk out x hx hout=>by
    have hk:=yw hx;have c1: (k:Int)< (a.length:Int):=by omega
    have c2: (0:Int)<=(k:Int):=by omega
    have hxe:a[k] =x:=by rw[an hk] at hx;exact Option.some.inj hx
    simp only[GF,j6,C7,if_pos c1,if_pos c2,cO,hx,ak,(FP b x hb).1,kT hm hk];by_cases hin:x∈b
    ·have hlt: ∀y∈out,y<x:=by
      intro y hy;rw[hout,EX] at hy;obtain⟨i,hi,he⟩:=aQ hy.1;have hi':i<k:=by simp at hi;omega
      rw[Fd] at he;rw[<-he,<-hxe];exact EO.1 hp i k (by omega) hk hi'
     have hol:out.length<=1000:=by rw[hout];have:=Fa (λx=>decide (x∈b)) (a.take k);simp at this;omega
     simp only[if_pos hin,TQ out x hol hlt,ak];refine .inl ⟨out++ [x],rfl,?_,?_⟩
     ·rw[hout,EN,hx,EP];simp[hin]
     ·simp[hin]
    ·simp only[if_neg hin];refine .inl ⟨out,rfl,?_,?_⟩
     ·rw[hout,EN,hx,EP];simp[hin]
     ·simp[hin])
  0 [] (bH _) rfl
 unfold GL;rw[show Mf ((a,b,(),0,()),(),([],()))=_ from fm];rfl
theorem U7{n:Nat}(hn:n<=5): ∃m,Ps (IntKind.wrap .u64 (n:Int))=some (m,()):=by
 have :n=0\/n=1\/n=2\/n=3\/n=4\/n=5:=by omega
 rcases this with rfl|rfl|rfl|rfl|rfl|rfl
 ·exact⟨0,by kernel_rfl⟩
 ·exact⟨1,by kernel_rfl⟩
 ·exact⟨2,by kernel_rfl⟩
 ·exact⟨2,by kernel_rfl⟩
 ·exact⟨3,by kernel_rfl⟩
 ·exact⟨3,by kernel_rfl⟩
theorem WA(l:List Int)(ha:Mb l):FK l 0 (l.length:Int)=some (l,()):=by
 have hl:=ha.len;have hm:l.length<=maxLen:=by unfold maxLen;omega
 have inner: ∀k (hk:k<l.length),0<k->Hu (((),0,(l.length:Int),(k:Int),(k:Int),()),(),(l,()))=some (((),0,(l.length:Int),(k:Int),()),(),(l,())):=by
  intro k hk h0;refine me ?_;have c1: (k:Int)>0:=by omega
  have c2: (0:Int)<=(k:Int)/\(k:Int)< (l.length:Int):=by omega
  have c3: (0:Int)<=((k-1:Nat):Int)/\((k-1:Nat):Int)< (l.length:Int):=by omega
  have e1:l[k]? =some l[k] :=an hk;have e2:l[k-1]? =some l[k-1] :=an (by omega);have hlt:=(ha k hk).2 h0
  have less:JM l[k] l[k-1] =some (false,()):=by unfold JM I3;simp only[beq_self_eq_true,dk,ak,CS];rw[decide_eq_false (by omega)]
  simp only[FY,j6,C7,if_pos c1,if_pos c2,CO h0 (by omega),if_pos c3,cO,e1,e2,ak,less,CS]
 have outer:=AF (B:=Fx) (λs=> ∃k:Nat,0<k/\s=(((),0,(l.length:Int),(k:Int),()),(),(l,()))) (λs=>l.length-s.1.2.2.2.1.toNat) (λe=>e=((()),(),(l,())))
  (λs hs=>by
    obtain⟨k,h0,rfl⟩:=hs;by_cases hk:k<l.length
    ·have c1: (k:Int)< (l.length:Int):=by omega
     refine .inl ⟨(((),0,(l.length:Int),((k+1:Nat):Int),()),(),(l,())),?_,⟨k+1,by omega,rfl⟩,?_⟩
     ·simp only[Fx,j6,if_pos c1,inner k hk h0,ak,kT hm hk]
     ·simp only[cO];omega
    ·have c1: ¬ (k:Int)< (l.length:Int):=by omega
     exact .inr ⟨_,by simp only[Fx,j6,if_neg c1],rfl⟩)
  (s:=(((),0,(l.length:Int),((1:Nat):Int),()),(),(l,()))) ⟨1,by omega,rfl⟩
 obtain⟨e,h1,rfl⟩:=outer;unfold FK;rw[show IntKind.wrap .i64 ((0:Int)+1)=((1:Nat):Int) from by rw[of (by omega) (by omega)];rfl,show Ht (((),0,(l.length:Int),((1:Nat):Int),()),(),(l,()))=_ from h1];rfl
theorem X9(l:List Int)(ha:Mb l):IB l=some (l,()):=by
 have hl:=ha.len;obtain⟨m,hm⟩:=U7 hl
 have hp:Gc l 0 (l.length:Int) m=some (l,()):=by
  unfold Gc
  have :IG (((),0,(l.length:Int),m,true,true,()),(),(l,()))=some ((()),(),(l,())):=by refine me ?_;simp only[Gk];rw[of (by omega) (by omega),j6,if_pos (by omega),WA l ha,ak,jq rfl]
  rw[this];rfl
 unfold IB;simp only[hm,ak,hp];exact jq trivial _ _
theorem Ud(l:List Int)(ha:Mb l):Hq l=some (l,()):=by
 have hl:=ha.len;have hm:l.length<=maxLen:=by unfold maxLen;omega
 unfold Hq;rw[j6];split
 ·rfl
 ·have fm:=AF (B:=Gp) (λs=> ∃k:Nat,0<k/\k<=l.length/\s=(((),(k:Int),()),(),(l,()))) (λs=>l.length-s.1.2.1.toNat) (λe=>e= .inr (((),(),()),(),(l,())))
   (λs hs=>by
     obtain⟨k,h0,hkl,rfl⟩:=hs;by_cases hk:k<l.length
     ·have c1: (k:Int)< (l.length:Int):=by omega
      have c2: (0:Int)<=(k:Int)/\(k:Int)< (l.length:Int):=by omega
      have c3: (0:Int)<=((k-1:Nat):Int)/\((k-1:Nat):Int)< (l.length:Int):=by omega
      have e1:l[k]? =some l[k] :=an hk;have e2:l[k-1]? =some l[k-1] :=an (by omega);have hlt:=(ha k hk).2 h0;refine .inl ⟨(((),((k+1:Nat):Int),()),(),(l,())),?_,⟨k+1,by omega,by omega,rfl⟩,?_⟩
      ·simp only[Gp,j6,C7,if_pos c1,if_pos c2,CO h0 (by omega),if_pos c3,cO,e1,e2,ak,Kg,kT hm hk];rw[if_neg (by omega)]
      ·simp only[cO];omega
     ·have c1: ¬ (k:Int)< (l.length:Int):=by omega
      exact .inr ⟨_,by simp only[Gp,j6,if_neg c1],rfl⟩)
   (s:=(((),((1:Nat):Int),()),(),(l,()))) ⟨1,by omega,by omega,rfl⟩
  obtain⟨e,h1,rfl⟩:=fm;rw[show Lc (((),1,()),(),(l,()))=_ from h1];rfl
theorem Wr(l:List Int)(ha:Mb l):KR l=some (l,()):=by have hl:=ha.len;unfold KR Hp;rw[jq (IZ (by omega)),ak,X9 l ha,ak,jq rfl,Ud l ha];rfl
end
section
theorem LP{σ ε:Type}{B:σ->Option (σ⊕ε)}(n:Nat)(m:Nat->σ)(t:ε)(f:Nat->ε)(p:Nat->Bool)(h0:B (m n)=some (.inr t))(h: ∀k,k<n->B (m k)=some (if p k=true then .inr (f k) else .inl (m (k+1)))):
  (md B (m 0)=some t/\ ∀k,k<n->p k=false)\/ ∃k,k<n/\md B (m 0)=some (f k)/\p k=true/\ ∀j,j<k->p j=false:=by
 have fm: ∀d j,j+d=n->(md B (m j)=some t/\ ∀k,j<=k->k<n->p k=false)\/ ∃k,k<n/\md B (m j)=some (f k)/\p k=true/\ ∀i,j<=i->i<k->p i=false:=by
  intro d
  induction d with
  |zero=>
   intro j hj;have :j=n:=by omega
   subst this;exact .inl ⟨me h0,λk a b=>by omega⟩
  |succ d ih=>
   intro j hj;have h1:=h j (by omega);cases hp:p j with
   |true=>rw[hp,if_pos rfl] at h1;exact .inr ⟨j,by omega,me h1,hp,λi a b=>by omega⟩
   |false=>
    rw[hp,if_neg (by simp)] at h1;rw[tD h1];rcases ih (j+1) (by omega) with ⟨k1,k2⟩| ⟨k,k0,k1,k2,k3⟩
    ·refine .inl ⟨k1,λk a b=> ?_⟩;rcases Nat.eq_or_lt_of_le a with rfl|a
     ·exact hp
     ·exact k2 k a b
    ·refine .inr ⟨k,k0,k1,k2,λi a b=> ?_⟩;rcases Nat.eq_or_lt_of_le a with rfl|a
     ·exact hp
     ·exact k3 i a b
 rcases fm n 0 (by omega) with ⟨a,b⟩| ⟨k,a,b,c,d⟩
 ·exact .inl ⟨a,λk hk=>b k (bH _) hk⟩
 ·exact .inr ⟨k,a,b,c,λj hj=>d j (bH _) hj⟩
theorem V6{σ1 ε1 σ2 ε2 β:Type}{B1:σ1->Option (σ1⊕ε1)}{B2:σ2->Option (σ2⊕ε2)}(n:Nat)(m1:Nat->β->σ1)(m2:Nat->β->σ2)(J:Nat->β->Prop)(E1:β->ε1)(E2:β->ε2)
  (h0: ∀b,J n b->B1 (m1 n b)=some (.inr (E1 b))/\B2 (m2 n b)=some (.inr (E2 b)))
  (h1: ∀k b,k<n->J k b-> ∃b',B1 (m1 k b)=some (.inl (m1 (k+1) b'))/\B2 (m2 k b)=some (.inl (m2 (k+1) b'))/\J (k+1) b')
  (b:β) (hb:J 0 b): ∃b',J n b'/\md B1 (m1 0 b)=some (E1 b')/\md B2 (m2 0 b)=some (E2 b'):=by
 have go: ∀ (d k:Nat) (b:β),k+d=n->J k b-> ∃b',J n b'/\md B1 (m1 k b)=some (E1 b')/\md B2 (m2 k b)=some (E2 b'):=by
  intro d
  induction d with
  |zero=>
   intro k b hk hj;have :k=n:=by omega
   subst this;exact⟨b,hj,me (h0 b hj).1,me (h0 b hj).2⟩
  |succ d ih=>intro k b hk hj;obtain⟨b',p1,p2,p3⟩:=h1 k b (by omega) hj;obtain⟨c,q1,q2,q3⟩:=ih (k+1) b' (by omega) p3;exact⟨c,q1,by rw[tD p1];exact q2,by rw[tD p2];exact q3⟩
 exact go n 0 b (by omega) hb
theorem Qo{l:List Int}{p:Int->Bool}(h: ∀x∈l,p x=true):l.filter p=l:=List.filter_eq_self.2 h
theorem U9(a b:List Int)(ha:a.length<=1000)(hb:b.length<=maxLen):Fv a b=some (a.filter λx=> !decide (x∈b),()):=by
 have hm:a.length<=maxLen:=by unfold maxLen;omega
 have hm':a.length<=9223372036854775807:=hm
 have has: ∀x,Gq x b=some (decide (x∈b),()):=by intro x;unfold Gq;rw[(FP b x hb).2];rfl
 have find:=LP (B:=Fr) a.length (λk=>((a,(b,()),(a.length:Int),(k:Int),()),(),())) (.inr (((),()),(),())) (λk=> .inl (((k:Int),()),(),())) (λk=>match a[k]? with |some x=>decide (x∈b)|none=>false)
  (by simp only[Fr];rw[j6,if_neg (by omega)])
  (λk hk=>by
    have c1: (k:Int)< (a.length:Int):=by omega
    have c2: (0:Int)<=(k:Int):=by omega
    simp only[Fr,j6,C7,if_pos c1,if_pos c2,cO,an hk,ak,has,kT hm hk];by_cases hin:a[k] ∈b<;>simp[hin])
 unfold Fv FO;rcases find with ⟨k1,k2⟩| ⟨i,hi,k1,k2,k3⟩
 ·rw[show F7 ((a,(b,()),(a.length:Int),0,()),(),())=_ from k1];simp only[ak,ET,beq_self_eq_true,DG];rw[Qo λx hx=> ?_];obtain⟨k,hk,rfl⟩:=aQ hx;have:=k2 k hk;rw[an hk] at this;simpa using this
 ·rw[show F7 ((a,(b,()),(a.length:Int),0,()),(),())=_ from k1]
  have hne: ((i:Int)== -1)=false:=by simp only[beq_eq_false_iff_ne,ne_eq];omega
  simp only[ak,EY,hne,CS,kT hm hi];rw[an hi] at k2
  have loop:=AF (B:=Fn) (λs=> ∃ (i j:Nat) (v:List Int),s=(((),(b,()),(i:Int),(j:Int),()),(),(v,()))/\i<=j/\j<=a.length/\v.length=a.length/\v.take i=(a.take j).filter (λx=> !decide (x∈b))/\v.drop j=a.drop j) (λs=>a.length-s.1.2.2.2.1.toNat)
   (λe=> ∃ (i:Nat) (v:List Int),e=(((),(i:Int),()),(),(v,()))/\i<=a.length/\v.length=a.length/\v.take i=a.filter (λx=> !decide (x∈b)))
   (λs hs=>by
     obtain⟨i,j,v,rfl,hij,hj,hv,ht,hd⟩:=hs;by_cases hlt:j<a.length
     ·have c1: (j:Int)< (v.length:Int):=by omega
      have c2: (0:Int)<=(j:Int)/\(j:Int)< (v.length:Int):=by omega
      have c3: (0:Int)<=(i:Int)/\(i:Int)< (v.length:Int):=by omega
      have e1:v[j]? =some a[j] :=by have:=congrArg (λl:List Int=>l[0]?) hd;simpa [bn,an hlt] using this
      have e2:v[i]? =some (v[i]'(by omega)):=an _;have hta:a.take (j+1)=a.take j++ [a[j]] :=by rw[EN,an hlt];rfl
      have hdd:v.drop (j+1)=a.drop (j+1):=by have:=congrArg (List.drop 1) hd;simpa [cw,b8] using this
      left;simp only[Fn,j6,C7,if_pos c1,if_pos c2,cO,e1,ak,has,if_pos c3,e2,kT hm hlt,Ff,kT hm (show i<a.length by omega)];by_cases hin:a[j] ∈b
      ·rw[if_pos hin];refine⟨_,rfl,⟨i,j+1,v,rfl,by omega,by omega,hv,?_,hdd⟩,?_⟩
       ·rw[ht,hta,EP];simp[hin]
       ·simp only[cO];omega
      ·rw[if_neg hin];refine⟨_,rfl,⟨i+1,j+1,v.set i a[j],rfl,by omega,by omega,by simp[hv],?_,?_⟩,?_⟩
       ·rw[qi _ (by omega),ht,hta,EP];simp[hin]
       ·rw[List.drop_set_of_lt (by omega),hdd]
       ·simp only[cO];omega
     ·have :j=a.length:=by omega
      subst this;right;refine⟨_,by simp only[Fn];rw[j6,if_neg (by omega)],⟨i,v,rfl,hij,hv,?_⟩⟩;rw[ht,EM])
   (s:=(((),(b,()),(i:Int),((i+1:Nat):Int),()),(),(a,()))) ⟨i,i+1,a,rfl,by omega,by omega,rfl,by
     have hta:a.take (i+1)=a.take i++ [a[i]] :=by rw[EN,an hi];rfl
     rw[hta,EP,Qo (l:=a.take i) λx hx=> ?_]
     ·simp only[decide_eq_true_eq] at k2;simp[k2]
     ·obtain⟨j,hj,rfl⟩:=aQ hx;have hj':j<i:=by simp at hj;omega
      have:=k3 j hj';rw[an (by omega)] at this;rw[Fd];simpa using this,rfl⟩
  obtain⟨e,h1,i',v,rfl,h2,h3,h4⟩:=loop;rw[show Gu (((),(b,()),(i:Int),((i+1:Nat):Int),()),(),(a,()))=_ from h1];have d1: (0:Int)<=(i':Int)/\(i':Int)<=(v.length:Int)/\(v.length:Int)<=((v.length:Nat):Int):=by omega
  have d2:i'+(v.length-i')<=v.length:=by omega
  have d3: (0:Int)<=0/\(0:Int)<=(i':Int)/\(i':Int)<=((v.length:Nat):Int):=by omega
  simp only[ak,cO,Fc,aM,EW,C7,if_pos d1,if_pos d2,if_pos d3];rw[if_pos ⟨trivial,by simp;omega⟩];rw[aY,List.take_append_of_le_length (by simp;omega),List.take_take,Nat.min_self,h4]
theorem Uf(a b:List Int)(ha:Mb a)(hb:b.length<=maxLen):G0 a b=some (a.filter λx=> !decide (x∈b),()):=by have hl:=ha.len;unfold G0;rw[Wr a ha,ak,U9 a b (by omega) hb];rfl
theorem Yn(a b:List Int)(ha:Mb a)(hb:b.length<=maxLen):H4 a b=some (a.filter λx=>decide (x∈b),()):=by
 have hl:=ha.len;unfold H4;rw[Uf a b ha hb];simp only[ak]
 rw[Uf a (a.filter λx=> !decide (x∈b)) ha (by have:=Fa (λx=> !decide (x∈b)) a;unfold maxLen;omega)]
 simp only[ak]
 congr 2
 apply List.filter_congr;intro x hx;simp[EX,hx]
theorem IJ(c:om)(h:GV maxLen c):Eh (Fm c) (Hb c):=by
 unfold Fm Hb;simp only[F2,Jr,ak];cases G9 c.epoch 1 20 with
 |false=>exact⟨_,rfl,rfl⟩
 |true=>
  rcases Nc c.replicas h.1 with ⟨a1,a2,a3⟩| ⟨a1,a2⟩
  ·rcases Nc c.witnesses h.2 with ⟨b1,b2,b3⟩| ⟨b1,b2⟩
   ·simp only[a1,a2,b1,b2,ak,DG,(FP c.replicas c.primary h.1).1,(FP c.replicas c.primary h.1).2,PY _ _ a3 h.2,Yn _ _ a3 h.2];cases decide (c.primary∈c.replicas)<;>exact⟨_,rfl,rfl⟩
   ·simp only[a1,a2,b1,b2,ak,DG,CS];exact⟨_,rfl,rfl⟩
  ·simp only[a1,a2,ak,DG,CS];exact⟨_,rfl,rfl⟩
end
section
theorem Pp(l:List Int)(hl:l.length<=maxLen):Eh (G3 l) (Ki l):=by
 have fm:=DL (B1:=IL) (B2:=Fy) l.length (λk=>((l,(k:Int),()),(),())) (λk=>((l,(),(l.length:Int),(k:Int),()),(),())) (.inr ((l,(),()),(),())) (.inr (((),()),(),())) (λ_=> .inl ((l,false,()),(),())) (λk=> .inl (((k:Int),()),(),()))
  (λ_=>True) (λ_=>True)
  (by simp only[IL];rw[j6,if_neg (by omega)])
  (by simp only[Fy];rw[j6,if_neg (by omega)])
  (λk hk=>by
    have c1: (k:Int)< (l.length:Int):=by omega
    have c2: (0:Int)<=(k:Int):=by omega
    simp only[IL,Fy,j6,C7,if_pos c1,if_pos c2,cO,an hk,ak,KJ,F2,Jr,kT hl hk];cases G9 l[k] 0 3 with
    |false=>exact .inr ⟨rfl,rfl,trivial⟩
    |true=>exact .inl ⟨rfl,rfl,trivial⟩)
 unfold G3 Ki F0 Ga;rcases fm with ⟨k1,k2,_⟩| ⟨k,_,k1,k2,_⟩
 ·rw[show Nq ((l,0,()),(),())=_ from k1,show Gw ((l,(),(l.length:Int),0,()),(),())=_ from k2];simp only[ak,ET];cases ((l.length:Int)==5)<;>exact⟨_,rfl,rfl⟩
 ·rw[show Nq ((l,0,()),(),())=_ from k1,show Gw ((l,(),(l.length:Int),0,()),(),())=_ from k2];simp only[ak,EY];rw[decide_eq_true (by omega)];cases ((l.length:Int)==5)<;>exact⟨_,rfl,rfl⟩
theorem masterLog(m:kB)(h:Mw maxLen m): ∃b,FL m=some (b,())/\Il m=some (b,()):=by
 obtain⟨hl,hc⟩:=h
 have fm:=DL (B1:=FJ) (B2:=Ha) m.configs.length (λk=>(((),(k:Int),()),((m.configs,m.activated,()),()),())) (λk=>(((),m.configs,(m.configs.length:Int),(k:Int),()),((m.configs,m.activated,()),()),())) (.inr (((),(),()),((m.configs,m.activated,()),()),())) (.inr (((),(),()),((m.configs,m.activated,()),()),())) (λ_=> .inl (((),false,()),((m.configs,m.activated,()),()),())) (λ_=> .inl (((),false,()),((m.configs,m.activated,()),()),()))
  (λ_=>True) (λ_=>True)
  (by simp only[FJ];rw[j6,if_neg (by omega)])
  (by simp only[Ha];rw[j6,if_neg (by omega)])
  (λk hk=>by
    have c1: (k:Int)< (m.configs.length:Int):=by omega
    have c2: (0:Int)<=(k:Int):=by omega
    obtain⟨b,v1,v2⟩:=IJ m.configs[k] (hc _ (dq hk));simp only[FJ,Ha,j6,C7,if_pos c1,if_pos c2,cO,an hk,ak,v1,v2,kT hl hk,Ff];cases b with
    |false=>exact .inr ⟨rfl,rfl,trivial⟩
    |true=>
     cases (m.configs[k].epoch==((k+1:Nat):Int)) with
     |false=>exact .inr ⟨rfl,rfl,trivial⟩
     |true=>exact .inl ⟨rfl,rfl,trivial⟩)
 unfold FL Il;rcases fm with ⟨k1,k2,_⟩| ⟨k,_,k1,k2,_⟩
 ·rw[show Ic (((),0,()),((m.configs,m.activated,()),()),())=_ from k1,show K6 (((),m.configs,(m.configs.length:Int),0,()),((m.configs,m.activated,()),()),())=_ from k2];simp only[ak,ET,F2,Jr];exact⟨_,rfl,rfl⟩
 ·rw[show Ic (((),0,()),((m.configs,m.activated,()),()),())=_ from k1,show K6 (((),m.configs,(m.configs.length:Int),0,()),((m.configs,m.activated,()),()),())=_ from k2];exact⟨_,rfl,rfl⟩
theorem Nl(x:vz):Eh (GH x) (GG x):=by unfold GH GG;simp only[F2,Jr,ak];cases ((x.epoch==0)&&((x.holder==0)&&((x.ends==0)&&true)))<;>cases G9 x.epoch 1 20<;>cases G9 x.holder 0 4<;>exact⟨_,rfl,rfl⟩
theorem My(l:List vB)(hl:l.length<=maxLen):Eh (FI l) (Jy l):=by
 have fm:=DL (B1:=Hx) (B2:=Fu) l.length (λk=>((l,(k:Int),()),(),())) (λk=>((l,(),(l.length:Int),(k:Int),()),(),())) (.inr ((l,(),()),(),())) (.inr (((),()),(),())) (λ_=> .inl ((l,false,()),(),())) (λk=> .inl (((k:Int),()),(),()))
  (λ_=>True) (λ_=>True)
  (by simp only[Hx];rw[j6,if_neg (by omega)])
  (by simp only[Fu];rw[j6,if_neg (by omega)])
  (λk hk=>by
    have c1: (k:Int)< (l.length:Int):=by omega
    have c2: (0:Int)<=(k:Int):=by omega
    simp only[Hx,Fu,j6,C7,if_pos c1,if_pos c2,cO,an hk,ak,JN,F2,Jr,kT hl hk];cases G9 l[k].rack 0 9 with
    |false=>exact .inr ⟨rfl,rfl,trivial⟩
    |true=>
     cases G9 l[k].capacity 0 9 with
     |false=>exact .inr ⟨rfl,rfl,trivial⟩
     |true=>
      cases G9 l[k].load 0 99 with
      |false=>exact .inr ⟨rfl,rfl,trivial⟩
      |true=>exact .inl ⟨rfl,rfl,trivial⟩)
 unfold FI Jy FM F1;rcases fm with ⟨k1,k2,_⟩| ⟨k,_,k1,k2,_⟩
 ·rw[show Mq ((l,0,()),(),())=_ from k1,show Gd ((l,(),(l.length:Int),0,()),(),())=_ from k2];simp only[ak,ET];cases ((l.length:Int)==5)<;>exact⟨_,rfl,rfl⟩
 ·rw[show Mq ((l,0,()),(),())=_ from k1,show Gd ((l,(),(l.length:Int),0,()),(),())=_ from k2];simp only[ak,EY];rw[decide_eq_true (by omega)];cases ((l.length:Int)==5)<;>exact⟨_,rfl,rfl⟩
theorem Ua(x:Op):Eh (FD x) (Iw x):=by unfold FD Iw;simp only[F2,Jr,ak];cases G9 x.client 0 2<;>cases G9 x.seq 1 99<;>cases G9 x.object 0 2<;>cases G9 x.value 0 9<;>cases (x.kind==1)<;>cases (x.kind==2)<;>cases (x.old==0)<;>exact⟨_,rfl,rfl⟩
theorem isLog(l:List sf)(hl:l.length<=maxLen): (FZ l=some (true,())/\Lj l=some (true,())/\l.length<=16)\/(FZ l=some (false,())/\Lj l=some (false,())):=by
 have fm:=DL (B1:=IM) (B2:=Lw) l.length (λk=>((l,(k:Int),()),(),())) (λk=>((l,l,(l.length:Int),(k:Int),()),(),())) (.inr ((l,(),()),(),())) (.inr ((l,(),()),(),())) (λ_=> .inl ((l,false,()),(),())) (λ_=> .inl ((l,false,()),(),()))
  (λ_=>True) (λ_=>True)
  (by simp only[IM];rw[j6,if_neg (by omega)])
  (by simp only[Lw];rw[j6,if_neg (by omega)])
  (λk hk=>by
    have c1: (k:Int)< (l.length:Int):=by omega
    have c2: (0:Int)<=(k:Int):=by omega
    obtain⟨b,v1,v2⟩:=Ua l[k].op;simp only[IM,Lw,j6,C7,if_pos c1,if_pos c2,cO,an hk,ak,v1,v2,F2,Jr,kT hl hk,Ff];cases G9 l[k].epoch 1 20 with
    |false=>exact .inr ⟨rfl,rfl,trivial⟩
    |true=>
     simp only[DG];by_cases h0:0<k
     ·have c3: (k:Int)>0:=by omega
      have c4: (0:Int)<=((k-1:Nat):Int):=by omega
      have e2:l[k-1]? =some l[k-1] :=an (by omega);simp only[if_pos c3,CO h0 (by omega),if_pos c4,cO,e2,ak];by_cases hlt:l[k].epoch<l[k-1].epoch
      ·rw[if_pos hlt,if_pos (show l[k-1].epoch>l[k].epoch from hlt)];cases b<;>exact .inr ⟨rfl,rfl,trivial⟩
      ·rw[if_neg hlt,if_neg (show ¬l[k-1].epoch>l[k].epoch from hlt)];cases b with
       |false=>exact .inr ⟨rfl,rfl,trivial⟩
       |true=>exact .inl ⟨rfl,rfl,trivial⟩
     ·have c3: ¬ (k:Int)>0:=by omega
      simp only[if_neg c3];cases b with
      |false=>exact .inr ⟨rfl,rfl,trivial⟩
      |true=>exact .inl ⟨rfl,rfl,trivial⟩)
 unfold FZ Lj;rcases fm with ⟨k1,k2,_⟩| ⟨k,_,k1,k2,_⟩
 ·rw[show MW ((l,0,()),(),())=_ from k1,show Qb ((l,l,(l.length:Int),0,()),(),())=_ from k2];simp only[ak,ET];by_cases h: (l.length:Int)<=16
  ·rw[decide_eq_true h];exact .inl ⟨rfl,rfl,by omega⟩
  ·rw[decide_eq_false h];exact .inr ⟨rfl,rfl⟩
 ·rw[show MW ((l,0,()),(),())=_ from k1,show Qb ((l,l,(l.length:Int),0,()),(),())=_ from k2];exact .inr ⟨rfl,rfl⟩
theorem Li(a b:List Int)(ha:a.length<=maxLen):HN a b=some (decide (a=b),())/\HJ a b=some (decide (a=b),()):=by
 unfold HN HJ Ln;by_cases hlen:a.length=b.length
 ·have hbe: (!((a.length:Int)==(b.length:Int)))=false:=by simp[hlen]
  have fm:=DL (B1:=GW) (B2:=HH) a.length (λk=>((a,b,(k:Int),()),(),())) (λk=>((a,b,(a.length:Int),(k:Int),()),(),())) (.inr (((),()),(),())) (.inr (((),()),(),())) (λ_=> .inl ((false,()),(),())) (λ_=> .inl ((false,()),(),()))
   (λk=>a[k]? =b[k]?) (λk=>a[k]? ≠b[k]?)
   (by simp only[GW];rw[j6,if_neg (by omega)])
   (by simp only[HH];rw[j6,if_neg (by omega)])
   (λk hk=>by
     have c1: (k:Int)< (a.length:Int):=by omega
     have c2: (0:Int)<=(k:Int):=by omega
     simp only[GW,HH,j6,C7,if_pos c1,if_pos c2,cO,an hk,an (show k<b.length by omega),ak,kT ha hk,Ff,Kg];by_cases he:a[k] =b[k]'(by omega)
     ·simp only[if_pos he];exact .inl ⟨trivial,trivial,by rw[he]⟩
     ·simp only[if_neg he];exact .inr ⟨trivial,trivial,λh=>he (Option.some.inj h)⟩)
  rw[hbe,CS,CS];rcases fm with ⟨k1,k2,k3⟩| ⟨k,hk,k1,k2,k3⟩
  ·rw[show Ky ((a,b,0,()),(),())=_ from k1,show LR ((a,b,(a.length:Int),0,()),(),())=_ from k2]
   have :a=b:=bE λk=>by
    rcases cU k a.length with h|h
    ·exact k3 k h
    ·rw[cz h,cz (by omega)]
   rw[decide_eq_true this];exact⟨rfl,rfl⟩
  ·rw[show Ky ((a,b,0,()),(),())=_ from k1,show LR ((a,b,(a.length:Int),0,()),(),())=_ from k2];have :a≠b:=λh=>k3 (by rw[h]);rw[decide_eq_false this];exact⟨rfl,rfl⟩
 ·have hbe: (!((a.length:Int)==(b.length:Int)))=true:=by
   simp only[bT,beq_eq_false_iff_ne,ne_eq];omega
  rw[hbe,DG,DG,decide_eq_false (λh=>hlen (by rw[h]))];exact⟨rfl,rfl⟩
theorem Hj(a b:om)(ha:GV maxLen a):Gm a b=some (decide (a=b),())/\G2 a b=some (decide (a=b),()):=by unfold Gm G2;simp only[(Li a.replicas b.replicas ha.1).1,(Li a.replicas b.replicas ha.1).2,(Li a.witnesses b.witnesses ha.2).1,(Li a.witnesses b.witnesses ha.2).2,ak,Kg,j6];obtain⟨a1,a2,a3,a4⟩:=a;obtain⟨b1,b2,b3,b4⟩:=b;simp only[om.mk.injEq];by_cases h1:a1=b1<;>by_cases h2:a2=b2<;>by_cases h3:a3=b3<;>by_cases h4:a4=b4<;>simp[h1,h2,h3,h4]
theorem MV(l:List sf)(hl:l.length<=maxLen): ∃n,JD l=some (n,())/\Jz l=some (n,()):=by
 unfold JD Jz;rcases bu l.length with h|h
 ·have : ((l.length:Int)==0)=true:=by simp[h]
  rw[this];exact⟨_,rfl,rfl⟩
 ·have : ((l.length:Int)==0)=false:=by
   simp only[beq_eq_false_iff_ne,ne_eq];omega
  rw[this,CS,CO h hl,jq (by omega),cO,an (show l.length-1<l.length by omega)];exact⟨_,rfl,rfl⟩
theorem Ok(c:om)(x:Int)(h:GV maxLen c): ∃n,GD c x=some (n,())/\MB c x=some (n,())/\(n=0\/n=1\/n=2\/n=3):=by unfold GD MB;obtain⟨b,v1,v2⟩:=IJ c h;simp only[v1,v2,ak,(FP c.replicas x h.1).1,(FP c.replicas x h.1).2,(FP c.witnesses x h.2).1,(FP c.witnesses x h.2).2];cases b<;>cases (x==c.primary)<;>cases decide (x∈c.replicas)<;>cases decide (x∈c.witnesses)<;>exact⟨_,rfl,rfl,by decide⟩
end
section
theorem Fz{c:om}(h:GV 1048576 c):GV maxLen c:=⟨Fw h.1,Fw h.2⟩
theorem IW{m:kB}(h:Mw 1048576 m):Mw maxLen m:=⟨Fw h.1,λc hc=>Fz (h.2 c hc)⟩
theorem OA(c:om)(h:GV maxLen c):Ip c=some (decide (c=⟨0,0,[],[]⟩),()):=by unfold Ip;rw[(Hj c _ h).1];rfl
theorem Om(s:qQ)(id:Int)(h:F3 1048576 s):Eh (Fp s id) (Hc s id):=by
 have hc:=Fz h.1;unfold Fp Hc;simp only[F2,Jr,ak,Ff];cases G9 s.version 1 2 with
 |false=>exact⟨_,rfl,rfl⟩
 |true=>
 cases G9 s.epoch 0 20 with
 |false=>exact⟨_,rfl,rfl⟩
 |true=>
 rcases isLog s.log (Fw h.2.1) with ⟨a1,a2,a3⟩| ⟨a1,a2⟩
 case inr=>simp only[a1,a2,ak,DG,CS];exact⟨_,rfl,rfl⟩
 rcases isLog s.learned (Fw h.2.2) with ⟨b1,b2,b3⟩| ⟨b1,b2⟩
 case inr=>simp only[a1,a2,b1,b2,ak,DG,CS];exact⟨_,rfl,rfl⟩
 simp only[a1,a2,b1,b2,ak,DG];cases hw:G9 s.first 0 16 with
 |false=>exact⟨_,rfl,rfl⟩
 |true=>
 have hf:=Fl.1 hw;rw[of (n:=s.first+(s.log.length:Int)) (by omega) (by omega)];by_cases h16:s.first+(s.log.length:Int)<=16
 case neg=>
  have e1:G9 (s.first+(s.log.length:Int)) 0 16=false:=by unfold G9;simp;omega
  simp only[e1,DG,CS,j6,if_pos (show s.first+(s.log.length:Int)>16 by omega)];exact⟨_,rfl,rfl⟩
 have e1:G9 (s.first+(s.log.length:Int)) 0 16=true:=Fl.2 ⟨by omega,h16⟩;simp only[e1,DG,j6,if_neg (show ¬s.first+(s.log.length:Int)>16 by omega),OA s.config hc,(Hj s.config ⟨0,0,[],[]⟩ hc).2,ak];cases G9 s.commit 0 (s.first+(s.log.length:Int)) with
 |false=>exact⟨_,rfl,rfl⟩
 |true=>
 simp only[DG];by_cases hz:s.config=⟨0,0,[],[]⟩
 ·simp only[if_pos hz];cases (s.first==0)<;>cases (s.commit==0)<;>cases ((s.log.length:Int)==0)<;>exact⟨_,rfl,rfl⟩
 ·simp only[if_neg hz];cases s.intact with
  |false=>exact⟨_,rfl,rfl⟩
  |true=>
  simp only[DG];by_cases he:s.epoch<s.config.epoch
  ·simp only[if_pos he];exact⟨_,rfl,rfl⟩
  ·simp only[if_neg he];obtain⟨n,n1,n2⟩:=MV s.log (Fw h.2.1);simp only[n1,n2,ak];by_cases hn:n>s.config.epoch
   ·simp only[if_pos hn];exact⟨_,rfl,rfl⟩
   ·simp only[if_neg hn];obtain⟨r,r1,r2,r3⟩:=Ok s.config id hc;simp only[r1,r2,ak];rcases r3 with rfl|rfl|rfl|rfl
    ·exact⟨_,rfl,rfl⟩
    ·exact⟨_,rfl,rfl⟩
    ·exact⟨_,rfl,rfl⟩
    ·have ht:NL s.first s.log=some (decide ((s.log.length:Int)<=3)&&((s.first==0)||((s.log.length:Int)==3)),()):=by
      unfold NL;simp only[a2,Jr,ak,DG,j6];rw[of (by omega) (by omega),show G9 s.first 0 (16-(s.log.length:Int))=true from Fl.2 ⟨by omega,by omega⟩];by_cases h3: (s.log.length:Int)<=3
      ·rw[if_pos h3,decide_eq_true h3];cases (s.first==0)<;>cases ((s.log.length:Int)==3)<;>rfl
      ·rw[if_neg h3,decide_eq_false h3];rfl
     rw[ht];by_cases h3: (s.log.length:Int)<=3
     ·rw[if_pos h3,decide_eq_true h3];cases (s.first==0)<;>cases ((s.log.length:Int)==3)<;>exact⟨_,rfl,rfl⟩
     ·rw[if_neg h3,decide_eq_false h3];exact⟨_,rfl,rfl⟩
theorem Q9(m:kB)(e:Int)(h:Mw 1048576 m): ∃c b,G4 m e=some (c,b,())/\Jo m e=some (c,b,())/\GV maxLen c:=by
 obtain⟨b,m1,m2⟩:=masterLog m (IW h);have zero:GV maxLen ⟨0,0,[],[]⟩:=⟨bH _,bH _⟩
 have hl:=h.1;unfold G4 Jo;simp only[m1,m2,F2,Jr,ak,Ff];cases b with
 |false=>exact⟨_,_,rfl,rfl,zero⟩
 |true=>
  cases hw:G9 e 1 (m.configs.length:Int) with
  |false=>exact⟨_,_,rfl,rfl,zero⟩
  |true=>
   have hw:=Fl.1 hw;simp only[DG];rw[of (n:=e-1) (by omega) (by omega)];have hlt: (e-1).toNat<m.configs.length:=by omega
   have hk:=h.2 _ (dq hlt)
   have copy: ∀c:om,GV 1048576 c->HQ c=some (c,())/\Gl c=some (c,()):=by intro c hc;unfold HQ Gl;simp only[bK];rw[jq (IZ hc.1),jq (IZ hc.2)];exact⟨rfl,rfl⟩
   rw[jq (by omega),jq (by omega),an hlt];simp only[ak,(copy _ hk).1,(copy _ hk).2];exact⟨_,_,rfl,rfl,Fz hk⟩
theorem GQ(x:qN)(h:F9 1048576 x):Eh (Fg x) (HK x):=by
 obtain⟨⟨hs1,hs2⟩,hsd,hml,hpl⟩:=h;have hm:=Fw hs1
 have fm:=DL (B1:=Ft) (B2:=Gy) x.servers.length (λk=>(((),(k:Int),()),((x.now,x.servers,x.sides,x.master.configs,x.master.activated,x.masterUp,x.lease.epoch,x.lease.holder,x.lease.ends,x.places,()),()),())) (λk=>(((),x.servers,(x.servers.length:Int),(k:Int),()),((x.now,x.servers,x.sides,x.master.configs,x.master.activated,x.masterUp,x.lease.epoch,x.lease.holder,x.lease.ends,x.places,()),()),())) (.inr (((),()),(),())) (.inr (((),()),(),())) (λ_=> .inl ((false,()),(),())) (λ_=> .inl ((false,()),(),()))
  (λ_=>True) (λ_=>True)
  (by simp only[Ft];rw[j6,if_neg (by omega)])
  (by simp only[Gy];rw[j6,if_neg (by omega)])
  (λk hk=>by
    have c1: (k:Int)< (x.servers.length:Int):=by omega
    have c2: (0:Int)<=(k:Int):=by omega
    have hsk:=hs2 _ (dq hk);obtain⟨b,v1,v2⟩:=Om x.servers[k] (k:Int) hsk;obtain⟨n,n1,n2⟩:=MV x.servers[k].learned (Fw hsk.2.2);obtain⟨c,d,d1,d2,d3⟩:=Q9 x.master x.servers[k].config.epoch hml;have hcfg:=Fz hsk.1
    simp only[Ft,Gy,j6,C7,if_pos c1,if_pos c2,cO,an hk,ak,v1,v2,n1,n2,kT hm hk,Ff,
     show (⟨x.master.configs,x.master.activated⟩:kB)=x.master from rfl,d1,d2,OA _ hcfg,(Hj _ (⟨0,0,[],[]⟩:om) hcfg).2,(Hj c x.servers[k].config d3).1,(Hj c x.servers[k].config d3).2]
    cases b with
    |false=>exact .inr ⟨rfl,rfl,trivial⟩
    |true=>
     simp only[DG];by_cases h1:x.servers[k].epoch>(x.master.configs.length:Int)
     ·simp only[if_pos h1];exact .inr ⟨trivial,trivial,trivial⟩
     ·simp only[if_neg h1];by_cases h2:n>x.master.activated
      ·simp only[if_pos h2];exact .inr ⟨trivial,trivial,trivial⟩
      ·simp only[if_neg h2];by_cases h3:x.servers[k].config=⟨0,0,[],[]⟩
       ·simp only[if_pos h3];exact .inl ⟨trivial,trivial,trivial⟩
       ·simp only[if_neg h3];cases d with
        |false=>exact .inr ⟨rfl,rfl,trivial⟩
        |true=>
         simp only[DG];by_cases h4:c=x.servers[k].config
         ·simp only[if_pos h4];by_cases h5:x.servers[k].config.epoch>x.master.activated
          ·simp only[if_pos h5];exact .inr ⟨trivial,trivial,trivial⟩
          ·simp only[if_neg h5];exact .inl ⟨trivial,trivial,trivial⟩
         ·simp only[if_neg h4];exact .inr ⟨trivial,trivial,trivial⟩)
 unfold Fg HK;obtain⟨b1,a1,a2⟩:=Pp x.sides (Fw hsd);obtain⟨b2,m1,m2⟩:=masterLog x.master (IW hml);obtain⟨b3,l1,l2⟩:=Nl x.lease;obtain⟨b4,p1,p2⟩:=My x.places (Fw hpl);simp only[F2,Jr,a1,a2,m1,m2,l1,l2,p1,p2,ak,Ff,j6];cases G9 x.now 0 999 with
 |false=>exact⟨_,rfl,rfl⟩
 |true=>
 cases ((x.servers.length:Int)==5) with
 |false=>exact⟨_,rfl,rfl⟩
 |true=>
 cases b1 with
 |false=>exact⟨_,rfl,rfl⟩
 |true=>
 cases b2 with
 |false=>exact⟨_,rfl,rfl⟩
 |true=>
 cases G9 x.masterUp 0 3 with
 |false=>cases b3<;>cases b4<;>exact⟨_,rfl,rfl⟩
 |true=>
 cases b3 with
 |false=>exact⟨_,rfl,rfl⟩
 |true=>
 cases b4 with
 |false=>exact⟨_,rfl,rfl⟩
 |true=>
 simp only[DG];by_cases h1:x.lease.epoch>x.master.activated
 ·simp only[if_pos h1];exact⟨_,rfl,rfl⟩
 ·simp only[if_neg h1];rcases fm with ⟨k1,k2,_⟩| ⟨k,_,k1,k2,_⟩
  ·rw[show H1 (((),0,()),((x.now,x.servers,x.sides,x.master.configs,x.master.activated,x.masterUp,x.lease.epoch,x.lease.holder,x.lease.ends,x.places,()),()),())=_ from k1,show Js (((),x.servers,(x.servers.length:Int),0,()),((x.now,x.servers,x.sides,x.master.configs,x.master.activated,x.masterUp,x.lease.epoch,x.lease.holder,x.lease.ends,x.places,()),()),())=_ from k2];exact⟨_,rfl,rfl⟩
  ·rw[show H1 (((),0,()),((x.now,x.servers,x.sides,x.master.configs,x.master.activated,x.masterUp,x.lease.epoch,x.lease.holder,x.lease.ends,x.places,()),()),())=_ from k1,show Js (((),x.servers,(x.servers.length:Int),0,()),((x.now,x.servers,x.sides,x.master.configs,x.master.activated,x.masterUp,x.lease.epoch,x.lease.holder,x.lease.ends,x.places,()),()),())=_ from k2];exact⟨_,rfl,rfl⟩
end
section
theorem NK{c:om}(h:GV maxLen c)(hv:Fm c=some (true,())):Mb c.replicas/\Mb c.witnesses/\c.primary∈c.replicas/\1<=c.epoch/\c.epoch<=20/\ ∀x∈c.replicas,x∉c.witnesses:=by
 unfold Fm at hv;simp only[F2,ak] at hv;cases hw:G9 c.epoch 1 20 with
 |false=>rw[hw] at hv;cases hv
 |true=>
  rw[hw] at hv;rcases Nc c.replicas h.1 with ⟨a1,a2,a3⟩| ⟨a1,a2⟩
  ·rcases Nc c.witnesses h.2 with ⟨b1,b2,b3⟩| ⟨b1,b2⟩
   ·simp only[a1,b1,ak,DG,(FP c.replicas c.primary h.1).1,PY _ _ a3 h.2,j6] at hv;by_cases hp:c.primary∈c.replicas
    ·rw[if_pos hp] at hv;refine⟨a3,b3,hp,(Fl.1 hw).1,(Fl.1 hw).2,λx hx hxw=> ?_⟩
     have hz: ((((c.replicas.filter λx=>decide (x∈c.witnesses)).length:Nat):Int)==0)=true:=by simpa using hv
     have hz: (c.replicas.filter λx=>decide (x∈c.witnesses)).length=0:=by simp only[beq_iff_eq] at hz;omega
     have:=bh hz;have hm:x∈c.replicas.filter λx=>decide (x∈c.witnesses):=by simp[EX,hx,hxw]
     rw[this] at hm;cases hm
    ·rw[if_neg hp] at hv;cases hv
   ·simp only[a1,b1,ak,DG,CS] at hv;cases hv
  ·simp only[a1,ak,DG,CS] at hv;cases hv
theorem TO{m:kB}(h:Mw maxLen m)(hv:FL m=some (true,())): (∀k (hk:k<m.configs.length),Fm m.configs[k] =some (true,())/\m.configs[k].epoch=(k:Int)+1)/\0<=m.activated/\m.activated<=(m.configs.length:Int):=by
 obtain⟨hl,hc⟩:=h
 have fm:=DL (B1:=FJ) (B2:=FJ) m.configs.length (λk=>(((),(k:Int),()),((m.configs,m.activated,()),()),())) (λk=>(((),(k:Int),()),((m.configs,m.activated,()),()),())) (.inr (((),(),()),((m.configs,m.activated,()),()),())) (.inr (((),(),()),((m.configs,m.activated,()),()),())) (λ_=> .inl (((),false,()),((m.configs,m.activated,()),()),())) (λ_=> .inl (((),false,()),((m.configs,m.activated,()),()),()))
  (λk=> ∀hk:k<m.configs.length,Fm m.configs[k] =some (true,())/\m.configs[k].epoch=(k:Int)+1) (λ_=>True)
  (by simp only[FJ];rw[j6,if_neg (by omega)])
  (by simp only[FJ];rw[j6,if_neg (by omega)])
  (λk hk=>by
    have c1: (k:Int)< (m.configs.length:Int):=by omega
    have c2: (0:Int)<=(k:Int):=by omega
    obtain⟨b,v1,v2⟩:=IJ m.configs[k] (hc _ (dq hk))
    have step:FJ (((),(k:Int),()),((m.configs,m.activated,()),()),())=br b (br (m.configs[k].epoch==((k+1:Nat):Int)) (some (.inl (((),((k+1:Nat):Int),()),((m.configs,m.activated,()),()),()))) (some (.inr (.inl (((),false,()),((m.configs,m.activated,()),()),()))))) (some (.inr (.inl (((),false,()),((m.configs,m.activated,()),()),())))):=by simp only[FJ,j6,C7,if_pos c1,if_pos c2,cO,an hk,ak,v1,kT hl hk,Ff]
    rw[step];cases b with
    |false=>exact .inr ⟨rfl,rfl,trivial⟩
    |true=>
     rw[DG,Kg];by_cases he:m.configs[k].epoch=((k+1:Nat):Int)
     ·rw[if_pos he];exact .inl ⟨rfl,rfl,λ_=>⟨v1,by omega⟩⟩
     ·rw[if_neg he];exact .inr ⟨rfl,rfl,trivial⟩)
 unfold FL at hv;rcases fm with ⟨k1,_,k3⟩| ⟨k,_,k1,_,_⟩
 ·rw[show Ic (((),0,()),((m.configs,m.activated,()),()),())=_ from k1] at hv;simp only[ak,ET,F2,af,au,and_true] at hv;exact⟨λk hk=>k3 k hk hk,(Fl.1 hv).1,(Fl.1 hv).2⟩
 ·rw[show Ic (((),0,()),((m.configs,m.activated,()),()),())=_ from k1] at hv;cases hv
theorem PZ{s:qQ}{id:Int}(h:F3 1048576 s)(hv:Fp s id=some (true,())):0<=s.first/\s.first<=16/\s.log.length<=16/\0<=s.commit/\s.commit<=s.first+(s.log.length:Int)/\FZ s.log=some (true,())/\FZ s.learned=some (true,())/\0<=s.epoch/\s.epoch<=20:=by
 unfold Fp at hv;simp only[F2,ak,Ff] at hv;cases h1:G9 s.version 1 2 with
 |false=>rw[h1] at hv;cases hv
 |true=>
 cases h2:G9 s.epoch 0 20 with
 |false=>rw[h1,h2] at hv;cases hv
 |true=>
 rw[h1,h2] at hv;rcases isLog s.log (Fw h.2.1) with ⟨a1,a2,a3⟩| ⟨a1,a2⟩
 case inr=>simp only[a1,ak,DG,CS] at hv;cases hv
 rcases isLog s.learned (Fw h.2.2) with ⟨b1,b2,b3⟩| ⟨b1,b2⟩
 case inr=>simp only[a1,b1,ak,DG,CS] at hv;cases hv
 simp only[a1,b1,ak,DG] at hv;cases hw:G9 s.first 0 16 with
 |false=>rw[hw] at hv;cases hv
 |true=>
 have hf:=Fl.1 hw;rw[hw,of (n:=s.first+(s.log.length:Int)) (by omega) (by omega)] at hv;simp only[DG] at hv;cases h3:G9 (s.first+(s.log.length:Int)) 0 16 with
 |false=>rw[h3] at hv;cases hv
 |true=>
 cases h4:G9 s.commit 0 (s.first+(s.log.length:Int)) with
 |false=>rw[h3,h4] at hv;cases hv
 |true=>
 exact⟨hf.1,hf.2,a3,(Fl.1 h4).1,(Fl.1 h4).2,a1,b1,(Fl.1 h2).1,(Fl.1 h2).2⟩
structure VC (x:qN):Prop where
 len:x.servers.length=5
 ml:FL x.master=some (true,())
 sides:G3 x.sides=some (true,())
 places:FI x.places=some (true,())
 lease:GH x.lease=some (true,())
 now:0<=x.now/\x.now<=999
 up:0<=x.masterUp/\x.masterUp<=3
 srv: ∀k (hk:k<x.servers.length),Fp x.servers[k] (k:Int)=some (true,())
theorem GK{x:qN}(h:F9 1048576 x)(hv:Fg x=some (true,())):VC x:=by
 obtain⟨⟨hs1,hs2⟩,hsd,hml,hpl⟩:=h;have hm:=Fw hs1
 have fm:=DL (B1:=Ft) (B2:=Ft) x.servers.length (λk=>(((),(k:Int),()),((x.now,x.servers,x.sides,x.master.configs,x.master.activated,x.masterUp,x.lease.epoch,x.lease.holder,x.lease.ends,x.places,()),()),())) (λk=>(((),(k:Int),()),((x.now,x.servers,x.sides,x.master.configs,x.master.activated,x.masterUp,x.lease.epoch,x.lease.holder,x.lease.ends,x.places,()),()),())) (.inr (((),()),(),())) (.inr (((),()),(),())) (λ_=> .inl ((false,()),(),())) (λ_=> .inl ((false,()),(),()))
  (λk=> ∀hk:k<x.servers.length,Fp x.servers[k] (k:Int)=some (true,())) (λ_=>True)
  (by simp only[Ft];rw[j6,if_neg (by omega)])
  (by simp only[Ft];rw[j6,if_neg (by omega)])
  (λk hk=>by
    have c1: (k:Int)< (x.servers.length:Int):=by omega
    have c2: (0:Int)<=(k:Int):=by omega
    have hsk:=hs2 _ (dq hk);obtain⟨b,v1,v2⟩:=Om x.servers[k] (k:Int) hsk;obtain⟨n,n1,n2⟩:=MV x.servers[k].learned (Fw hsk.2.2);obtain⟨c,d,d1,d2,d3⟩:=Q9 x.master x.servers[k].config.epoch hml;have hcfg:=Fz hsk.1
    have step:Ft (((),(k:Int),()),((x.now,x.servers,x.sides,x.master.configs,x.master.activated,x.masterUp,x.lease.epoch,x.lease.holder,x.lease.ends,x.places,()),()),())=some (.inr (.inl ((false,()),(),())))\/(b=true/\Ft (((),(k:Int),()),((x.now,x.servers,x.sides,x.master.configs,x.master.activated,x.masterUp,x.lease.epoch,x.lease.holder,x.lease.ends,x.places,()),()),())=some (.inl (((),((k+1:Nat):Int),()),((x.now,x.servers,x.sides,x.master.configs,x.master.activated,x.masterUp,x.lease.epoch,x.lease.holder,x.lease.ends,x.places,()),()),()))):=by
     simp only[Ft,j6,C7,if_pos c1,if_pos c2,cO,an hk,ak,v1,n1,kT hm hk,Ff,
      show (⟨x.master.configs,x.master.activated⟩:kB)=x.master from rfl,d1,OA _ hcfg,(Hj c x.servers[k].config d3).1]
     cases b with
     |false=>exact .inl rfl
     |true=>
      simp only[DG]
      repeat' split
      all_goals first |exact .inl trivial|exact .inr ⟨trivial,trivial⟩| (cases d<;>first |exact .inl rfl| (simp only[DG];repeat' split)<;>first |exact .inl trivial|exact .inr ⟨trivial,trivial⟩)
    rcases step with h1| ⟨rfl,h1⟩
    ·rw[h1];exact .inr ⟨rfl,rfl,trivial⟩
    ·rw[h1];exact .inl ⟨rfl,rfl,λ_=>v1⟩)
 unfold Fg at hv;obtain⟨b1,a1,a2⟩:=Pp x.sides (Fw hsd);obtain⟨b2,m1,m2⟩:=masterLog x.master (IW hml);obtain⟨b3,l1,l2⟩:=Nl x.lease;obtain⟨b4,p1,p2⟩:=My x.places (Fw hpl);simp only[F2,a1,m1,l1,p1,ak,Ff,j6] at hv;cases h1:G9 x.now 0 999 with
 |false=>rw[h1] at hv;cases hv
 |true=>
 cases h2: ((x.servers.length:Int)==5) with
 |false=>rw[h1,h2] at hv;cases hv
 |true=>
 cases b1 with
 |false=>rw[h1,h2] at hv;cases hv
 |true=>
 cases b2 with
 |false=>rw[h1,h2] at hv;cases hv
 |true=>
 cases h3:G9 x.masterUp 0 3 with
 |false=>rw[h1,h2,h3] at hv;cases hv
 |true=>
 cases b3 with
 |false=>rw[h1,h2,h3] at hv;cases hv
 |true=>
 cases b4 with
 |false=>rw[h1,h2,h3] at hv;cases hv
 |true=>
 rw[h1,h2,h3] at hv;simp only[DG] at hv;by_cases h4:x.lease.epoch>x.master.activated
 ·rw[if_pos h4] at hv;cases hv
 ·rw[if_neg h4] at hv;rcases fm with ⟨k1,_,k3⟩| ⟨k,_,k1,_,_⟩
  ·refine⟨?_,m1,a1,p1,l1,Fl.1 h1,Fl.1 h3,λk hk=>k3 k hk hk⟩;simp only[beq_iff_eq] at h2;omega
  ·rw[show H1 (((),0,()),((x.now,x.servers,x.sides,x.master.configs,x.master.activated,x.masterUp,x.lease.epoch,x.lease.holder,x.lease.ends,x.places,()),()),())=_ from k1] at hv;cases hv
end
section

end
section
section
variable {α:Type}
end
end
section

end
section
theorem R7{n c:Nat}(h:n<=1048577)(hc:c<=1000):n*c<=2 ^ 40:=by
 have h1:n*c<=1048577*1000:=Nat.mul_le_mul h hc;have h2: (2:Nat) ^ 40=1099511627776:=by decide
 omega
theorem Oq(c:om)(h:GV 1048576 c):HQ c=some (c,())/\Gl c=some (c,()):=by have a:=h.1;have b:=h.2;unfold HQ Gl;simp only[bK,C7,if_pos (R7 (ES a) (show 8<=1000 by decide)),if_pos (R7 (ES b) (show 8<=1000 by decide))];exact⟨trivial,trivial⟩
theorem Ot(l:List sf)(h:l.length<=1048576):Gx l=some (l,())/\G6 l=some (l,()):=by unfold Gx G6;simp only[bK,C7,if_pos (R7 (ES h) (show 56<=1000 by decide))];exact⟨trivial,trivial⟩
theorem Ym(l:List Int)(h:l.length<=1048576):Hp l=some (l,()):=by unfold Hp;simp only[C7,if_pos (R7 (ES h) (show 8<=1000 by decide))]
theorem U8(l:List vB)(h:l.length<=1048576):LM l=some (l,()):=by unfold LM;simp only[C7,if_pos (R7 (ES h) (show 24<=1000 by decide))]
theorem Q4(s:qQ)(h:F3 1048576 s):Hh s=some (s,())/\Nk s=some (s,()):=by unfold Hh Nk;simp only[(Oq _ h.1).1,(Oq _ h.1).2,(Ot _ h.2.1).1,(Ot _ h.2.1).2,(Ot _ h.2.2).1,(Ot _ h.2.2).2,ak];exact⟨trivial,trivial⟩
theorem KN{α:Type}{l:List α}{k:Nat}{x:α}(h:l[k]? =some x):l.take (k+1)=l.take k++ [x] :=by rw[EN,h];rfl
theorem Lu{α:Type}(l:List α)(k:Nat)(x:α)(h:l.length<=1048576): (l.take k++ [x]).length<=1048577:=by rw[be,ci,cn];omega
theorem S6(m:kB)(h:Mw 1048576 m):Ko m=some (m,())/\Nj m=some (m,()):=by
 obtain⟨hl,hc⟩:=h
 have k1:=tC (B:=Jw) m.configs (λk (b:List om)=>(((),(),(),(k:Int),()),((m.configs,m.activated,()),((),0,()),((),m.activated,()),()),(b,()))) (λk b=>b=m.configs.take k) (λ_ _ _=>(((),(),()),(((),0,()),((),m.activated,()),()),(m.configs,())))
  (λb hb=>by simp only[Jw];rw[j6,if_neg (by omega),hb,EM])
  (λk b c hx hb=>by
    have hk:=yw hx;have c1: (k:Int)< (m.configs.length:Int):=by omega
    have c2: (0:Int)<=(k:Int):=by omega
    subst hb;refine .inl ⟨m.configs.take (k+1),?_,rfl,rfl⟩;simp only[Jw,j6,C7,if_pos c1,if_pos c2,cO,hx,ak,(Oq c (hc c (ay hx))).1,kT (Fw hl) hk,if_pos (R7 (Lu m.configs k c hl) (show 64<=1000 by decide)),KN hx])
  0 [] (bH _) rfl
 have k2:=tC (B:=JE) m.configs (λk (b:List om)=>(((),(),m.configs,(m.configs.length:Int),(k:Int),()),(((),0,()),((),m.activated,()),()),(b,()))) (λk b=>b=m.configs.take k) (λ_ _ _=>(((),(),()),(((),0,()),((),m.activated,()),()),(m.configs,())))
  (λb hb=>by simp only[JE];rw[j6,if_neg (by omega),hb,EM])
  (λk b c hx hb=>by
    have hk:=yw hx;have c1: (k:Int)< (m.configs.length:Int):=by omega
    have c2: (0:Int)<=(k:Int):=by omega
    subst hb;refine .inl ⟨m.configs.take (k+1),?_,rfl,rfl⟩;simp only[JE,j6,C7,if_pos c1,if_pos c2,cO,hx,ak,(Oq c (hc c (ay hx))).2,kT (Fw hl) hk,if_pos (R7 (Lu m.configs k c hl) (show 64<=1000 by decide)),KN hx])
  0 [] (bH _) rfl
 unfold Ko Nj;rw[show Qx (((),(),(),0,()),((m.configs,m.activated,()),((),0,()),((),m.activated,()),()),(([]:List om),()))=_ from k1,show N1 (((),(),m.configs,(m.configs.length:Int),0,()),(((),0,()),((),m.activated,()),()),(([]:List om),()))=_ from k2];exact⟨rfl,rfl⟩
theorem Hz(x:qN)(ok:F9 1048576 x):FA x=some (x,())/\OG x=some (x,()):=by
 obtain⟨⟨hl,hs⟩,hsd,hml,hpl⟩:=ok
 have k1:=tC (B:=Jx) x.servers (λk (b:List qQ)=>(((),(),(),(k:Int),()),((x.now,x.servers,x.sides,x.master.configs,x.master.activated,x.masterUp,x.lease.epoch,x.lease.holder,x.lease.ends,x.places,()),(0,(),(),(),0,0,0,0,0,(),()),(x.now,(),x.sides,x.master.configs,x.master.activated,x.masterUp,x.lease.epoch,x.lease.holder,x.lease.ends,x.places,()),()),(b,()))) (λk b=>b=x.servers.take k) (λ_ _ _=>(((),(),(),()),((x.now,x.servers,x.sides,x.master.configs,x.master.activated,x.masterUp,x.lease.epoch,x.lease.holder,x.lease.ends,x.places,()),(0,(),(),(),0,0,0,0,0,(),()),(x.now,(),x.sides,x.master.configs,x.master.activated,x.masterUp,x.lease.epoch,x.lease.holder,x.lease.ends,x.places,()),()),(x.servers,())))
  (λb hb=>by simp only[Jx];rw[j6,if_neg (by omega),hb,EM])
  (λk b c hx hb=>by
    have hk:=yw hx;have c1: (k:Int)< (x.servers.length:Int):=by omega
    have c2: (0:Int)<=(k:Int):=by omega
    subst hb;refine .inl ⟨x.servers.take (k+1),?_,rfl,rfl⟩;simp only[Jx,j6,C7,if_pos c1,if_pos c2,cO,hx,ak,(Q4 c (hs c (ay hx))).1,kT (Fw hl) hk,if_pos (R7 (Lu x.servers k c hl) (show 152<=1000 by decide)),KN hx])
  0 [] (bH _) rfl
 have k2:=tC (B:=Jg) x.servers (λk (b:List qQ)=>(((),(),(),x.servers,(x.servers.length:Int),(k:Int),()),((x.now,x.servers,x.sides,x.master.configs,x.master.activated,x.masterUp,x.lease.epoch,x.lease.holder,x.lease.ends,x.places,()),(0,(),(),(),0,0,0,0,0,(),()),(x.now,(),x.sides,x.master.configs,x.master.activated,x.masterUp,x.lease.epoch,x.lease.holder,x.lease.ends,x.places,()),()),(b,()))) (λk b=>b=x.servers.take k) (λ_ _ _=>(((),(),(),()),((x.now,x.servers,x.sides,x.master.configs,x.master.activated,x.masterUp,x.lease.epoch,x.lease.holder,x.lease.ends,x.places,()),(0,(),(),(),0,0,0,0,0,(),()),(x.now,(),x.sides,x.master.configs,x.master.activated,x.masterUp,x.lease.epoch,x.lease.holder,x.lease.ends,x.places,()),()),(x.servers,())))
  (λb hb=>by simp only[Jg];rw[j6,if_neg (by omega),hb,EM])
  (λk b c hx hb=>by
    have hk:=yw hx;have c1: (k:Int)< (x.servers.length:Int):=by omega
    have c2: (0:Int)<=(k:Int):=by omega
    subst hb;refine .inl ⟨x.servers.take (k+1),?_,rfl,rfl⟩;simp only[Jg,j6,C7,if_pos c1,if_pos c2,cO,hx,ak,(Q4 c (hs c (ay hx))).2,kT (Fw hl) hk,if_pos (R7 (Lu x.servers k c hl) (show 152<=1000 by decide)),KN hx])
  0 [] (bH _) rfl
 unfold FA OG
 rw[show Qy (((),(),(),0,()),((x.now,x.servers,x.sides,x.master.configs,x.master.activated,x.masterUp,x.lease.epoch,x.lease.holder,x.lease.ends,x.places,()),(0,(),(),(),0,0,0,0,0,(),()),(x.now,(),x.sides,x.master.configs,x.master.activated,x.masterUp,x.lease.epoch,x.lease.holder,x.lease.ends,x.places,()),()),(([]:List qQ),()))=_ from k1,
  show NB (((),(),(),x.servers,(x.servers.length:Int),0,()),((x.now,x.servers,x.sides,x.master.configs,x.master.activated,x.masterUp,x.lease.epoch,x.lease.holder,x.lease.ends,x.places,()),(0,(),(),(),0,0,0,0,0,(),()),(x.now,(),x.sides,x.master.configs,x.master.activated,x.masterUp,x.lease.epoch,x.lease.holder,x.lease.ends,x.places,()),()),(([]:List qQ),()))=_ from k2]
 have em: (⟨x.master.configs,x.master.activated⟩:kB)=x.master:=rfl;simp only[ak,bK,em,(S6 _ hml).1,(S6 _ hml).2,Ym _ hsd,U8 _ hpl,C7,if_pos (R7 (ES hsd) (show 8<=1000 by decide)),if_pos (R7 (ES hpl) (show 24<=1000 by decide))];exact⟨trivial,trivial⟩
theorem S7(x:qN)(id:Int)(ok:F9 1048576 x): ∃b,Iq x id=some (b,())/\Gh x id=some (b,())/\(b=true->Fg x=some (true,())/\0<=id/\id<5):=by
 obtain⟨v,v1,v2⟩:=GQ x ok;unfold Iq Gh;simp only[v1,v2,ak,F2,Jr];cases v with
 |false=>exact⟨false,rfl,rfl,nofun⟩
 |true=>refine⟨G9 id 0 4,rfl,rfl,λh=>⟨rfl,?_⟩⟩;have:=Fl.1 h;omega
end
section

end
section
def SS(l:List Int):Prop:=l.Pairwise (· < ·)
theorem Yc{A B:List Int}{x:Int}(h:SS (A++B))(ha: ∀y∈A,y<x)(hb: ∀y∈B,x<y):SS (A++ [x] ++B):=by
 obtain⟨h1,h2,h3⟩:=Fb.1 h;refine Fb.2 ⟨Fb.2 ⟨h1,EZ _ _,λa h b hb'=> ?_⟩,h2,λa h b hb'=> ?_⟩
 ·rw[aJ.1 hb'];exact ha a h
 ·rcases bi.1 h with h|h
  ·exact h3 a h b hb'
  ·rw[aJ.1 h];exact hb b hb'
theorem YH(l:List Int)(x:Int)(hl:l.length<=1000)(hs:SS l): ∃r,HE l x=some (r,())/\SS r/\(∀y,y∈r↔y=x\/y∈l)/\r.length<=l.length+1/\(x∉l->r.length=l.length+1):=by
 have hm:l.length<=maxLen:=by unfold maxLen;omega
 rcases LP (B:=IR) l.length (λk=>((l,x,(k:Int),()),(),())) ((l,x,(l.length:Int),()),(),()) (λk=>((l,x,(k:Int),()),(),())) (λk=>match l[k]? with |some y=> !decide (y<x)|none=>false)
  (by simp only[IR];rw[j6,if_neg (by omega)])
  (λk hk=>by
    have c1: (k:Int)< (l.length:Int):=by omega
    have c2: (0:Int)<=(k:Int):=by omega
    simp only[IR,j6,C7,if_pos c1,if_pos c2,cO,an hk,ak,kT hm hk];by_cases h:l[k]<x<;>simp[h]) with ⟨k1,k2⟩| ⟨i,hi,k1,k2,k3⟩
 ·have all: ∀y∈l,y<x:=by
   intro y hy;obtain⟨k,hk,rfl⟩:=aQ hy;have:=k2 k hk;rw[an hk] at this;simpa using this
  refine⟨l++ [x],TQ l x hl all,?_,?_,?_,λ_=>by simp⟩
  ·have:=Yc (A:=l) (B:=[]) (x:=x) (by simpa using hs) all (by simp);simpa using this
  ·intro y;simp[or_comm]
  ·simp
 ·rw[an hi] at k2;simp only[bT,decide_eq_false_iff_not,Int.not_lt] at k2
  have lt: ∀y∈l.take i,y<x:=by
   intro y hy;obtain⟨j,hj,rfl⟩:=aQ hy;have hj':j<i:=by simp at hj;omega
   have:=k3 j hj';rw[an (by omega)] at this;rw[Fd];simpa using this
  have hd:l.drop i=l[i]::l.drop (i+1):=co hi;have hsp:l.take i++l.drop i=l:=dx i l
  have ge: ∀y∈l.drop i,l[i] <=y:=by
   intro y hy;rw[hd] at hy;rcases aX.1 hy with rfl|hy
   ·exact c9 _
   ·have h2:SS (l.drop i):=List.Pairwise.sublist (List.drop_sublist i l) hs;rw[hd] at h2;exact Int.le_of_lt ((EV.1 h2).1 y hy)
  unfold HE;rw[show Qe ((l,x,0,()),(),())=_ from k1];have c1: (i:Int)< (l.length:Int):=by omega
  have c2: (0:Int)<=(i:Int):=by omega
  simp only[ak,j6,Kg,C7,if_pos c1,if_pos c2,cO,an hi,bK];by_cases he:l[i] =x
  ·simp only[if_pos he,if_pos (IZ (show l.length<=1048576 by omega))];refine⟨l,rfl,hs,λy=>⟨.inr,?_⟩,by omega,λh=>absurd (by rw[<-he];exact dq hi) h⟩
   rintro (rfl|h)
   ·rw[<-he];exact dq hi
   ·exact h
  ·have d1: (0:Int)<=0/\(0:Int)<=(i:Int)/\(i:Int)<=(l.length:Int):=by omega
   have d2: (0:Int)<=(i:Int)/\(i:Int)<=(l.length:Int)/\(l.length:Int)<=(l.length:Int):=by omega
   have e1: (l.drop i).take (l.length-i)=l.drop i:=bS (by simp);simp only[if_neg he,if_pos d1,if_pos d2,Fc,cF,EW,e1];rw[if_pos (IZ (by simp;omega)),if_pos (IZ (by simp;omega)),if_pos (IZ (by simp;omega))];refine⟨_,rfl,Yc (by rw[hsp];exact hs) lt (λy hy=> ?_),λy=> ?_,by simp;omega,λ_=>by simp;omega⟩
   ·have:=ge y hy;omega
   ·conv=>rhs;rw[<-hsp]
    simp only[bi,aJ];constructor
    ·rintro ((h|h)|h)
     ·exact .inr (.inl h)
     ·exact .inl h
     ·exact .inr (.inr h)
    ·rintro (h|h|h)
     ·exact .inl (.inr h)
     ·exact .inl (.inl h)
     ·exact .inr h
theorem ZA{β:Type}(l:List Int)(hl:l.length<=500){mk:Nat->List Int->β}{ε:Type}{B:β->Option (β⊕ε)}{E:List Int->ε}
  (h0: ∀v,B (mk l.length v)=some (.inr (E v)))
  (h1: ∀k v x,l[k]? =some x->B (mk k v)=(HE v x).bind λy=>some (.inl (mk (k+1) y.1)))
  (v:List Int) (hv:SS v) (hvl:v.length<=500): ∃r,md B (mk 0 v)=some (E r)/\SS r/\(∀y,y∈r↔y∈v\/y∈l)/\r.length<=v.length+l.length:=by
 have go: ∀ (n k:Nat) (v:List Int),k+n=l.length->SS v->v.length+n<=1000-> ∃r,md B (mk k v)=some (E r)/\SS r/\(∀y,y∈r↔y∈v\/y∈l.drop k)/\r.length<=v.length+n:=by
  intro n
  induction n with
  |zero=>
   intro k v hk hv _;have :k=l.length:=by omega
   subst this;exact⟨v,me (h0 v),hv,by simp,by omega⟩
  |succ n ih=>
   intro k v hk hv hn;have hlt:k<l.length:=by omega
   obtain⟨r,r1,r2,r3,r4,_⟩:=YH v l[k] (by omega) hv;obtain⟨s,s1,s2,s3,s4⟩:=ih (k+1) r (by omega) r2 (by omega);refine⟨s,?_,s2,λy=> ?_,by omega⟩
   ·rw[tD (by rw[h1 k v _ (an hlt),r1];rfl)];exact s1
   ·rw[s3,r3,co hlt,aX];constructor
    ·rintro ((h|h)|h)
     ·exact .inr (.inl h)
     ·exact .inl h
     ·exact .inr (.inr h)
    ·rintro (h|h|h)
     ·exact .inl (.inr h)
     ·exact .inl (.inl h)
     ·exact .inr h
 obtain⟨r,h1,h2,h3,h4⟩:=go l.length 0 v (by omega) hv (by omega);rw[cF] at h3;exact⟨r,h1,h2,h3,h4⟩
theorem X3(a b:List Int)(ha:a.length<=100)(hb:b.length<=100): ∃r,IA a b=some (r,())/\SS r/\(∀y,y∈r↔y∈a\/y∈b)/\r.length<=a.length+b.length:=by
 have am:a.length<=maxLen:=by unfold maxLen;omega
 have bm:b.length<=maxLen:=by unfold maxLen;omega
 obtain⟨r,r1,r2,r3,r4⟩:=ZA (B:=GX) (mk:=λk v=>((a,b,(),(k:Int),()),(),(v,()))) (E:=λv=>((b,(),()),(),(v,()))) a (by omega)
  (λv=>by simp only[GX];rw[j6,if_neg (by omega)])
  (λk v x hx=>by
    have hk:=yw hx;have c1: (k:Int)< (a.length:Int):=by omega
    have c2: (0:Int)<=(k:Int):=by omega
    simp only[GX,j6,C7,if_pos c1,if_pos c2,cO,hx,ak,kT am hk])
  [] List.Pairwise.nil (bH _)
 obtain⟨s,s1,s2,s3,s4⟩:=ZA (B:=GY) (mk:=λk v=>((b,(),(k:Int),()),(),(v,()))) (E:=λv=>(((),()),(),(v,()))) b (by omega)
  (λv=>by simp only[GY];rw[j6,if_neg (by omega)])
  (λk v x hx=>by
    have hk:=yw hx;have c1: (k:Int)< (b.length:Int):=by omega
    have c2: (0:Int)<=(k:Int):=by omega
    simp only[GY,j6,C7,if_pos c1,if_pos c2,cO,hx,ak,kT bm hk])
  r r2 (by simp at r4;omega)
 unfold IA;rw[show MX ((a,b,(),0,()),(),([],()))=_ from r1];simp only[ak];rw[show MY ((b,(),0,()),(),(r,()))=_ from s1];refine⟨s,rfl,s2,λy=> ?_,by simp at r4;omega⟩;rw[s3,r3];simp
end
section
theorem Ra(m:kB)(e:Int)(h:Mw 1048576 m)(hv:FL m=some (true,())): ∃c b,G4 m e=some (c,b,())/\Jo m e=some (c,b,())/\GV maxLen c/\(b=G9 e 1 (m.configs.length:Int))/\(b=true->Fm c=some (true,())/\c.epoch=e)/\(b=false->c=⟨0,0,[],[]⟩):=by
 obtain⟨b,m1,m2⟩:=masterLog m (IW h);rw[hv] at m1;simp only[af,au,and_true] at m1;subst m1;obtain⟨f1,_,_⟩:=TO (IW h) hv;have zero:GV maxLen ⟨0,0,[],[]⟩:=⟨bH _,bH _⟩
 have hl:=h.1;unfold G4 Jo;simp only[hv,m2,F2,Jr,ak,Ff,DG];cases hw:G9 e 1 (m.configs.length:Int) with
 |false=>exact⟨_,_,rfl,rfl,zero,rfl,nofun,λ_=>rfl⟩
 |true=>
  have hw:=Fl.1 hw;simp only[DG];rw[of (n:=e-1) (by omega) (by omega)];have hlt: (e-1).toNat<m.configs.length:=by omega
  have hk:=h.2 _ (dq hlt)
  have copy: ∀c:om,GV 1048576 c->HQ c=some (c,())/\Gl c=some (c,()):=by intro c hc;unfold HQ Gl;simp only[bK];rw[jq (IZ hc.1),jq (IZ hc.2)];exact⟨rfl,rfl⟩
  rw[jq (by omega),jq (by omega),an hlt];simp only[ak,(copy _ hk).1,(copy _ hk).2];refine⟨_,_,rfl,rfl,Fz hk,rfl,λ_=>⟨(f1 _ hlt).1,?_⟩,nofun⟩;rw[(f1 _ hlt).2];omega
end
section
def Py(p:Nat->Bool)(n:Nat):List Int:=((List.range n).filter p).map λ(k:Nat)=>(k:Int)
theorem Ug(p:Nat->Bool)(n:Nat):Py p (n+1)=Py p n++if p n=true then [(n:Int)] else [] :=by
 unfold Py;rw[List.range_succ,EP,bO]
 congr 1
 cases h:p n<;>simp[h]
theorem S8(p:Nat->Bool)(n:Nat)(x:Int):x∈Py p n↔ ∃k:Nat,k<n/\p k=true/\x=(k:Int):=by
 unfold Py;simp only[aI,EX,bC];constructor
 ·rintro⟨k,⟨h1,h2⟩,rfl⟩;exact⟨k,h1,h2,rfl⟩
 ·rintro⟨k,h1,h2,rfl⟩;exact⟨k,⟨h1,h2⟩,rfl⟩
theorem VZ(p:Nat->Bool)(n:Nat): (Py p n).length<=n:=by unfold Py;rw[aE];exact ba (Fa _ _) (by simp)
theorem VY(p:Nat->Bool){n:Nat}(hn:n<=5):Mb (Py p n):=by
 have hp: (Py p n).Pairwise (· < ·):=by unfold Py;rw[List.pairwise_map];exact (List.Pairwise.filter _ List.pairwise_lt_range).imp λh=>by omega
 intro k hk;have hm: (Py p n)[k] ∈Py p n:=dq hk;obtain⟨j,h1,_,h2⟩:=(S8 p n _).1 hm;exact⟨⟨by omega,by omega⟩,λh0=>EO.1 hp (k-1) k (by omega) hk (by omega)⟩
theorem Yo(p q:Nat->Bool)(n:Nat): (Py p n).filter (λx=>decide (x∈Py q n))=Py (λk=>p k&&q k) n:=by
 unfold Py;rw[List.filter_map,List.filter_filter]
 congr 1
 apply List.filter_congr;intro k hk;have hk:=bC.1 hk
 have : (((λx=>decide (x∈Py q n))∘λ(k:Nat)=>(k:Int)) k)=q k:=by
  show decide ((k:Int)∈Py q n)=q k;cases hq:q k with
  |true=>exact decide_eq_true ((S8 q n _).2 ⟨k,hk,hq,rfl⟩)
  |false=>
   refine decide_eq_false λh=> ?_;obtain⟨j,_,h1,h2⟩:=(S8 q n _).1 h;have :j=k:=by omega
   subst this;rw[hq] at h1;cases h1
 have e:decide ((k:Int)∈List.map (λ(k:Nat)=>(k:Int)) (List.filter q (List.range n)))=q k:=this;simp only[Function.comp,e,Bool.and_comm]
def U4(x:qN)(k:Nat):Bool:=match x.servers[k]? with |some s=>s.up|none=>false
def Ol(l:List Int)(k:Nat):Bool:=match l[k]? with |some s=>s==0|none=>false
theorem YO{p:Nat->Bool}{k:Nat}(h:k<=1000)(y:Int): (Py p k++ [y]).length*8<=2 ^ 40:=by have:=VZ p k;refine IZ ?_;rw[be,cn];omega
theorem W3(x:qN)(hl:x.servers.length=5)(hv:Fg x=some (true,())):KX x=some (Py (U4 x) 5,()):=by
 have ex: (⟨x.now,x.servers,x.sides,⟨x.master.configs,x.master.activated⟩,x.masterUp,⟨x.lease.epoch,x.lease.holder,x.lease.ends⟩,x.places⟩:qN)=x:=rfl
 have fm:=tC (B:=Ik) x.servers (λk (b:List Int)=>(((),(),(k:Int),()),((x.now,x.servers,x.sides,x.master.configs,x.master.activated,x.masterUp,x.lease.epoch,x.lease.holder,x.lease.ends,x.places,()),()),(b,()))) (λk b=>b=Py (U4 x) k) (λ_ _ _=>(((),()),(),(Py (U4 x) 5,())))
  (λb hb=>by simp only[Ik];rw[j6,if_neg (by omega),hb,hl])
  (λk b s hs hb=>by
    have hk:=yw hs;have c1: (k:Int)< (x.servers.length:Int):=by omega
    have c2: (0:Int)<=(k:Int):=by omega
    have hup:U4 x k=s.up:=by unfold U4;rw[hs]
    subst hb;simp only[Ik,j6,C7,if_pos c1,if_pos c2,cO,hs,ak,ex,hv,DG,kT (n:=5) (by decide) (by omega:k<5),if_pos (YO (p:=U4 x) (k:=k) (by omega) (k:Int))];refine .inl ⟨Py (U4 x) (k+1),?_,rfl,trivial⟩;rw[Ug,hup];cases s.up
    ·simp;rfl
    ·rfl)
  0 [] (bH _) rfl
 unfold KX;rw[show OS (((),(),0,()),((x.now,x.servers,x.sides,x.master.configs,x.master.activated,x.masterUp,x.lease.epoch,x.lease.holder,x.lease.ends,x.places,()),()),([],()))=_ from fm];rfl
theorem L9{l:List Int}(hl:l.length<=maxLen)(hv:G3 l=some (true,())):l.length=5:=by
 obtain⟨b,h1,h2⟩:=Pp l hl;rw[hv] at h1;simp only[af,au,and_true] at h1;subst h1;unfold Ki at h2;cases h: ((l.length:Int)==5) with
 |false=>rw[h] at h2;cases h2
 |true=>simp only[beq_iff_eq] at h;omega
theorem VI(l:List Int)(hl:l.length=5)(hv:G3 l=some (true,())):JV l=some (Py (Ol l) 5,()):=by
 have fm:=tC (B:=HG) l (λk (b:List Int)=>((l,(),(k:Int),()),(),(b,()))) (λk b=>b=Py (Ol l) k) (λ_ _ _=>(((),()),(),(Py (Ol l) 5,())))
  (λb hb=>by simp only[HG];rw[j6,if_neg (by omega),hb,hl])
  (λk b s hs hb=>by
    have hk:=yw hs;have c1: (k:Int)< (l.length:Int):=by omega
    have c2: (0:Int)<=(k:Int):=by omega
    have hup:Ol l k=(s==0):=by unfold Ol;rw[hs]
    subst hb;simp only[HG,j6,C7,if_pos c1,if_pos c2,cO,hs,ak,hv,DG,kT (n:=5) (by decide) (by omega:k<5),if_pos (YO (p:=Ol l) (k:=k) (by omega) (k:Int))];refine .inl ⟨Py (Ol l) (k+1),?_,rfl,trivial⟩;rw[Ug,hup];cases (s==0)
    ·simp;rfl
    ·rfl)
  0 [] (bH _) rfl
 unfold JV;rw[show N3 ((l,(),0,()),(),([],()))=_ from fm];rfl
def SZ(x:qN)(k:Nat):Bool:=U4 x k&&Ol x.sides k
theorem ZX(x:qN)(ok:F9 1048576 x)(hv:Fg x=some (true,())):LI x=some (Py (SZ x) 5,()):=by have vc:=GK ok hv;have hsl:=L9 (Fw ok.2.1) vc.sides;unfold LI;rw[W3 x vc.len hv,VI x.sides hsl vc.sides];simp only[ak];rw[PY _ _ (VY _ (az 5)) (ba (VZ _ _) (by decide)),Yo];rfl
end
section
def VT(x:qN)(a:Int):Int:=(x.sides[a.toNat]?).getD 0
theorem O5{x:qN}(ok:F9 1048576 x)(vc:VC x){a:Int}(ha:0<=a/\a<5): ∃s,x.servers[a.toNat]? =some s/\F3 1048576 s/\Fp s a=some (true,()):=by
 have hlt:a.toNat<x.servers.length:=by rw[vc.len];omega
 refine⟨_,an hlt,ok.1.2 _ (dq hlt),?_⟩;have:=vc.srv _ hlt
 rwa [Int.toNat_of_nonneg ha.1] at this
theorem Ju(s:qQ)(id:Int)(h:F3 1048576 s): ∃b,FT s id=some (b,())/\Iv s id=some (b,()):=by obtain⟨v,v1,v2⟩:=Om s id h;obtain⟨n,n1,n2,_⟩:=Ok s.config id (Fz h.1);unfold FT Iv;simp only[v1,v2,n1,n2,ak];cases v<;>cases s.up<;>cases (n==1)<;>exact⟨_,rfl,rfl⟩
end
section
def Rb(s:qQ):List sf:=if G9 s.commit s.first (s.first+(s.log.length:Int))=true then s.log.take (s.commit-s.first).toNat else []
theorem Wt(s:qQ)(id:Int)(h:F3 1048576 s)(hv:Fp s id=some (true,())):Fs s=some (Rb s,())/\H3 s=some (Rb s,()):=by
 obtain⟨f1,f2,f3,f4,f5,_⟩:=PZ h hv;unfold Fs H3 Rb;rw[of (n:=s.first+(s.log.length:Int)) (by omega) (by omega)];simp only[F2,Jr,ak,Ff,j6,if_neg (show ¬s.first<0 by omega)];cases hw:G9 s.commit s.first (s.first+(s.log.length:Int)) with
 |false=>exact⟨rfl,rfl⟩
 |true=>
  have hw:=Fl.1 hw;have d1: (0:Int)<=0/\(0:Int)<=s.commit-s.first/\s.commit-s.first<=(s.log.length:Int):=by omega
  have hs: (s.log.take (s.commit-s.first).toNat).length*56<=2 ^ 40:=by
   have : (s.log.take (s.commit-s.first).toNat).length<=16:=by simp;omega
   have e: (2:Nat) ^ 40=1099511627776:=by decide
   omega
  simp only[DG,if_true];rw[of (n:=s.commit-s.first) (by omega) (by omega)];simp only[C7,if_pos d1,Gx,G6,Fc,cF,EW,bK,if_pos hs,ak];exact⟨trivial,trivial⟩
end
section
theorem ZT{s:qQ}{id:Int}(h:F3 1048576 s)(hv:Fp s id=some (true,())):s.config=⟨0,0,[],[]⟩\/Fm s.config=some (true,()):=by
 have hc:=Fz h.1;by_cases hz:s.config=⟨0,0,[],[]⟩
 ·exact .inl hz
 ·right;obtain⟨b,v1,_⟩:=IJ s.config hc;cases b with
  |true=>exact v1
  |false=>
   exfalso
   have hr:GD s.config id=some (0,()):=by unfold GD;rw[v1];rfl
   unfold Fp at hv;simp only[F2,ak,Ff,OA s.config hc,hr,j6,if_neg hz] at hv;cases h1:G9 s.version 1 2 with
   |false=>rw[h1] at hv;cases hv
   |true=>
   cases h2:G9 s.epoch 0 20 with
   |false=>rw[h1,h2] at hv;cases hv
   |true=>
   rcases isLog s.log (Fw h.2.1) with ⟨a1,a2,a3⟩| ⟨a1,a2⟩
   case inr=>simp only[h1,h2,a1,ak,DG,CS] at hv;cases hv
   rcases isLog s.learned (Fw h.2.2) with ⟨b1,b2,b3⟩| ⟨b1,b2⟩
   case inr=>simp only[h1,h2,a1,b1,ak,DG,CS] at hv;cases hv
   obtain⟨n,n1,n2⟩:=MV s.log (Fw h.2.1);simp only[h1,h2,a1,b1,n1,ak,DG] at hv;cases h3:G9 s.first 0 16<;>rw[h3] at hv
   ·cases hv
   ·cases h4:G9 (IntKind.wrap .i64 (s.first+(s.log.length:Int))) 0 16<;>rw[h4] at hv
    ·cases hv
    ·cases h5:G9 s.commit 0 (IntKind.wrap .i64 (s.first+(s.log.length:Int)))<;>rw[h5] at hv
     ·cases hv
     ·cases h6:s.intact<;>rw[h6] at hv
      ·cases hv
      ·simp only[DG] at hv
       repeat' split at hv
       all_goals cases hv
end
section
theorem Z2(x y:sf): ((x.epoch==y.epoch)&&((x.op.client==y.op.client)&&((x.op.seq==y.op.seq)&&((x.op.kind==y.op.kind)&&((x.op.object==y.op.object)&&((x.op.old==y.op.old)&&((x.op.value==y.op.value)&&true)))))))=decide (x=y):=by obtain⟨a,b,c,d,e,f,g⟩:=x;obtain⟨a',b',c',d',e',f',g'⟩:=y;rw[bU];simp[and_assoc]
theorem S4(a b:List sf)(ha:a.length<=maxLen): ∃n:Nat,HL a b=some ((n:Int),())/\n<=a.length/\n<=b.length/\a.take n=b.take n/\(n<a.length->n<b.length->a[n]? ≠b[n]?):=by
 rcases LP (B:=GA) a.length (λk=>((a,b,(k:Int),()),(),())) ((((a.length:Nat):Int),()),(),()) (λk=>(((k:Int),()),(),())) (λk=>decide (a[k]? ≠b[k]?))
  (by simp only[GA];rw[j6,if_neg (by omega)])
  (λk hk=>by
    have c1: (k:Int)< (a.length:Int):=by omega
    have c2: (0:Int)<=(k:Int):=by omega
    by_cases hk':k<b.length
    ·have c3: (k:Int)< (b.length:Int):=by omega
     simp only[GA,Z2,j6,C7,if_pos c1,if_pos c2,if_pos c3,cO,an hk,an hk',ak,kT ha hk];by_cases h:a[k] =b[k]<;>simp[h]
    ·have c3: ¬ (k:Int)< (b.length:Int):=by omega
     simp only[GA,j6,if_pos c1,if_neg c3,an hk,cz (show b.length<=k by omega)];simp) with ⟨k1,k2⟩| ⟨i,hi,k1,k2,k3⟩
 ·have eq: ∀k,k<a.length->a[k]? =b[k]? :=λk hk=>by simpa using k2 k hk
  have hl:a.length<=b.length:=by
   rcases bu a.length with h|h
   ·omega
   ·have:=eq (a.length-1) (by omega);rw[an (by omega)] at this;have:=yw this.symm;omega
  refine⟨a.length,?_,az _,hl,?_,λh=>absurd h (dI _)⟩
  ·unfold HL;rw[show Kx ((a,b,0,()),(),())=_ from k1];rfl
  ·refine bE λk=> ?_;rw[bz,bz];split
   ·exact eq k (by assumption)
   ·rfl
 ·have eq: ∀k,k<i->a[k]? =b[k]? :=λk hk=>by simpa using k3 k hk
  have hl:i<=b.length:=by
   rcases bu i with h|h
   ·omega
   ·have:=eq (i-1) (by omega);rw[an (by omega)] at this;have:=yw this.symm;omega
  refine⟨i,?_,by omega,hl,?_,λ_ _=>by simpa using k2⟩
  ·unfold HL;rw[show Kx ((a,b,0,()),(),())=_ from k1];rfl
  ·refine bE λk=> ?_;rw[bz,bz];split
   ·exact eq k (by assumption)
   ·rfl
end
section
theorem UZ(x:vz):Eh (Kn x) (Ni x):=by
 obtain⟨b,h1,h2⟩:=Nl x;unfold Kn Ni;simp only[h1,h2,ak];cases b with
 |false=>simp only[Bool.not_false,DG];cases ((x.epoch==0)&&((x.holder==0)&&((x.ends==0)&&true)))<;>exact⟨_,rfl,rfl⟩
 |true=>
  simp only[dk,CS];cases he:x.ends==0 with
  |true=>
   cases hz: ((x.epoch==0)&&((x.holder==0)&&(true&&true))) with
   |true=>exact⟨_,rfl,rfl⟩
   |false=>
    exfalso;unfold GG at h2;rw[he,hz] at h2;simp only[CS,Jr,ak] at h2
    have hw:G9 x.ends 1 1049=false:=by rw[Bool.eq_false_iff];intro hw;have:=Fl.1 hw;simp only[beq_iff_eq] at he;omega
    rw[hw] at h2;revert h2;cases G9 x.epoch 1 20<;>cases G9 x.holder 0 4<;>intro h2<;>cases h2
  |false=>
   have hz: ((x.epoch==0)&&((x.holder==0)&&(false&&true)))=false:=by cases x.epoch==0<;>cases x.holder==0<;>rfl
   rw[hz];exact⟨_,rfl,rfl⟩
theorem Qw(x:vz)(n:Int):Eh (HA x n) (Im x n):=by obtain⟨b,h1,h2⟩:=Nl x;obtain⟨t,t1,t2⟩:=UZ x;unfold HA Im;simp only[h1,h2,t1,t2,F2,Jr,ak];cases b<;>cases G9 n 0 999<;>exact⟨_,rfl,rfl⟩
end
section
theorem Qg{l:List vB}(hl:l.length<=maxLen)(hv:FI l=some (true,())):l.length=5:=by
 obtain⟨b,h1,h2⟩:=My l hl;rw[hv] at h1;simp only[af,au,and_true] at h1;subst h1;unfold Jy at h2;cases h: ((l.length:Int)==5) with
 |false=>rw[h] at h2;cases h2
 |true=>simp only[beq_iff_eq] at h;omega
end
section
theorem R6(a b:List Int)(ha:Mb a)(hb:b.length<=maxLen):FW a b=some (a.filter λx=> !decide (x∈b),()):=by
 have hl:=ha.len;have hm:a.length<=maxLen:=by unfold maxLen;omega
 have hp:=ha.pair
 have fm:=tC (B:=GB) a (λk (out:List Int)=>((a,b,(),(k:Int),()),(),(out,()))) (λk out=>out=(a.take k).filter λx=> !decide (x∈b)) (λk r out=>(((),()),(),(out++r.filter λx=> !decide (x∈b),())))
  (λout hb=>by simp only[GB];rw[j6,if_neg (by omega)];simp)
  (λk out x hx hout=>by
    have hk:=yw hx;have c1: (k:Int)< (a.length:Int):=by omega
    have c2: (0:Int)<=(k:Int):=by omega
    have hxe:a[k] =x:=by rw[an hk] at hx;exact Option.some.inj hx
    simp only[GB,Ff,j6,C7,if_pos c1,if_pos c2,cO,hx,ak,(FP b x hb).1,kT hm hk];by_cases hin:x∈b
    ·simp only[if_pos hin];refine .inl ⟨out,rfl,?_,?_⟩
     ·rw[hout,EN,hx,EP];simp[hin]
     ·simp[hin]
    ·have hlt: ∀y∈out,y<x:=by
      intro y hy;rw[hout,EX] at hy;obtain⟨i,hi,he⟩:=aQ hy.1;have hi':i<k:=by simp at hi;omega
      rw[Fd] at he;rw[<-he,<-hxe];exact EO.1 hp i k (by omega) hk hi'
     have hol:out.length<=1000:=by rw[hout];have:=Fa (λx=> !decide (x∈b)) (a.take k);simp only[ci] at this;omega
     simp only[if_neg hin,TQ out x hol hlt,ak];refine .inl ⟨out++ [x],rfl,?_,?_⟩
     ·rw[hout,EN,hx,EP];simp[hin]
     ·simp[hin])
  0 [] (bH _) rfl
 unfold FW;rw[show LQ ((a,b,(),0,()),(),([],()))=_ from fm];rfl
end
section
theorem NJ{l:List Int}(h:SS l)(hr: ∀y∈l,0<=y/\y<5):Mb l:=by intro k hk;have:=hr _ (dq hk);exact⟨by omega,λh0=>EO.1 h _ _ (by omega) hk (by omega)⟩
theorem Oo{l:List Int}(h:Mb l):F4 l=some (true,())/\GO l=some (true,()):=by
 have hl:=h.len;have hm:l.length<=maxLen:=by unfold maxLen;omega
 obtain⟨_,_,h1,h2⟩:=V6 (B1:=Gj) (B2:=Gi) l.length (λk (_:Unit)=>((l,(k:Int),()),(),())) (λk _=>((l,l,(l.length:Int),(k:Int),()),(),())) (λ_ _=>True) (λ_=> .inr (((),()),(),())) (λ_=> .inr (((),()),(),()))
  (λ_ _=>by simp only[Gj,Gi,j6];exact⟨if_neg (by omega),if_neg (by omega)⟩)
  (λk _ hk _=>by
    have c1: (k:Int)< (l.length:Int):=by omega
    have c2: (0:Int)<=(k:Int):=by omega
    obtain⟨r1,r2⟩:=h k hk;have w:G9 l[k] 0 4=true:=Fl.2 r1;refine⟨(),?_⟩;simp only[Gj,Gi,j6,C7,if_pos c1,if_pos c2,cO,an hk,ak,F2,Jr,w,dk,CS,kT hm hk];by_cases h0:0<k
    ·have c3: (k:Int)>0:=by omega
     have c4: (0:Int)<=((k-1:Nat):Int):=by omega
     have e2:l[k-1]? =some l[k-1] :=an (by omega);have:=r2 h0;simp only[if_pos c3,CO h0 (by omega),if_pos c4,cO,e2,ak,if_neg (show ¬l[k-1] ≥l[k] by omega),if_neg (show ¬l[k] <=l[k-1] by omega),and_self]
    ·simp only[if_neg (show ¬ (k:Int)>0 by omega),and_self])
  () trivial
 unfold F4 GO;rw[show J8 ((l,0,()),(),())=_ from h1,show J7 ((l,l,(l.length:Int),0,()),(),())=_ from h2];exact⟨rfl,rfl⟩
end
section

end
section
theorem Z9{m:kB}(h:Mw 1048576 m)(hv:FL m=some (true,())):m.configs.length<=20:=by
 obtain⟨f,_,_⟩:=TO (IW h) hv;rcases bu m.configs.length with h0|h0
 ·omega
 ·have hk:m.configs.length-1<m.configs.length:=by omega
  obtain⟨f1,f2⟩:=f _ hk;have:=(NK (Fz (h.2 _ (dq hk))) f1).2.2.2.2.1;omega
def cutAt(l:List sf):Nat:=l.length-3
theorem W9(l:List sf)(hl:l.length<=1048576): (if IntKind.wrap .i64 ((l.length:Int)-3)>0 then IntKind.wrap .i64 ((l.length:Int)-3) else 0)=((cutAt l:Nat):Int):=by rw[of (by omega) (by omega)];unfold cutAt;split<;>omega
end
section

end
section

end
section

end
section

end
section
abbrev fx(x:qN):Int×List qQ×List Int×List om×Int×Int×Int×Int×Int×List vB×Unit:=(x.now,x.servers,x.sides,x.master.configs,x.master.activated,x.masterUp,x.lease.epoch,x.lease.holder,x.lease.ends,x.places,())
abbrev fsv(s:qQ):Bool×Bool×Int×Int×Int×Int×List Int×List Int×Int×List sf×Int×List sf×Unit:=(s.up,s.intact,s.version,s.epoch,s.config.epoch,s.config.primary,s.config.replicas,s.config.witnesses,s.first,s.log,s.commit,s.learned,())
structure ZW (x x':qN):Prop where
 sides:x'.sides=x.sides
 master:x'.master=x.master
 srv: ∀ (k:Nat) (s:qQ),x.servers[k]? =some s-> ∃e,x'.servers[k]? =some (⟨s.up,s.intact,s.version,e,s.config,s.first,s.log,s.commit,s.learned⟩:qQ)
theorem ZW.refl(x:qN):ZW x x:=⟨rfl,rfl,λ_ s h=>⟨s.epoch,h⟩⟩
theorem ZW.side{x x':qN}(h:ZW x x')(a:Int):VT x' a=VT x a:=by unfold VT;rw[h.sides]
section
variable {x x':qN} (ok:F9 1048576 x) (ok':F9 1048576 x') (hv:Fg x=some (true,())) (hv':Fg x'=some (true,())) (se:ZW x x') {id:Int} (hid:0<=id/\id<5)
include ok ok' hv hv' se hid
omit ok hv se in
end
end
section
structure SV (m:kB) (s:qQ) (k:Int):Prop where
 val:Fp s k=some (true,())
 ep:s.epoch<=(m.configs.length:Int)
 lrn: ∃e,JD s.learned=some (e,())/\e<=m.activated
 cfg:s.config=⟨0,0,[],[]⟩\/(G4 m s.config.epoch=some (s.config,true,())/\s.config.epoch<=m.activated)
theorem SV.old{m:kB}{s:qQ}{k:Int}(h:SV m s k)(hm:Mw 1048576 m)(hv:FL m=some (true,())):s.config.epoch<=(m.configs.length:Int):=by
 obtain⟨_,f2,f3⟩:=TO (IW hm) hv;rcases h.cfg with h| ⟨_,h⟩
 ·rw[h];show (0:Int)<=_;omega
 ·omega
end
section

end
section

end
section
theorem Mb.filter{l:List Int}(h:Mb l)(p:Int->Bool):Mb (l.filter p):=by refine NJ (h.pair.filter p) λy hy=> ?_;obtain⟨k,hk,rfl⟩:=aQ (EX.1 hy).1;have:=(h k hk).1;omega
theorem VU:Mb [0,1,2,3,4] :=by refine NJ (by simp[SS]) λy hy=> ?_;simp at hy;omega
end
section
theorem Vc(l:vz)(e h n t:Int): ∃r b,JU l e h n t=some (r,b,())/\Pt l e h n t=some (r,b,()):=by obtain⟨b,h1,h2⟩:=Nl l;obtain⟨q,q1,q2⟩:=Qw l n;unfold JU Pt;simp only[h1,h2,q1,q2,F2,Jr,ak];cases (l.epoch==e)<;>cases b<;>cases G9 e 1 20<;>cases G9 h 0 4<;>cases G9 n 0 999<;>cases G9 t 1 50<;>cases (l.holder==h)<;>cases q<;>exact⟨_,_,rfl,rfl⟩
end
section
theorem P0(m:nX)(ho:m.objects.length<=1000)(hs:m.sessions.length<=1000): ∃b,FV m=some (b,())/\GZ m=some (b,())/\(b=true->m.objects.length=3):=by
 have mo:m.objects.length<=maxLen:=by unfold maxLen;omega
 have ms:m.sessions.length<=maxLen:=by unfold maxLen;omega
 have k1:=DL (B1:=FG) (B2:=Fq) m.objects.length (λk=>(((),(k:Int),()),((m.objects,m.sessions,()),()),())) (λk=>((m.objects,(),(m.objects.length:Int),(k:Int),()),(),())) (.inr (((),(),()),((m.objects,m.sessions,()),()),())) (.inr (((),()),(),())) (λ_=> .inl (((),false,()),((m.objects,m.sessions,()),()),())) (λk=> .inl (((k:Int),()),(),()))
  (λ_=>True) (λ_=>True)
  (by simp only[FG];rw[j6,if_neg (by omega)])
  (by simp only[Fq];rw[j6,if_neg (by omega)])
  (λk hk=>by
    have c1: (k:Int)< (m.objects.length:Int):=by omega
    have c2: (0:Int)<=(k:Int):=by omega
    simp only[FG,Fq,j6,C7,if_pos c1,if_pos c2,cO,an hk,ak,HD,F2,Jr,kT mo hk];cases G9 m.objects[k] 0 9 with
    |false=>exact .inr ⟨rfl,rfl,trivial⟩
    |true=>exact .inl ⟨rfl,rfl,trivial⟩)
 have k2:=DL (B1:=FH) (B2:=Gz) m.sessions.length (λk=>(((),(k:Int),()),((m.objects,m.sessions,()),()),())) (λk=>(((),m.sessions,(m.sessions.length:Int),(k:Int),()),((m.objects,m.sessions,()),()),())) (.inr (((),(),()),((m.objects,m.sessions,()),()),())) (.inr (((),()),(),())) (λ_=> .inl (((),false,()),((m.objects,m.sessions,()),()),())) (λ_=> .inl ((false,()),(),()))
  (λ_=>True) (λ_=>True)
  (by simp only[FH];rw[j6,if_neg (by omega)])
  (by simp only[Gz];rw[j6,if_neg (by omega)])
  (λk hk=>by
    have c1: (k:Int)< (m.sessions.length:Int):=by omega
    have c2: (0:Int)<=(k:Int):=by omega
    simp only[FH,Gz,j6,C7,if_pos c1,if_pos c2,cO,an hk,ak,F2,Jr,kT ms hk];by_cases h0:0<k
    ·have c3: (k:Int)>0:=by omega
     have c4: (0:Int)<=((k-1:Nat):Int):=by omega
     have e1:m.sessions[k-1]? =some (m.sessions[k-1]'(by omega)):=an (by omega);simp only[if_pos c3,CO h0 (by unfold maxLen at ms ⊢;omega),if_pos c4,cO,e1,ak];by_cases h: (m.sessions[k-1]'(by omega)).client≥m.sessions[k].client
     ·simp only[if_pos h];cases G9 m.sessions[k].client 0 2<;>cases G9 m.sessions[k].seq 1 99<;>cases G9 m.sessions[k].result.value 0 9<;>exact .inr ⟨rfl,rfl,trivial⟩
     ·simp only[if_neg h];cases G9 m.sessions[k].client 0 2<;>cases G9 m.sessions[k].seq 1 99<;>cases G9 m.sessions[k].result.value 0 9<;>first |exact .inr ⟨rfl,rfl,trivial⟩|exact .inl ⟨rfl,rfl,trivial⟩
    ·have c3: ¬ (k:Int)>0:=by omega
     simp only[if_neg c3];cases G9 m.sessions[k].client 0 2<;>cases G9 m.sessions[k].seq 1 99<;>cases G9 m.sessions[k].result.value 0 9<;>first |exact .inr ⟨rfl,rfl,trivial⟩|exact .inl ⟨rfl,rfl,trivial⟩)
 unfold FV GZ FE FN;rcases k1 with ⟨g1,g2,_⟩| ⟨k,_,g1,g2,_⟩
 ·rw[show H2 (((),0,()),((m.objects,m.sessions,()),()),())=_ from g1,show F6 ((m.objects,(),(m.objects.length:Int),0,()),(),())=_ from g2];rcases k2 with ⟨h1,h2,_⟩| ⟨k',_,h1,h2,_⟩
  ·simp only[ak,ET,show G7 (((),0,()),((m.objects,m.sessions,()),()),())=_ from h1,show Jt (((),m.sessions,(m.sessions.length:Int),0,()),((m.objects,m.sessions,()),()),())=_ from h2];by_cases h3: (m.objects.length:Int)=3
   ·rw[h3];exact⟨true,rfl,rfl,λ_=>by omega⟩
   ·rw[beq_eq_false_iff_ne.2 h3];exact⟨false,rfl,rfl,λh=>by cases h⟩
  ·simp only[ak,ET,show G7 (((),0,()),((m.objects,m.sessions,()),()),())=_ from h1,show Jt (((),m.sessions,(m.sessions.length:Int),0,()),((m.objects,m.sessions,()),()),())=_ from h2];cases ((m.objects.length:Int)==3)<;>exact⟨false,rfl,rfl,λh=>by cases h⟩
 ·rw[show H2 (((),0,()),((m.objects,m.sessions,()),()),())=_ from g1,show F6 ((m.objects,(),(m.objects.length:Int),0,()),(),())=_ from g2];simp only[ak,EY];rw[decide_eq_true (by omega)];cases ((m.objects.length:Int)==3)<;>exact⟨false,rfl,rfl,λh=>by cases h⟩
theorem SX(m:nX)(c:Int)(hs:m.sessions.length<=1000): ∃s b,GS m c=some (s,b,())/\KQ m c=some (s,b,())/\(b=true-> ∃x∈m.sessions,x.client=c):=by
 have ms:m.sessions.length<=maxLen:=by unfold maxLen;omega
 have fm:=DL (B1:=Gg) (B2:=Ii) m.sessions.length (λk=>((c,(),(),(k:Int),()),((m.objects,m.sessions,()),(0,0,false,0,()),()),())) (λk=>((c,(),m.sessions,(m.sessions.length:Int),(k:Int),()),((0,0,false,0,()),()),())) (.inr (((),(),()),((0,0,false,0,()),()),())) (.inr (((),(),()),((0,0,false,0,()),()),()))
  (λk=>match m.sessions[k]? with |some x=> .inl (((),true,()),((x.client,x.seq,x.result.done,x.result.value,()),()),())|none=> .inr (((),(),()),((0,0,false,0,()),()),())) (λk=>match m.sessions[k]? with |some x=> .inl (((),true,()),((x.client,x.seq,x.result.done,x.result.value,()),()),())|none=> .inr (((),(),()),((0,0,false,0,()),()),()))
  (λ_=>True) (λk=> ∃h:k<m.sessions.length,m.sessions[k].client=c)
  (by simp only[Gg];rw[j6,if_neg (by omega)])
  (by simp only[Ii];rw[j6,if_neg (by omega)])
  (λk hk=>by
    have c1: (k:Int)< (m.sessions.length:Int):=by omega
    have c2: (0:Int)<=(k:Int):=by omega
    simp only[Gg,Ii,j6,Kg,C7,if_pos c1,if_pos c2,cO,an hk,ak,kT ms hk];by_cases h:m.sessions[k].client=c
    ·simp only[if_pos h];exact .inr ⟨trivial,trivial,hk,h⟩
    ·simp only[if_neg h];exact .inl ⟨trivial,trivial,trivial⟩)
 unfold GS KQ;rcases fm with ⟨k1,k2,_⟩| ⟨k,hk,k1,k2,_,h⟩
 ·rw[show KL ((c,(),(),0,()),((m.objects,m.sessions,()),(0,0,false,0,()),()),())=_ from k1,show Mn ((c,(),m.sessions,(m.sessions.length:Int),0,()),((0,0,false,0,()),()),())=_ from k2];exact⟨_,false,rfl,rfl,λh=>by cases h⟩
 ·rw[an hk] at k1 k2;rw[show KL ((c,(),(),0,()),((m.objects,m.sessions,()),(0,0,false,0,()),()),())=_ from k1,show Mn ((c,(),m.sessions,(m.sessions.length:Int),0,()),((0,0,false,0,()),()),())=_ from k2];exact⟨_,true,rfl,rfl,λ_=>⟨_,dq hk,h⟩⟩
def Ke:List nY->Int->Nat
 | [],_=>0
 |x::l,c=>if x.client<c then Ke l c+1 else 0
theorem XX{x:nY}{l:List nY}{c:Int}(h:x.client<c):Ke (x::l) c=Ke l c+1:=by rw[Ke,if_pos h]
theorem XW{x:nY}{l:List nY}{c:Int}(h: ¬x.client<c):Ke (x::l) c=0:=by rw[Ke,if_neg h]
theorem Wl(l:List nY)(c:Int):Ke l c<=l.length:=by
 induction l with
 |nil=>exact az _
 |cons x l ih=>
  unfold Ke;split
  ·simp only[bD];omega
  ·exact bH _
theorem Wm{l:List nY}{c:Int}(h: ∃x∈l,x.client=c):Ke l c<l.length:=by
 induction l with
 |nil=>obtain⟨x,hx,_⟩:=h;cases hx
 |cons y l ih=>
  unfold Ke;split
  ·rename_i hy;obtain⟨x,hx,hc⟩:=h;rcases aX.1 hx with rfl|hx
   ·omega
   ·have:=ih ⟨x,hx,hc⟩;simp only[bD];omega
  ·simp
theorem ZR(b d:Bool)(v:Int)(o:Op)(objs:List Int)(l:List nY)(hl:l.length<=1000):Ls (((),(),(),(),b,(),0,()),((o.client,o.seq,o.kind,o.object,o.old,o.value,()),((),(),()),(false,0,()),((),(),()),(d,v,()),()),objs,l,())=
  some (((),(),(),(),b,(),((Ke l o.client:Nat):Int),()),((o.client,o.seq,o.kind,o.object,o.old,o.value,()),((),(),()),(false,0,()),((),(),()),(d,v,()),()),objs,l,()):=by
 have ml:l.length<=maxLen:=by unfold maxLen;omega
 have fm:=tC (B:=IK) l (λk (_:Unit)=>(((),(),(),(),b,(),(k:Int),()),((o.client,o.seq,o.kind,o.object,o.old,o.value,()),((),(),()),(false,0,()),((),(),()),(d,v,()),()),objs,l,())) (λ_ _=>True)
  (λk r _=>(((),(),(),(),b,(),((k+Ke r o.client:Nat):Int),()),((o.client,o.seq,o.kind,o.object,o.old,o.value,()),((),(),()),(false,0,()),((),(),()),(d,v,()),()),objs,l,()))
  (λ_ _=>by simp only[IK];rw[j6,if_neg (by omega)];rfl)
  (λk _ x hx _=>by
    have hk:=yw hx;have c1: (k:Int)< (l.length:Int):=by omega
    have c2: (0:Int)<=(k:Int)/\(k:Int)< (l.length:Int):=by omega
    simp only[IK,j6,C7,if_pos c1,if_pos c2,cO,hx,ak,kT ml hk];by_cases h:x.client<o.client
    ·rw[if_pos h];refine .inl ⟨(),rfl,trivial,?_⟩;rw[Ke,if_pos h,show k+(Ke (l.drop (k+1)) o.client+1)=k+1+Ke (l.drop (k+1)) o.client by omega]
    ·rw[if_neg h];refine .inr ?_;rw[Ke,if_neg h];rfl) 0 () (bH _) trivial
 simp only[aM,cF] at fm;exact fm
theorem aap(b d:Bool)(v:Int)(o:Op)(objs:List Int)(l:List nY)(hl:l.length<=1000):Np (((),(),(),(),b,(),0,()),((o.client,o.seq,o.kind,o.object,o.old,o.value,()),((),(),()),(false,0,()),((),(),()),(d,v,()),()),objs,l,())=
  some (((),(),(),(),b,(),((Ke l o.client:Nat):Int),()),((o.client,o.seq,o.kind,o.object,o.old,o.value,()),((),(),()),(false,0,()),((),(),()),(d,v,()),()),objs,l,()):=by
 rw[<-ZR b d v o objs l hl];rfl
def RT(had:Bool)(l:List nY)(s:nY):List nY:=l.take (Ke l s.client)++s::l.drop (bif had then Ke l s.client+1 else Ke l s.client)
theorem TP{o:Op}(h:FD o=some (true,())):0<=o.object/\o.object<=2:=by
 unfold FD at h;simp only[F2,ak] at h;cases h1:G9 o.client 0 2 with
 |false=>rw[h1] at h;cases h
 |true=>
  cases h2:G9 o.seq 1 99 with
  |false=>rw[h1,h2] at h;cases h
  |true=>
   cases h3:G9 o.object 0 2 with
   |false=>rw[h1,h2,h3] at h;cases h
   |true=>exact Fl.1 h3
theorem Z1(m:nX)(ho:m.objects.length<=1000)(hs:m.sessions.length<=1000):LK m=some (m,())/\I4 m=some (m,()):=by
 have h1: (([]:List Int)++m.objects).length*8<=2 ^ 40:=by rw[bK];omega
 have h2: (([]:List nY)++m.sessions).length*32<=2 ^ 40:=by rw[bK];omega
 constructor
 ·unfold LK;rw[jq h1,jq h2];rfl
 ·unfold I4 Hp Ks;rw[jq (by omega),jq (by omega)];rfl
def ZV(m:nX)(o:Op)(m':nX):Prop:=m'=m\/ ∃had s x d,GS m o.client=some (s,had,())/\x∈m.objects/\m'.sessions=RT had m.sessions ⟨o.client,o.seq,⟨d,x⟩⟩/\(m'.objects=m.objects\/m'.objects=m.objects.set o.object.toNat o.value)
theorem YN{A B:Option (nX×Result×Bool×Unit)}{n k:Nat}(x:nX)(r:Result)(b:Bool)(h1:A=some (x,r,b,()))(h2:B=some (x,r,b,()))(h3:x.sessions.length<=n)(h4:x.objects.length=k){m:nX}{o:Op}(h5:ZV m o x): ∃x r b,A=some (x,r,b,())/\B=some (x,r,b,())/\x.sessions.length<=n/\x.objects.length=k/\ZV m o x:=⟨x,r,b,h1,h2,h3,h4,h5⟩
theorem aaq(l:List nY)(z:nY)(j:Nat)(hj:j<=l.length)(hl:l.length<=900):Hs l (j:Int) [z] =some (l.take j++z::l.drop j,()):=by unfold Hs B7;simp only;rw[jq (by omega),jq (by omega),cO]
theorem Yp(l:List nY)(z:nY)(j:Nat)(hj:j<=l.length): (l.take j++z::l.drop j)[j]? =some z:=by rw[aV (by rw[ci];omega),ci,show j-min j l.length=0 by omega];rfl
theorem Yq(l:List nY)(z y:nY)(j:Nat)(hj:j<=l.length): (l.take j++z::l.drop j).set j y=l.take j++y::l.drop j:=by rw[List.set_append_right _ _ (by rw[ci];omega),ci,show j-min j l.length=0 by omega];rfl
theorem V0(l:List nY)(z:nY)(j:Nat)(hj:j<=l.length): (l.take j++z::l.drop j).length=l.length+1:=by simp only[be,ci,bD,bR];omega
theorem SY(l:List nY)(z:nY)(j k:Nat): (l.take j++ [z])++(l.drop k).take (l.length-k)=l.take j++z::l.drop k:=by rw[show (l.drop k).take (l.length-k)=l.drop k from bS (by simp),aY];rfl
theorem YK(l:List nY)(z:nY)(j:Nat)(hj:j<l.length):l.set j z=l.take j++z::l.drop (j+1):=by rw[List.set_eq_take_append_cons_drop,if_pos hj]
theorem Yh(m:nX)(o:Op)(ho:m.objects.length<=1000)(hs:m.sessions.length<=900): ∃m' r b,IT m o=some (m',r,b,())/\MA m o=some (m',r,b,())/\m'.sessions.length<=m.sessions.length+1/\m'.objects.length=m.objects.length/\ZV m o m':=by
 obtain⟨b1,v1,v2,v3⟩:=P0 m ho (by omega);obtain⟨b2,o1,o2⟩:=Ua o;obtain⟨s,had,s1,s2,s3⟩:=SX m o.client (by omega);obtain⟨w1,w2⟩:=Z1 m ho (by omega);have hj:=Wl m.sessions o.client;unfold IT MA;simp only[w1,w2,v1,v2,o1,o2,s1,s2,ak,Ff];cases b1 with
 |false=>exact YN m ⟨false,0⟩ false rfl rfl (by omega) rfl (.inl rfl)
 |true=>
 cases b2 with
 |false=>exact YN m ⟨false,0⟩ false rfl rfl (by omega) rfl (.inl rfl)
 |true=>
 have l3:=v3 rfl;have ob:=TP o1;have hlt:o.object.toNat<m.objects.length:=by omega
 have c1:0<=o.object:=ob.1;have c2:0<=o.object/\o.object< (m.objects.length:Int):=by omega
 have e1:=an hlt;generalize m.objects[o.object.toNat] =x at e1;have hx0:=ay e1;have app: ∀ (m':nX) (d:Bool),(m'.objects=m.objects\/m'.objects=m.objects.set o.object.toNat o.value)->m'.sessions=RT had m.sessions ⟨o.client,o.seq,⟨d,x⟩⟩->ZV m o m':=λm' d g1 g2=> .inr ⟨had,s,x,d,s1,hx0,g2,g1⟩;have len0: (m.objects.set o.object.toNat o.value).length=m.objects.length:=by simp
 simp only[DG,Kg,j6,C7,if_pos c1,if_pos c2,e1,ak,ZR _ _ _ o _ m.sessions (by omega),aap _ _ _ o _ m.sessions (by omega),cO,Fc,aM,EW,cF,bK];have put: ∀d,RT had m.sessions ⟨o.client,o.seq,⟨d,x⟩⟩=m.sessions.take (Ke m.sessions o.client)++(⟨o.client,o.seq,⟨d,x⟩⟩:nY)::m.sessions.drop (bif had then Ke m.sessions o.client+1 else Ke m.sessions o.client):=λ_=>rfl;generalize hP:Ke m.sessions o.client=j at*;generalize hL:m.sessions=l at*;have q1:0<=(j:Int)/\(j:Int)<=(l.length:Int)/\(l.length:Int)<=(l.length:Int):=by omega
 have q2:0<=(0:Int)/\0<=(j:Int)/\(j:Int)<=(l.length:Int):=by omega
 have q4: (l.take j).length*32<=2 ^ 40:=by rw[ci];omega
 have q5: ∀z:nY,(l.take j++ [z]).length*32<=2 ^ 40:=λz=>by rw[be,ci,cn];omega
 cases had with
 |false=>
  have q:0<=(j:Int)/\(j:Int)< ((l.length+1:Nat):Int):=by omega
  have q6:j+(l.length-j)<=l.length:=by omega
  have q7: (l.length+1)*32<=2 ^ 40:=by omega
  simp only[CS,aaq l _ j hj hs,ak,Yp l _ j hj,Yq l _ _ j hj,V0 l _ j hj,SY,if_pos q,if_pos q1,if_pos q2,if_pos hj,if_pos q4,if_pos (q5 _),if_pos q6,if_pos q7]
  by_cases hk:o.kind=1<;>by_cases hx:x=o.old<;>simp only[if_pos,hk,hx]<;>
   exact⟨_,_,_,rfl,rfl,by rw[V0 l _ j hj];exact az _,by first |exact len0|rfl,app _ _ (by first |exact .inl rfl|exact .inr rfl) (by rw[put];first |rfl| (rw[hx];rfl))⟩
 |true=>
  have hj2:j<l.length:=by rw[<-hP];exact Wm (s3 rfl)
  have q:0<=(j:Int)/\(j:Int)< (l.length:Int):=by omega
  have qw:IntKind.wrap .i64 ((j:Int)+1)=((j+1:Nat):Int):=kT (n:=l.length) (by unfold maxLen;omega) hj2;have qa:0<=((j+1:Nat):Int)/\((j+1:Nat):Int)<=(l.length:Int)/\(l.length:Int)<=(l.length:Int):=by omega
  have q6:j+1+(l.length-(j+1))<=l.length:=by omega
  have hl1: ∀z:nY,(l.take j++z::l.drop (j+1)).length=l.length:=λz=>by simp only[be,ci,bD,bR];omega
  have q7:l.length*32<=2 ^ 40:=by omega
  simp only[DG,qw,cO,ak,SY,YK l _ j hj2,hl1,an hj2,if_pos q,if_pos qa,if_pos q1,if_pos q2,if_pos hj,if_pos q4,if_pos (q5 _),if_pos q6,if_pos q7];by_cases h1:s.seq=o.seq
  ·have h2: ¬s.seq>o.seq:=by omega
   simp only[if_pos h1,if_neg h2];exact⟨m,_,_,rfl,rfl,by rw[hL];omega,rfl,.inl rfl⟩
  ·simp only[if_neg h1];by_cases h2:s.seq>o.seq
   ·simp only[if_pos h2];exact⟨m,_,_,rfl,rfl,by rw[hL];omega,rfl,.inl rfl⟩
   ·simp only[if_neg h2]
    by_cases hk:o.kind=1<;>by_cases hx:x=o.old<;>simp only[hk,hx,if_true,if_false]<;>
     exact⟨_,_,_,rfl,rfl,by rw[hl1];omega,by first |exact len0|rfl,app _ _ (by first |exact .inl rfl|exact .inr rfl) (by rw[put];first |rfl| (rw[hx];rfl))⟩
theorem RR:JY=some (⟨[0,0,0],[]⟩,())/\JP=some (⟨[0,0,0],[]⟩,()):=by refine⟨rfl,?_⟩;unfold JP;rw[jq (by decide)];rfl
def YG(o:Op):Bool:=match FD o with |some (b,_)=>b|none=>false
theorem Nt(o:Op):FD o=some (YG o,()):=by obtain⟨b,h,_⟩:=Ua o;unfold YG;rw[h]
def UC(l:List sf)(k:Nat):Bool:=match l[k]? with
 |some e=>G9 e.epoch 1 20&&(YG e.op&&(decide (k=0)||match l[k-1]? with |some d=> !decide (d.epoch>e.epoch)|none=>false))
 |none=>false
theorem WN{l:List sf}{n k:Nat}(hk:k<n):UC (l.take n) k=UC l k:=by unfold UC;rw[bz,if_pos hk,bz,if_pos (by omega)]
theorem NU(l:List sf)(hl:l.length<=maxLen):FZ l=some (true,())↔l.length<=16/\ ∀k,k<l.length->UC l k=true:=by
 have fm:=LP (B:=IM) l.length (λk=>((l,(k:Int),()),(),())) (.inr ((l,(),()),(),())) (λ_=> .inl ((l,false,()),(),())) (λk=> !UC l k)
  (by simp only[IM];rw[j6,if_neg (by omega)])
  (λk hk=>by
    have c1: (k:Int)< (l.length:Int):=by omega
    have c2: (0:Int)<=(k:Int):=by omega
    simp only[IM,j6,C7,if_pos c1,if_pos c2,cO,an hk,ak,Nt,F2,kT hl hk,Ff,UC];cases G9 l[k].epoch 1 20 with
    |false=>rfl
    |true=>
     cases YG l[k].op with
     |false=>rfl
     |true=>
      by_cases h0:0<k
      ·have c3: (k:Int)>0:=by omega
       have c4: (0:Int)<=((k-1:Nat):Int):=by omega
       have c5: ¬k=0:=by omega
       have e2:l[k-1]? =some l[k-1] :=an (by omega);simp only[DG,if_pos c3,CO h0 (by omega),if_pos c4,cO,e2,ak,decide_eq_false c5,dH,cd,Bool.not_not];by_cases hlt:l[k-1].epoch>l[k].epoch
       ·rw[if_pos hlt,decide_eq_true hlt];rfl
       ·rw[if_neg hlt,decide_eq_false hlt];rfl
      ·have c3: ¬ (k:Int)>0:=by omega
       have c5:k=0:=by omega
       simp only[DG,if_neg c3,decide_eq_true c5];rfl)
 unfold FZ;rcases fm with ⟨k1,k2⟩| ⟨k,h0,k1,k2,_⟩
 ·rw[show MW ((l,0,()),(),())=_ from k1];simp only[ak,ET,af,au,and_true,decide_eq_true_eq];constructor
  ·intro h;exact⟨by omega,λk hk=>by simpa using k2 k hk⟩
  ·intro h;omega
 ·rw[show MW ((l,0,()),(),())=_ from k1];simp only[ak,EY,af,au,and_true];constructor
  ·intro h;cases h
  ·rintro⟨_,h⟩
   have:=h k h0;rw[this] at k2;cases k2
theorem Vd{l:List sf}(hl:l.length<=maxLen)(h:FZ l=some (true,()))(n:Nat):FZ (l.take n)=some (true,()):=by
 have hn: (l.take n).length<=l.length:=by rw[ci];omega
 obtain⟨h1,h2⟩:=(NU l hl).1 h;refine (NU _ (by omega)).2 ⟨by omega,λk hk=> ?_⟩;rw[WN (by rw[ci] at hk;omega)];exact h2 k (by omega)
theorem Xg{l:List sf}(hl:l.length<=maxLen)(h:FZ l=some (true,()))(k:Nat)(hk:k<l.length):YG l[k].op=true:=by have:=((NU l hl).1 h).2 k hk;unfold UC at this;rw[an hk] at this;simp only[ao] at this;exact this.2.1
structure VM (m:nX):Prop where
 vlen:m.objects.length=3
 vobj: ∀v∈m.objects,G9 v 0 9=true
 vses: ∀x∈m.sessions,G9 x.client 0 2=true/\G9 x.seq 1 99=true/\G9 x.result.value 0 9=true
 vasc:m.sessions.Pairwise λx y=>x.client<y.client
theorem VM.valid{m:nX}(h:VM m)(hs:m.sessions.length<=1000):FV m=some (true,()):=by
 have mo:m.objects.length<=maxLen:=by rw[h.vlen];unfold maxLen;omega
 have ms:m.sessions.length<=maxLen:=by unfold maxLen;omega
 have k1:=LP (B:=FG) m.objects.length (λk=>(((),(k:Int),()),((m.objects,m.sessions,()),()),())) (.inr (((),(),()),((m.objects,m.sessions,()),()),())) (λ_=> .inl (((),false,()),((m.objects,m.sessions,()),()),())) (λ_=>false)
  (by simp only[FG];rw[j6,if_neg (by omega)])
  (λk hk=>by
    have c1: (k:Int)< (m.objects.length:Int):=by omega
    have c2: (0:Int)<=(k:Int):=by omega
    simp only[FG,j6,C7,if_pos c1,if_pos c2,cO,an hk,ak,F2,h.vobj _ (dq hk),kT mo hk];rfl)
 have k2:=LP (B:=FH) m.sessions.length (λk=>(((),(k:Int),()),((m.objects,m.sessions,()),()),())) (.inr (((),(),()),((m.objects,m.sessions,()),()),())) (λ_=> .inl (((),false,()),((m.objects,m.sessions,()),()),())) (λ_=>false)
  (by simp only[FH];rw[j6,if_neg (by omega)])
  (λk hk=>by
    have c1: (k:Int)< (m.sessions.length:Int):=by omega
    have c2: (0:Int)<=(k:Int):=by omega
    obtain⟨h1,h2,h3⟩:=h.vses _ (dq hk);simp only[FH,j6,C7,if_pos c1,if_pos c2,cO,an hk,ak,F2,h1,h2,h3,dk,CS,kT ms hk];by_cases h0:0<k
    ·have c3: (k:Int)>0:=by omega
     have c4: (0:Int)<=((k-1:Nat):Int):=by omega
     have e1:m.sessions[k-1]? =some (m.sessions[k-1]'(by omega)):=an (by omega);have:=EO.1 h.vasc (k-1) k (by omega) hk (by omega);have c5: ¬ (m.sessions[k-1]'(by omega)).client≥m.sessions[k].client:=by omega
     simp only[if_pos c3,CO h0 (by unfold maxLen at ms ⊢;omega),if_pos c4,cO,e1,ak,if_neg c5];rfl
    ·have c3: ¬ (k:Int)>0:=by omega
     simp only[if_neg c3];rfl)
 unfold FV;rcases k1 with ⟨g1,_⟩| ⟨k,_,_,hf,_⟩
 ·rcases k2 with ⟨g2,_⟩| ⟨k,_,_,hf,_⟩
  ·rw[show H2 (((),0,()),((m.objects,m.sessions,()),()),())=_ from g1];simp only[ak,ET,show G7 (((),0,()),((m.objects,m.sessions,()),()),())=_ from g2,h.vlen];rfl
  ·cases hf
 ·cases hf
theorem VQ{m:nX}{c:Int}{s:nY}{b:Bool}(hs:m.sessions.length<=1000)(h:GS m c=some (s,b,()))(hb:b=false): ∀x∈m.sessions,x.client≠c:=by
 have ms:m.sessions.length<=maxLen:=by unfold maxLen;omega
 have fm:=LP (B:=Gg) m.sessions.length (λk=>((c,(),(),(k:Int),()),((m.objects,m.sessions,()),(0,0,false,0,()),()),())) (.inr (((),(),()),((0,0,false,0,()),()),()))
  (λk=>match m.sessions[k]? with |some x=> .inl (((),true,()),((x.client,x.seq,x.result.done,x.result.value,()),()),())|none=> .inr (((),(),()),((0,0,false,0,()),()),())) (λk=>match m.sessions[k]? with |some x=>x.client==c|none=>false)
  (by simp only[Gg];rw[j6,if_neg (by omega)])
  (λk hk=>by
    have c1: (k:Int)< (m.sessions.length:Int):=by omega
    have c2: (0:Int)<=(k:Int):=by omega
    simp only[Gg,j6,C7,if_pos c1,if_pos c2,cO,an hk,ak,kT ms hk];cases (m.sessions[k].client==c)<;>rfl)
 unfold GS at h;rcases fm with ⟨_,k2⟩| ⟨k,hk,k1,_,_⟩
 ·intro x hx e;obtain⟨k,hk,rfl⟩:=aQ hx
  have h3: (m.sessions[k].client==c)=false:=by
   have:=k2 k hk
   rwa [an hk] at this
  rw[e] at h3;simp at h3
 ·rw[an hk] at k1;rw[show KL ((c,(),(),0,()),((m.objects,m.sessions,()),(0,0,false,0,()),()),())=_ from k1] at h;simp only[ak,EY,af,au] at h;rw[<-h.2.1] at hb;cases hb
theorem UV{had:Bool}{l:List nY}{s y:nY}(h:y∈RT had l s):y=s\/y∈l:=by
 unfold RT at h;rcases bi.1 h with h|h
 ·exact .inr (bJ h)
 ·rcases aX.1 h with h|h
  ·exact .inl h
  ·exact .inr (bw h)
theorem UU(had:Bool)(s:nY): ∀l:List nY,l.Pairwise (λx y=>x.client<y.client)->(had=true-> ∃x∈l,x.client=s.client)->(had=false-> ∀x∈l,x.client≠s.client)->(RT had l s).Pairwise λx y=>x.client<y.client
 | [],_,h1,_=>by
   cases had with
   |true=>obtain⟨x,hx,_⟩:=h1 rfl;cases hx
   |false=>exact EZ _ _
 |x::l,h,h1,h2=>by
  obtain⟨hx,hl⟩:=EV.1 h;by_cases hc:x.client<s.client
  ·have e:RT had (x::l) s=x::RT had l s:=by
    unfold RT;rw[XX hc];cases had<;>rfl
   rw[e];refine EV.2 ⟨λy hy=> ?_,UU had s l hl (λhh=> ?_) (λhh y hy=>h2 hh y (aK _ hy))⟩
   ·rcases UV hy with rfl|hy
    ·exact hc
    ·exact hx y hy
   ·obtain⟨y,hy,e⟩:=h1 hh;rcases aX.1 hy with rfl|hy
    ·omega
    ·exact⟨y,hy,e⟩
  ·have e:RT had (x::l) s=s:: (x::l).drop (bif had then 1 else 0):=by
    unfold RT;rw[XW hc];cases had<;>rfl
   rw[e];cases had with
   |true=>
    refine EV.2 ⟨λy hy=> ?_,hl⟩;have:=hx y hy;obtain⟨z,hz,e⟩:=h1 rfl;rcases aX.1 hz with rfl|hz
    ·omega
    ·have:=hx z hz;omega
   |false=>
    refine EV.2 ⟨λy hy=> ?_,h⟩;have h0:=h2 rfl;rcases aX.1 hy with rfl|hy
    ·have:=h0 y aG;omega
    ·have:=hx y hy;have:=h0 x aG;omega
theorem XU{o:Op}(h:YG o=true):G9 o.client 0 2=true/\G9 o.seq 1 99=true/\G9 o.value 0 9=true:=by
 have h0:FD o=some (true,()):=by rw[Nt,h]
 unfold FD at h0;simp only[F2,ak] at h0;cases h1:G9 o.client 0 2 with
 |false=>rw[h1] at h0;cases h0
 |true=>
  cases h2:G9 o.seq 1 99 with
  |false=>rw[h1,h2] at h0;cases h0
  |true=>
   cases h3:G9 o.object 0 2 with
   |false=>rw[h1,h2,h3] at h0;cases h0
   |true=>
    cases h4:G9 o.value 0 9 with
    |false=>rw[h1,h2,h3,h4] at h0;cases h0
    |true=>exact⟨rfl,rfl,rfl⟩
theorem VM.app{m m':nX}{o:Op}(h:VM m)(hs:m.sessions.length<=900)(ho:YG o=true)(ha:ZV m o m'):VM m':=by
 rcases ha with rfl| ⟨had,s,x,d,h1,h2,h3,h4⟩
 ·exact h
 ·obtain⟨w1,w2,w3⟩:=XU ho;obtain⟨s',b',t1,_,t3⟩:=SX m o.client (by omega);rw[h1] at t1
  have hb:had=b':=by have:=Option.some.inj t1;simp only[au] at this;exact this.2.1
  refine⟨?_,λv hv=> ?_,λy hy=> ?_,?_⟩
  ·rcases h4 with e|e
   ·rw[e];exact h.vlen
   ·rw[e,EL];exact h.vlen
  ·rcases h4 with e|e
   ·rw[e] at hv;exact h.vobj v hv
   ·rw[e] at hv;rcases db hv with hv|rfl
    ·exact h.vobj v hv
    ·exact w3
  ·rw[h3] at hy;rcases UV hy with rfl|hy
   ·exact⟨w1,w2,h.vobj x h2⟩
   ·exact h.vses y hy
  ·rw[h3];exact UU had _ _ h.vasc (λhh=>t3 (hb ▸ hh)) (λhh=>VQ (by omega) h1 hh)
theorem WX(l:List sf)(hl:l.length<=maxLen): ∃m b,Gt l=some (m,b,())/\KP l=some (m,b,())/\m.objects.length<=3/\m.sessions.length<=16/\(FZ l=some (true,())->b=true/\VM m):=by
 unfold Gt KP;simp only[RR.1,RR.2,ak,Ff];rcases isLog l hl with ⟨g1,g2,g3⟩| ⟨g1,g2⟩
 ·simp only[g1,g2,ak,DG]
  obtain⟨m,⟨h1,h2,h5⟩,h3,h4⟩:=V6 (B1:=Hy) (B2:=Ih) l.length (λk (m:nX)=>((l,(),(),(k:Int),()),(((),(),()),((),(),()),()),m.objects,m.sessions,())) (λk m=>(((),(),l,(l.length:Int),(k:Int),()),(((),(),()),((),(),()),()),m.objects,m.sessions,())) (λk m=>m.objects.length<=3/\m.sessions.length<=k/\VM m)
   (λm=>(((),(),()),(((),(),()),((),(),()),()),m.objects,m.sessions,())) (λm=>(((),(),()),(((),(),()),((),(),()),()),m.objects,m.sessions,()))
   (λm _=>by simp only[Hy,Ih,j6];exact⟨if_neg (by omega),if_neg (by omega)⟩)
   (λk m hk hm=>by
     have c1: (k:Int)< (l.length:Int):=by omega
     have c2: (0:Int)<=(k:Int):=by omega
     obtain⟨m',r,b,a1,a2,a3,a4,a5⟩:=Yh ⟨m.objects,m.sessions⟩ l[k].op (by show m.objects.length<=1000;omega) (by show m.sessions.length<=900;omega);refine⟨m',?_⟩;simp only[Hy,Ih,j6,C7,if_pos c1,if_pos c2,cO,an hk,ak,a1,a2,kT hl hk];exact⟨trivial,trivial,by rw[a4];exact hm.1,ba a3 (Nat.succ_le_succ hm.2.1),VM.app hm.2.2 (by omega) (Xg hl g1 k hk) a5⟩)
   (⟨[0,0,0],[]⟩:nX) ⟨by decide,by decide,⟨rfl,λv hv=>(by simp at hv;subst hv;rfl),λx hx=>(nomatch hx),List.Pairwise.nil⟩⟩
  rw[show OQ ((l,(),(),0,()),(((),(),()),((),(),()),()),[0,0,0],[],())=_ from h3,show OM (((),(),l,(l.length:Int),0,()),(((),(),()),((),(),()),()),[0,0,0],[],())=_ from h4];exact⟨m,true,rfl,rfl,h1,by omega,λ_=>⟨rfl,h5⟩⟩
 ·simp only[g1,g2,ak,CS];exact⟨_,_,rfl,rfl,by decide,by decide,λh=>by cases h⟩
end
section
theorem Ly(x:qN)(ok:F9 1048576 x)(id:Int): ∃b,Gn x id=some (b,())/\GR x id=some (b,())/\(b=true->Fg x=some (true,())/\0<=id/\id<5/\ ∀s,x.servers[id.toNat]? =some s->FT s id=some (true,())):=by
 obtain⟨v,v1,v2⟩:=GQ x ok;cases v with
 |false=>
  refine⟨false,?_,?_,nofun⟩
  ·unfold Gn;simp only[v1,ak,CS]
  ·unfold GR Gh;simp only[v2,ak,CS]
 |true=>
  cases hw:G9 id 0 4 with
  |false=>
   refine⟨false,?_,?_,nofun⟩
   ·unfold Gn;simp only[v1,F2,hw,ak,DG,CS]
   ·unfold GR Gh;simp only[v2,Jr,hw,ak,DG,CS]
  |true=>
   have hid:=Fl.1 hw;obtain⟨s,s1,s2,s3⟩:=O5 ok (GK ok v1) (a:=id) (by omega);obtain⟨b,b1,b2⟩:=Ju s id s2;refine⟨b,?_,?_,λhb=>⟨v1,hid.1,by omega,λs' hs=> ?_⟩⟩
   ·unfold Gn;simp only[v1,F2,hw,ak,DG,C7,if_pos hid.1,s1,b1]
   ·unfold GR Gh;simp only[v2,Jr,hw,ak,DG,C7,if_pos hid.1,s1,b2]
   ·rw[s1] at hs;obtain rfl:=Option.some.inj hs;rw[b1,hb]
theorem X2(l:List sf)(hl:l.length<=1048576)(hv:FZ l=some (true,())):NT l=some (((cutAt l:Nat):Int),l.drop (cutAt l),()):=by
 unfold NT Ou;have hc:cutAt l<=l.length:=by unfold cutAt;omega
 have c1: (0:Int)<=((cutAt l:Nat):Int)/\((cutAt l:Nat):Int)<=(l.length:Int)/\(l.length:Int)<=(l.length:Int):=by omega
 have ht: ((l.drop (cutAt l)).take (l.length-cutAt l))=l.drop (cutAt l):=bS (by simp);simp only[hv,ak,dk,CS,W9 l hl,C7,if_pos c1,cO,ht,(Ot (l.drop (cutAt l)) (by simp;omega)).1]
end
section
def Tt{α:Type}(Q:α->Prop)(r:Option α):Prop:=∃a,r=some a/\Q a
section
variable {α β σ ε:Type} {Q:α->Prop} {Q':β->Prop}
theorem Tt.ret{a:α}(h:Q a):Tt Q (some a):=⟨a,rfl,h⟩
theorem Tt.bind{r:Option α}{k:α->Option β}(h:Tt Q r)(hk: ∀a,Q a->Tt Q' (k a)):Tt Q' (r.bind k):=by obtain⟨a,rfl,h⟩:=h;exact hk a h
theorem Tt.mono{Q2:α->Prop}{r:Option α}(h:Tt Q r)(hq: ∀a,Q a->Q2 a):Tt Q2 r:=h.imp λ_ h=>⟨h.1,hq _ h.2⟩
theorem Tt.ip{p:Prop}{d:Decidable p}{x y:Option α}(hp:p)(h:Tt Q x):Tt Q (@iteP _ p d x y):=by rw[jq hp];exact h
theorem Tt.br{b:Bool}{x y:Option α}(h1:b=true->Tt Q x)(h2:b=false->Tt Q y):Tt Q (br b x y):=by
 cases b with
 |true=>exact h1 rfl
 |false=>exact h2 rfl
theorem Tt.get{γ:Type}{l:List γ}{i:Nat}{k:γ->Option α}(hi:i<l.length)(h: ∀x,l[i]? =some x->x∈l->Tt Q (k x)):Tt Q ((l[i]?).bind k):=by rw[an hi];exact h _ (an hi) (dq hi)
theorem Tt.loop{B:σ->Option (σ⊕ε)}{E:ε->Prop}(I:σ->Prop)(μ:σ->Nat)(h: ∀s,I s->Tt (Sum.elim (λs'=>I s'/\μ s'<μ s) E) (B s)){s:σ}(hs:I s):Tt E (md B s):=
 AF I μ E (λs hs=>by
  obtain⟨r,h1,h2⟩:=h s hs;cases r with
  |inl s'=>exact .inl ⟨s',h1,h2.1,h2.2⟩
  |inr e=>exact .inr ⟨e,h1,h2⟩) hs
theorem Tt.go{p:Prop}[Decidable p]{x y:Option α}(hp:p)(h:Tt Q x):Tt Q (Go.Proofs.YtkghndikalnipabGreat.En.br (decide p) x y):=by rw[j6,if_pos hp];exact h
theorem Tt.end{p:Prop}[Decidable p]{x y:Option α}(hp: ¬p)(h:Tt Q y):Tt Q (Go.Proofs.YtkghndikalnipabGreat.En.br (decide p) x y):=by rw[j6,if_neg hp];exact h
theorem Tt.count{B:σ->Option (σ⊕ε)}{E:ε->Prop}(n:Nat)(m:Nat->β->σ)(J:Nat->β->Prop)(h0: ∀b,J n b->Tt (Sum.elim (λ_=>False) E) (B (m n b)))
  (h1: ∀k b,k<n->J k b->Tt (Sum.elim (λs=> ∃b',s=m (k+1) b'/\J (k+1) b') E) (B (m k b))) (b:β) (hb:J 0 b):Tt E (md B (m 0 b)):=by
 have go: ∀ (d k:Nat) (b:β),k+d=n->J k b->Tt E (md B (m k b)):=by
  intro d
  induction d with
  |zero=>
   intro k b hk hb;obtain rfl:k=n:=hk;obtain⟨r,e1,e2⟩:=h0 b hb;cases r with
   |inl s=>exact e2.elim
   |inr e=>exact⟨e,by rw[kj,e1];rfl,e2⟩
  |succ d ih=>
   intro k b hk hb;obtain⟨r,e1,e2⟩:=h1 k b (by omega) hb;cases r with
   |inl s=>obtain⟨b',rfl,hb'⟩:=e2;rw[kj,e1];exact ih (k+1) b' (by omega) hb'
   |inr e=>exact⟨e,by rw[kj,e1];rfl,e2⟩
 exact go n 0 b (aM n) hb
end
abbrev T1{α:Type}(_:α):Prop:=True
theorem KB{l:List Int}(ha:Mb l): ∀y∈l,0<=y/\y<5:=by intro y hy;obtain⟨k,hk,rfl⟩:=aQ hy;have:=(ha k hk).1;omega
theorem M4(c:om)(h:GV maxLen c):Tt (λy=>y.1.length<=10/\ ∀z∈y.1,0<=z/\z<5) (Ge c):=by obtain⟨v,v1,_⟩:=IJ c h;unfold Ge;rw[v1,ak,Ff];refine .br (λe=> ?_) λ_=> .ret ⟨bH _,nofun⟩;subst e;obtain⟨a1,a2,_⟩:=NK h v1;have l1:=a1.len;have l2:=a2.len;obtain⟨r,r1,_,r4,r5⟩:=X3 c.replicas c.witnesses (by omega) (by omega);rw[r1];exact .ret ⟨by show r.length<=10;omega,λz hz=>((r4 z).1 hz).elim (KB a1 z) (KB a2 z)⟩
theorem U2{x:qN}(ok:F9 1048576 x)(vc:VC x)(a b:Int):Tt T1 (GM x.sides a b):=by have h5:=L9 (Fw ok.2.1) vc.sides;unfold GM;simp only[vc.sides,F2,ak,DG];refine .br (λha=> .br (λhb=> ?_) λ_=> .ret trivial) λ_=> .ret trivial;have ha:=Fl.1 ha;have hb:=Fl.1 hb;exact .ip ha.1 (.get (by omega) λ_ _ _=> .ip hb.1 (.get (by omega) λ_ _ _=> .ret trivial))
theorem Tt.srv{α:Type}{Q:α->Prop}{x:qN}(ok:F9 1048576 x)(vc:VC x){a:Int}(ha:0<=a/\a<5){k:qQ->Option α}(h: ∀s,x.servers[a.toNat]? =some s->F3 1048576 s->Fp s a=some (true,())->Tt Q (k s)):Tt Q (iteP (0<=a) ((x.servers[a.toNat]?).bind k) none):=by obtain⟨s,s1,s2,s3⟩:=O5 ok vc ha;refine .ip ha.1 ?_;rw[s1];exact h s s1 s2 s3
theorem Xe{x:qN}(ok:F9 1048576 x)(vc:VC x){a b:Int}(ha:0<=a/\a<5)(hb:0<=b/\b<5):Tt T1 (Kq x a b):=by unfold Kq;refine .srv ok vc hb λm m1 m2 _=> .bind (U2 ok vc a b) λ_ _=> .br (λ_=> .br (λ_=> .srv ok vc ha λp p1 p2 _=> .br (λ_=> .srv ok vc ha λ_ _ _ _=> .br (λ_=> .srv ok vc ha λq _ _ _=> ?_) λ_=> .ret trivial) λ_=> .ret trivial) λ_=> .ret trivial) λ_=> .ret trivial;rw[(Hj m.config q.config (Fz m2.1)).1];exact .ret trivial
theorem NV{l:List sf}(h:l.length<=maxLen): ∃b,FZ l=some (b,())/\(b=true->l.length<=16):=by
 rcases isLog l h with ⟨h1,_,h2⟩| ⟨h1,_⟩
 ·exact⟨true,h1,λ_=>h2⟩
 ·exact⟨false,h1,nofun⟩
theorem Pr{l:List sf}(h:l.length<=1048576):Gx l=some (l,()):=(Ot l h).1
theorem YP(l:List sf)(c q:Int)(hl:l.length<=maxLen):Tt (λy=>y.1= -1\/0<=y.1/\y.1< (l.length:Int)) (MD l c q):=by
 unfold MD;refine .bind (.count (B:=Kh) (E:=Sum.elim (λy=>0<=y.1.1/\y.1.1< (l.length:Int)) λ_=>True) l.length (λk (_:Unit)=>((l,c,q,(k:Int),()),(),())) (λ_ _=>True) (λ_ _=> ?_) (λk _ hk _=> ?_) () trivial) λy hy=> ?_
 ·unfold Kh;simp only[j6];rw[if_neg (by omega)];exact .ret trivial
 ·unfold Kh;simp only[j6];rw[if_pos (by omega)];refine .ip (by omega) (.get (by omega) λ_ _ _=> .br (λ_=> .ip (by omega) (.get (by omega) λ_ _ _=> .br (λ_=> .ret ?_) λ_=> .ret ⟨(),by rw[kT hl hk],trivial⟩)) λ_=> .ret ⟨(),by rw[kT hl hk],trivial⟩);exact⟨by show (0:Int)<=k;omega,by show (k:Int)<_;omega⟩
 ·cases y with
  |inl y=>exact .ret (.inr hy)
  |inr y=>exact .ret (.inl rfl)
end
section
theorem Pe{l:List qQ}(h:l.length<=1048576/\ ∀s∈l,F3 1048576 s){s:qQ}(hs:F3 1048576 s)(i:Nat): (l.set i s).length<=1048576/\ ∀s'∈l.set i s,F3 1048576 s':=
 ⟨by rw[EL];exact h.1,λs' hm=>(db hm).elim (h.2 s') λe=>e ▸ hs⟩
theorem ZD(x:qN)(ok:F9 1048576 x)(id:Int): ∃y n,I7 x id=some (y,n,())/\F9 1048576 y/\y.servers.length=x.servers.length:=by
 obtain⟨b,b1,_,b2⟩:=S7 x id ok;unfold I7;simp only[(Hz x ok).1,b1,ak,Ff];cases b with
 |false=>exact⟨x,1,rfl,ok,rfl⟩
 |true=>
  obtain⟨hv,h0,h5⟩:=b2 rfl;obtain⟨s,s1,_⟩:=O5 ok (GK ok hv) ⟨h0,h5⟩;have hlt:=yw s1;have hs:=ok.1.2 s (ay s1);simp only[DG,C7,if_pos h0,s1,ak];rw[if_pos ⟨h0,by omega⟩];cases s.up with
  |false=>exact⟨x,2,rfl,ok,rfl⟩
  |true=>exact⟨_,0,rfl,⟨Pe ok.1 (show F3 1048576 ⟨false,s.intact,s.version,s.epoch,s.config,s.first,s.log,s.commit,s.learned⟩ from hs) _,ok.2⟩,EL⟩
theorem X1(x:qN)(ok:F9 1048576 x)(id:Int): ∃y n,H6 x id=some (y,n,())/\F9 1048576 y/\y.servers.length=x.servers.length:=by
 obtain⟨b,b1,_,b2⟩:=S7 x id ok;unfold H6;simp only[(Hz x ok).1,b1,ak,Ff];cases b with
 |false=>exact⟨x,1,rfl,ok,rfl⟩
 |true=>
  obtain⟨hv,h0,h5⟩:=b2 rfl;obtain⟨s,s1,_⟩:=O5 ok (GK ok hv) ⟨h0,h5⟩;have hlt:=yw s1;have hs:=ok.1.2 s (ay s1);simp only[DG,C7,if_pos h0,s1,ak];rw[if_pos ⟨h0,by omega⟩];cases s.up with
  |true=>exact⟨x,1,rfl,ok,rfl⟩
  |false=>exact⟨_,0,rfl,⟨Pe ok.1 (show F3 1048576 ⟨true,s.intact,s.version,s.epoch,s.config,s.first,s.log,s.commit,s.learned⟩ from hs) _,ok.2⟩,EL⟩
theorem Z7(x:qN)(ok:F9 1048576 x)(id:Int): ∃y n,LD x id=some (y,n,())/\F9 1048576 y/\y.servers.length=x.servers.length:=by
 obtain⟨b,b1,_,b2⟩:=S7 x id ok;unfold LD;simp only[(Hz x ok).1,b1,ak,Ff];cases b with
 |false=>exact⟨x,1,rfl,ok,rfl⟩
 |true=>obtain⟨hv,h0,h5⟩:=b2 rfl;obtain⟨s,s1,_⟩:=O5 ok (GK ok hv) ⟨h0,h5⟩;have hlt:=yw s1;simp only[DG,C7,if_pos h0,s1,ak,Lm];rw[if_pos ⟨h0,by omega⟩];exact⟨_,0,rfl,⟨Pe ok.1 ⟨⟨bH _,bH _⟩,bH _,bH _⟩ _,ok.2⟩,EL⟩
theorem XQ(x:qN)(ok:F9 1048576 x)(n:Int): ∃y k,J0 x n=some (y,k,())/\F9 1048576 y/\y.servers.length=x.servers.length:=by
 obtain⟨v,v1,_⟩:=GQ x ok;unfold J0;simp only[(Hz x ok).1,v1,F2,ak,Ff];cases v with
 |false=>exact⟨x,1,rfl,ok,rfl⟩
 |true=>
  simp only[DG];cases G9 n 0 3 with
  |false=>exact⟨x,1,rfl,ok,rfl⟩
  |true=>exact⟨_,0,rfl,ok,rfl⟩
theorem aaa(x:qN)(ok:F9 1048576 x)(a b:Int): ∃y k,JW x a b=some (y,k,())/\F9 1048576 y/\y.servers.length=x.servers.length:=by
 obtain⟨v,v1,_⟩:=GQ x ok;obtain⟨u,u1,_⟩:=Pp x.sides (Fw ok.2.1)
 have hm: ∃l t,LF x.sides a b=some (l,t,())/\l.length=x.sides.length:=by
  unfold LF;simp only[bK,C7,u1,F2,ak,Ff];rw[if_pos (show x.sides.length*8<=2 ^ 40 by have:=ok.2.1;omega)];cases u with
  |false=>exact⟨_,_,rfl,rfl⟩
  |true=>
   simp only[DG];cases hw:G9 a 0 4 with
   |false=>exact⟨_,_,rfl,rfl⟩
   |true=>
    simp only[DG];cases G9 b 0 3 with
    |false=>exact⟨_,_,rfl,rfl⟩
    |true=>have hw:=Fl.1 hw;have hl:=L9 (Fw ok.2.1) u1;simp only[DG];rw[if_pos ⟨hw.1,by omega⟩,an (by omega)];exact⟨_,_,rfl,EL⟩
 obtain⟨l,t,l1,l2⟩:=hm;unfold JW;simp only[(Hz x ok).1,v1,l1,ak,Ff];cases v with
 |false=>exact⟨x,1,rfl,ok,rfl⟩
 |true=>
  cases t with
  |false=>exact⟨x,1,rfl,ok,rfl⟩
  |true=>exact⟨_,0,rfl,⟨ok.1,by show l.length<=1048576;rw[l2];exact ok.2.1,ok.2.2⟩,rfl⟩
theorem U1(x:qN)(ok:F9 1048576 x)(id:Int): ∃n:Int,Ho x id=some (n,())/\(n=0->Fg x=some (true,())/\0<=id/\id<5):=by
 obtain⟨v,v1,_⟩:=GQ x ok;unfold Ho;simp only[v1,F2,ak,Ff];cases v with
 |false=>exact⟨1,rfl,λh=>absurd h (by decide)⟩
 |true=>
  simp only[DG];cases hw:G9 id 0 4 with
  |false=>exact⟨1,rfl,λh=>absurd h (by decide)⟩
  |true=>
   have hw:=Fl.1 hw;obtain⟨s,s1,_⟩:=O5 ok (GK ok v1) ⟨hw.1,by omega⟩;simp only[DG,C7,if_pos hw.1,s1,ak];cases s.up with
   |false=>exact⟨2,rfl,λh=>absurd h (by decide)⟩
   |true=>exact⟨0,rfl,λ_=>⟨trivial,hw.1,by omega⟩⟩
end
section
theorem tn{k n:Nat}(h:k<n): (k:Int).toNat<n:=h
theorem US(m:nX)(ho:m.objects.length<=1000)(hs:m.sessions.length<=1000):Tt (λy=>y.1=true->m.objects.length=3) (FV m):=by
 have mo:m.objects.length<=maxLen:=by unfold maxLen;omega
 have ms:m.sessions.length<=maxLen:=by unfold maxLen;omega
 unfold FV;refine .bind (.count (B:=FG) (E:=Sum.elim (λy=>y.1.2=(false,())) λy=>y.2.1=((m.objects,m.sessions,()),())) m.objects.length (λk (_:Unit)=>(((),(k:Int),()),((m.objects,m.sessions,()),()),())) (λ_ _=>True) (λ_ _=> .end (EK _) (.ret rfl)) (λk _ hk _=> .go (EJ.2 hk) (.ip (EI k) (.get (tn hk) λx _ _=> ?_))) () trivial) λy hy=> ?_
 ·rw[F2,ak,Ff];exact .br (λ_=> .ret ⟨(),by rw[kT mo hk],trivial⟩) λ_=> .ret rfl
 cases y with
 |inl y=>exact .ret (by rw[show y.1.2=_ from hy];nofun)
 |inr y=>
  show Tt _ ((G7 (((),0,()),y.2.1,())).bind _);rw[show y.2.1=_ from hy];refine .bind (.count (B:=FH) (E:=Sum.elim (λy=>y.1.2=(false,())) λy=>y.2.1=((m.objects,m.sessions,()),())) m.sessions.length (λk (_:Unit)=>(((),(k:Int),()),((m.objects,m.sessions,()),()),())) (λ_ _=>True) (λ_ _=> .end (EK _) (.ret rfl)) (λk _ hk _=> .go (EJ.2 hk) (.ip (EI k) (.get (tn hk) λx _ _=> ?_))) () trivial) λy hy=> ?_
  ·simp only[F2,ak,Ff]
   have hw: (k:Int)>0->IntKind.wrap .i64 ((k:Int)-1)=(k:Int)-1:=λh=>by unfold maxLen at ms;exact of (by omega) (by omega)
   refine .br (λ_=> .br (λ_=> .br (λ_=> .br (λh=> ?_) λ_=> .ret ⟨(),by rw[kT ms hk],trivial⟩) λ_=> .ret rfl) λ_=> .ret rfl) λ_=> .ret rfl;have h:=of_decide_eq_true h;rw[hw h];exact .ip (by omega) (.get (by omega) λ_ _ _=> .br (λ_=> .ret rfl) λ_=> .ret ⟨(),by rw[kT ms hk],trivial⟩)
  cases y with
  |inl y=>exact .ret (by rw[show y.1.2=_ from hy];nofun)
  |inr y=>show Tt _ (some (((y.2.1.1.1.length:Int)==3),()));rw[show y.2.1=_ from hy];exact .ret λh=>by have : (m.objects.length:Int)=3:=eq_of_beq h;omega
theorem X5(m:nX)(c:Int)(hs:m.sessions.length<=1000):Tt (λy=>y.2.1=true-> ∃x∈m.sessions,x.client=c) (GS m c):=by
 have ms:m.sessions.length<=maxLen:=by unfold maxLen;omega
 unfold GS;refine .bind (.count (B:=Gg) (E:=Sum.elim (λy=> ∃x∈m.sessions,x.client=c) λ_=>True) m.sessions.length (λk (_:Unit)=>((c,(),(),(k:Int),()),((m.objects,m.sessions,()),(0,0,false,0,()),()),())) (λ_ _=>True) (λ_ _=> .end (EK _) (.ret trivial)) (λk _ hk _=> .go (EJ.2 hk) (.ip (EI k) (.get (tn hk) λx _ hx=> .br (λe=> .ip (EI k) (.get (tn hk) λ_ _ _=> .ret ⟨x,hx,eq_of_beq e⟩)) λ_=> .ret ⟨(),by rw[kT ms hk],trivial⟩))) () trivial) λy hy=> ?_;cases y with
 |inl y=>exact .ret λ_=>hy
 |inr y=>exact .ret nofun
theorem U6(m:nX)(o:Op)(ho:m.objects.length<=1000)(hs:m.sessions.length<=900):Tt (λy=>y.1.sessions.length<=m.sessions.length+1/\y.1.objects.length=m.objects.length) (IT m o):=by
 obtain⟨⟨b,_⟩,v1,v2⟩:=US m ho (by omega);unfold IT
 have cp:LK m=some (m,()):=by unfold LK;simp only[bK];rw[jq (by omega),jq (by omega)]
 rw[cp,ak,v1,ak,Ff,Nt];refine .br (λe=> ?_) λ_=> .ret ⟨cM _,rfl⟩;have h3:=v2 e;rw[ak,Ff];refine .br (λeo=> .bind (X5 m o.client (by omega)) λy hy=> ?_) λ_=> .ret ⟨cM _,rfl⟩;have hob:=TP (show FD o=some (true,()) by rw[Nt];rw[show YG o=true from eo]);have hle:=Wl m.sessions o.client;have hlt:y.2.1=true->Ke m.sessions o.client<m.sessions.length:=λh=>Wm (hy h);have hw:IntKind.wrap .i64 (((Ke m.sessions o.client:Nat):Int)+1)=((Ke m.sessions o.client:Nat):Int)+1:=of (by omega) (by omega);generalize hp:Ke m.sessions o.client=p at hle hlt hw
 have ln: ∀ (k:Nat) (z:nY),k<=m.sessions.length+1->p<=k->(m.sessions.take p++ [z] ++(m.sessions.drop k).take (m.sessions.length-k)).length=p+1+(m.sessions.length-k):=λk z h1 h2=>by simp only[be,ci,bR,cn];omega
 have g0:0<=(p:Int):=EI p;have g1: (p:Int)<=(m.sessions.length:Int):=Int.ofNat_le.2 hle;have g3:0<=(p:Int)+1:=by omega
 have g2:y.2.1=true->(p:Int)+1<=(m.sessions.length:Int):=λh=>by have:=hlt h;omega
 have l1: (m.sessions.take p).length<=900:=by rw[ci];omega
 extract_lets+lift j44 j45
 have h44:Tt (λy=>y.1.sessions.length<=m.sessions.length+1/\y.1.objects.length=m.objects.length) j44:=by
  unfold j44;refine .ip hob.1 (.get (by show o.object.toNat<_;omega) λx _ _=> .br (λ_=> .ip (by show 0<=o.object/\o.object< (m.objects.length:Int);omega) (.get (by show o.object.toNat<m.objects.length;omega) λ_ _ _=> ?_)) λ_=> .br (λ_=> .ip (by show 0<=o.object/\o.object< (m.objects.length:Int);omega) (.get (by show o.object.toNat<m.objects.length;omega) λ_ _ _=> ?_)) λ_=> ?_)
  all_goals
   show Tt _ ((Ls (((),(),(),(),y.2.1,(),0,()),((o.client,o.seq,o.kind,o.object,o.old,o.value,()),((),(),()),(false,0,()),((),(),()),(_,_,()),()),_,m.sessions,())).bind _);rw[ZR _ _ _ _ _ _ (by omega),hp,ak];simp only[hw,bK,aM,cF,cO,show (0:Int).toNat=0 from rfl,EW,show ((p:Int)+1).toNat=p+1 from rfl];refine .ip ⟨g0,g1,c9 _⟩ (.br (λe=> ?_) λ_=> ?_)
   ·have:=hlt e;refine .ip ⟨g3,g2 e,c9 _⟩ (.ip ⟨c9 _,g0,g1⟩ (.ip hle (.ip (by omega) (.ip (by rw[be,cn];omega) (.ip (by omega) (.ip (by rw[ln _ _ (by omega) (by omega)];omega) (.ret ⟨?_,by first |rfl|exact EL⟩)))))));show List.length _<=_;rw[ln _ _ (by omega) (by omega)];omega
   ·refine .ip ⟨c9 _,g0,g1⟩ (.ip hle (.ip (by omega) (.ip (by rw[be,cn];omega) (.ip (by omega) (.ip (by rw[ln _ _ (by omega) (by omega)];omega) (.ret ⟨?_,by first |rfl|exact EL⟩))))));show List.length _<=_;rw[ln _ _ (by omega) (by omega)];omega
 have h45:Tt (λy=>y.1.sessions.length<=m.sessions.length+1/\y.1.objects.length=m.objects.length) j45:=.br (λ_=> .br (λ_=> .ret ⟨cM _,rfl⟩) λ_=>h44) λ_=>h44;exact .br (λ_=> .br (λ_=> .ret ⟨cM _,rfl⟩) λ_=>h45) λ_=>h45
theorem TY(l:List sf)(hl:l.length<=maxLen):Tt (λy=>y.1.objects.length<=3/\y.1.sessions.length<=16) (Gt l):=by obtain⟨b,b1,b2⟩:=NV hl;unfold Gt JY;rw[ak,b1,ak,Ff];refine .br (λe=> ?_) λ_=> .ret ⟨bH _,bH _⟩;have h16:=b2 e;refine .bind (.count (B:=Hy) (E:=λy=>y.2.2.1.length<=3/\y.2.2.2.1.length<=16) l.length (λk (b:List Int×List nY)=>((l,(),(),(k:Int),()),(((),(),()),((),(),()),()),b.1,b.2,())) (λk b=>b.1.length<=3/\b.2.length<=k) (λb hb=> .end (EK _) (.ret ⟨hb.1,ba hb.2 h16⟩)) (λk b hk hb=> .go (EJ.2 hk) (.ip (EI k) (.get (tn hk) λx _ _=> .bind (U6 ⟨b.1,b.2⟩ x.op (ba hb.1 (by omega)) (ba hb.2 (by omega))) λy hy=> .ret ⟨(y.1.objects,y.1.sessions),by rw[kT hl hk],by rw[hy.2];exact hb.1,ba hy.1 (Nat.succ_le_succ hb.2)⟩))) ([0,0,0],[]) ⟨az _,az _⟩) λy hy=> .ret hy
theorem Wn(l:List sf)(i:Int)(hl:l.length<=maxLen):Tt T1 (Km l i):=by obtain⟨b,b1,b2⟩:=NV hl;unfold Km;rw[b1,ak,Ff];refine .br (λe=> ?_) λ_=> .ret trivial;have h16:=b2 e;rw[of (n:=(l.length:Int)-1) (by omega) (by omega),F2,ak,Ff];refine .br (λh=> ?_) λ_=> .ret trivial;have h:=Fl.1 h;refine .ip (by omega) (.bind (TY _ ?_) λy hy=> .ip h.1 (.get (by omega) λx _ _=> .bind (U6 _ _ (by omega) (by omega)) λz _=> .ret trivial));refine ba ?_ hl;rw[ci,bR];omega
theorem O6(s:qQ)(h:F3 1048576 s)(hf:0<=s.first/\s.first<=16/\s.log.length<=16):Tt (λy=>y.1.length<=16) (Fs s):=by
 unfold Fs;rw[of (n:=s.first+(s.log.length:Int)) (by omega) (by omega)];simp only[F2,ak,Ff];refine .br (λh1=> ?_) λ_=> .ret (bH _);have h1:=Fl.1 h1;refine .br (λ_=> .ret (bH _)) λ_=> ?_;rw[of (n:=s.commit-s.first) (by omega) (by omega)]
 have hlen: ((s.log.drop (0:Int).toNat).take ((s.commit-s.first).toNat-(0:Int).toNat)).length<=16:=by rw[ci,bR];omega
 refine .ip (by omega) ?_;rw[Pr (by omega)];exact .ret hlen
theorem aae(m:nX)(i:Int)(ho:m.objects.length<=1000)(hs:m.sessions.length<=1000):Tt T1 (HZ m i):=by obtain⟨⟨b,_⟩,b1,b2⟩:=US m ho hs;unfold HZ;rw[b1,ak,Ff];refine .br (λe=> ?_) λ_=> .ret trivial;have h3:=b2 e;rw[F2,ak,Ff];refine .br (λh=> ?_) λ_=> .ret trivial;have h:=Fl.1 h;exact .ip h.1 (.get (by omega) λ_ _ _=> .ret trivial)
theorem T0{s:qQ}{id:Int}(h:F3 1048576 s)(hv:Fp s id=some (true,())):0<=s.first/\s.first<=16/\s.log.length<=16:=by obtain⟨h1,h2,h3,_⟩:=PZ h hv;exact⟨h1,h2,h3⟩
theorem ZQ(s:qQ)(i:Int)(h:F3 1048576 s)(hf:0<=s.first/\s.first<=16/\s.log.length<=16):Tt T1 (H0 s i):=by unfold H0;exact .bind (O6 s h hf) λy hy=> .bind (TY _ (by unfold maxLen;omega)) λz hz=> .bind (aae _ _ (by omega) (by omega)) λ_ _=> .ret trivial
theorem ZG(l:vz)(a b c:Int):Tt T1 (HY l a b c):=by obtain⟨v,v1,_⟩:=Nl l;unfold HY;rw[v1,ak,F2,ak];exact .br (λ_=> .br (λ_=> .br (λ_=> .br (λ_=> .br (λ_=> .ret trivial) λ_=> .ret trivial) λ_=> .ret trivial) λ_=> .ret trivial) λ_=> .ret trivial) λ_=> .ret trivial
theorem W5(x:qN)(ok:F9 1048576 x)(id:Int):Tt T1 (F5 x id):=by obtain⟨b,b1,_,b2⟩:=Ly x ok id;unfold F5;rw[b1,ak];refine .br (λe=> ?_) λ_=> .ret trivial;obtain⟨hv,h0,h5,_⟩:=b2 e;exact .srv ok (GK ok hv) ⟨h0,h5⟩ λs _ _ _=> .bind (ZG _ _ _ _) λ_ _=> .ret trivial
theorem Vv(x:qN)(ok:F9 1048576 x)(id i:Int):Tt T1 (HT x id i):=by obtain⟨n,n1,n2⟩:=U1 x ok id;unfold HT;rw[n1,ak,Ff];refine .br (λe=> ?_) λ_=> .ret trivial;obtain⟨hv,h0,h5⟩:=n2 (eq_of_beq e);have vc:=GK ok hv;rw[F2,ak,Ff];refine .br (λ_=> .srv ok vc ⟨h0,h5⟩ λs _ s2 _=> ?_) λ_=> .ret trivial;obtain⟨b,b1,_⟩:=Ju s id s2;rw[b1,ak,Ff];refine .br (λ_=> .bind (W5 x ok id) λy _=> ?_) λ_=> .ret trivial;rw[Ff];exact .br (λ_=> .srv ok vc ⟨h0,h5⟩ λs _ s2 s3=> .bind (ZQ s i s2 (T0 s2 s3)) λ_ _=> .ret trivial) λ_=> .ret trivial
end
section
def Kp(x y:qN):Prop:=F9 1048576 y/\y.servers.length=x.servers.length
theorem Kp.self{x:qN}(ok:F9 1048576 x):Kp x x:=⟨ok,rfl⟩
theorem Kp.trans{x y z:qN}(h:Kp x y)(k:Kp y z):Kp x z:=⟨k.1,k.2.trans h.2⟩
theorem Kp.srvs{x y:qN}(h:Kp x y){S:List qQ}(hl:S.length=y.servers.length)(hs: ∀s∈S,F3 1048576 s):Kp x ⟨y.now,S,y.sides,y.master,y.masterUp,y.lease,y.places⟩:=
 ⟨⟨⟨by rw[hl];exact h.1.1.1,hs⟩,h.1.2⟩,hl.trans h.2⟩
theorem Kp.set{x y:qN}(h:Kp x y){s:qQ}(hs:F3 1048576 s)(i:Nat):Kp x ⟨y.now,y.servers.set i s,y.sides,y.master,y.masterUp,y.lease,y.places⟩:=
 h.srvs EL (Pe h.1.1 hs i).2
theorem Tt.at{α:Type}{Q:α->Prop}{l:List qQ}(h5:l.length=5){a:Int}(ha:0<=a/\a<5){k:qQ->Option α}(h: ∀s,l[a.toNat]? =some s->s∈l->Tt Q (k s)):Tt Q (iteP (0<=a/\a< (l.length:Int)) ((l[a.toNat]?).bind k) none):=
 .ip (by rw[h5];exact ha) (.get (by omega) h)
theorem ZE(x:qN)(ok:F9 1048576 x)(id:Int):Tt T1 (I8 x id):=by obtain⟨b,b1,_,b2⟩:=Ly x ok id;unfold I8;rw[b1,ak,Ff];refine .br (λe=> ?_) λ_=> .ret trivial;obtain⟨hv,h0,h5,_⟩:=b2 e;have vc:=GK ok hv;refine .srv ok vc ⟨h0,h5⟩ λs _ s2 _=> .bind (M4 _ (Fz s2.1)) λy hy=> .bind (.count (B:=Jh) (E:=λ_=>True) y.1.length (λk (b:Int)=>(((),b,(),(k:Int),()),(fx x,()),y.1,())) (λ_ _=>True) (λ_ _=> .end (EK _) (.ret trivial)) (λk b hk _=> .go (EJ.2 hk) (.ip ⟨EI k,EJ.2 hk⟩ (.get (tn hk) λz _ hz=> .srv ok vc (hy.2 z hz) λt _ _ _=> .ret ⟨_,by rw[kT (by have:=hy.1;unfold maxLen;omega) hk],trivial⟩))) 2 trivial) λ_ _=> .ret trivial
theorem Yg(x:qN)(ok:F9 1048576 x)(id:Int)(o:Op):Tt (λy=>Kp x y.1/\(y.2.1=0->y.1.servers.length=5/\0<=id/\id<5)) (Hl x id o):=by
 obtain⟨v,v1,_⟩:=GQ x ok;unfold Hl;rw[(Hz x ok).1,ak,v1,ak,Ff];have bad: ∀n:Int,n≠0->Tt (λy:qN×Int×Unit=>Kp x y.1/\(y.2.1=0->y.1.servers.length=5/\0<=id/\id<5)) (some (x,n,())):=λn hn=> .ret ⟨.self ok,λh=>absurd h hn⟩;refine .br (λe=> ?_) λ_=>bad 1 (by decide);subst e;have vc:=GK ok v1;rw[F2,ak,Ff];refine .br (λh=> ?_) λ_=>bad 1 (by decide);have h:=Fl.1 h;have hid:0<=id/\id<5:=by omega
 rw[Nt,ak,Ff];refine .br (λ_=> .srv ok vc hid λs s1 s2 s3=> ?_) λ_=>bad 1 (by decide);rw[Ff];refine .br (λ_=> ?_) λ_=>bad 2 (by decide);obtain⟨b,b1,_⟩:=Ju s id s2;rw[b1,ak,Ff];refine .br (λ_=> .bind (YP s.log _ _ (Fw s2.2.1)) λy hy=> ?_) λ_=>bad 3 (by decide);have good: ∀n:Int,Tt (λy:qN×Int×Unit=>Kp x y.1/\(y.2.1=0->y.1.servers.length=5/\0<=id/\id<5)) (some (x,n,())):=λn=> .ret ⟨.self ok,λ_=>⟨vc.len,hid⟩⟩
 extract_lets+lift j17 j18
 have h17:Tt (λy=>Kp x y.1/\(y.2.1=0->y.1.servers.length=5/\0<=id/\id<5)) j17:=by
  unfold j17;refine .at vc.len hid λs' e' hs'=> ?_;show Tt _ ((x.servers[id.toNat]?).bind _);rw[e',ak];have hs:=ok.1.2 s' hs';have hs3:=hs.2.1;obtain rfl:s'=s:=by rw[s1] at e';exact (Option.some.inj e').symm
  have hl:=(T0 s2 s3).2.2;refine .ip rfl ?_;have e1: ∀X Y:Option (qN×Int×Unit),iteP (s'.log.length<s'.log.length) X Y=Y:=λX Y=>by rw[C7,if_neg (dI _)]
  rw[e1]
  have hl2: (s'.log.take s'.log.length++([(⟨s'.epoch,o⟩:sf)]:List sf)).length<=17:=by rw[be,ci,cn];omega
  refine .ip (by omega) (.ip (by show 0<=id/\id< (x.servers.length:Int);rw[vc.len];exact hid) (.ip rfl (.ret ⟨(Kp.self ok).set (s:=⟨s'.up,s'.intact,s'.version,s'.epoch,s'.config,s'.first,s'.log.take s'.log.length++ [⟨s'.epoch,o⟩],s'.commit,s'.learned⟩) ⟨hs.1,ba hl2 (by omega),hs.2.2⟩ _,λ_=>⟨by show (x.servers.set _ _).length=5;rw[EL];exact vc.len,hid⟩⟩)))
 have h18:Tt (λy=>Kp x y.1/\(y.2.1=0->y.1.servers.length=5/\0<=id/\id<5)) j18:=by unfold j18;refine .bind (TY s.log (Fw s2.2.1)) λm hm=> .bind (U6 m.1 o (by omega) (by omega)) λz _=> ?_;rw[Ff];refine .br (λ_=> .bind (Q:=T1) (by unfold Io;exact .ret trivial) λw _=> ?_) λ_=>good 11;exact .br (λ_=> .bind (ZE x ok id) λ_ _=> .br (λ_=>good 6) λ_=> .br (λ_=>good 5) λ_=>h17) λ_=> .br (λ_=>good 5) λ_=>h17
 refine .br (λh=> .ip (of_decide_eq_true h) (.get ?_ λe _ _=> ?_)) λ_=> .br (λ_=>good 0) λ_=>h18
 ·have h:=of_decide_eq_true h;omega
 ·rw[Ff];exact .br (λ_=> .br (λ_=>good 0) λ_=>h18) λ_=>good 11
theorem aad(x:qN)(ok:F9 1048576 x)(id m:Int):Tt (λy=>Kp x y.1/\(y.2.1=true->0<=m/\m<5)) (Iz x id m):=by
 obtain⟨b,b1,_,b2⟩:=Ly x ok id;have bad:Tt (λy:qN×Bool×Unit=>Kp x y.1/\(y.2.1=true->0<=m/\m<5)) (some (x,false,())):=.ret ⟨.self ok,nofun⟩;unfold Iz;rw[(Hz x ok).1,ak,b1,ak,Ff];refine .br (λe=> ?_) λ_=>bad;obtain⟨hv,h0,h5,hp⟩:=b2 e;have vc:=GK ok hv;refine .srv ok vc ⟨h0,h5⟩ λs s1 s2 s3=> .bind (M4 _ (Fz s2.1)) λy hy=> ?_;rw[(FP y.1 m (by have:=hy.1;unfold maxLen;omega)).1,ak,Ff];refine .br (λhm=> ?_) λ_=>bad;have hm:=hy.2 m (of_decide_eq_true hm);refine .bind (Xe ok vc ⟨h0,h5⟩ hm) λz _=> ?_;rw[Ff];refine .br (λ_=> .srv ok vc ⟨h0,h5⟩ λt t1 t2 t3=> .srv ok vc ⟨h0,h5⟩ λu _ u2 _=> ?_) λ_=>bad;obtain⟨n,n1,_⟩:=Ok u.config m (Fz u2.1);rw[n1,ak];have five: ∀ (i:Nat) (s:qQ),(x.servers.set i s).length=5:=λi s=>by rw[EL];exact vc.len
 refine .br (λ_=> ?_) λ_=> ?_
 ·rw[X2 t.log t2.2.1 (PZ t2 t3).2.2.2.2.2.1,ak];refine .ip (by show 0<=m/\m< (x.servers.length:Int);rw[vc.len];exact hm) (.at vc.len hm λw _ hw=> ?_);have hw:=ok.1.2 w hw;refine .get (by rw[five];omega) λw' _ hw'=> .ret ⟨.srvs (.self ok) (by rw[EL,EL]) λs hs=> ?_,λ_=>hm⟩;have all:=(Pe ok.1 (s:=⟨w.up,w.intact,w.version,w.epoch,w.config,((cutAt t.log:Nat):Int),w.log,w.commit,w.learned⟩) hw m.toNat)
  have hw':=all.2 w' hw';exact (Pe all (s:=⟨w'.up,w'.intact,w'.version,w'.epoch,w'.config,w'.first,t.log.drop (cutAt t.log),w'.commit,w'.learned⟩) ⟨hw'.1,by show List.length _<=_;rw[bR];have:=t2.2.1;omega,hw'.2.2⟩ m.toNat).2 s hs
 ·rw[Pr t2.2.1,ak];exact .at vc.len hm λw _ hw=> .ret ⟨(Kp.self ok).set (s:=⟨w.up,w.intact,w.version,w.epoch,w.config,w.first,t.log,w.commit,w.learned⟩) ⟨(ok.1.2 w hw).1,t2.2.1,(ok.1.2 w hw).2.2⟩ _,λ_=>hm⟩
theorem VS{l:List qQ}(h:l.length=5/\ ∀s∈l,F3 1048576 s){s:qQ}(hs:F3 1048576 s)(i:Nat): (l.set i s).length=5/\ ∀t∈l.set i s,F3 1048576 t:=⟨by rw[EL];exact h.1,λt ht=>(db ht).elim (h.2 t) λe=>e ▸ hs⟩
abbrev fz:Int×Unit×Unit×Unit×Int×Int×Int×Int×Int×Unit×Unit:=(0,(),(),(),0,0,0,0,0,(),())
abbrev fc(x:qN):Int×Unit×Unit×Unit×Int×Int×Int×Int×Int×Unit×Unit:=(x.now,(),(),(),x.master.activated,x.masterUp,x.lease.epoch,x.lease.holder,x.lease.ends,(),())
theorem VV(x:qN)(ok:F9 1048576 x)(id:Int):Tt (λy=>Kp x y.1) (He x id):=by
 obtain⟨b,b1,_,b2⟩:=Ly x ok id;unfold He;rw[(Hz x ok).1,ak,b1,ak,Ff];refine .br (λe=> ?_) λ_=> .ret (.self ok);obtain⟨hv,h0,h5,hp⟩:=b2 e;have vc:=GK ok hv;refine .srv ok vc ⟨h0,h5⟩ λs s1 s2 s3=> .bind (M4 _ (Fz s2.1)) λy hy=> ?_;have hl:y.1.length<=maxLen:=by have:=hy.1;unfold maxLen;omega
 refine .bind (.count (B:=It) (E:=λe=> ∃ (c:qN) (a:Bool),Kp x c/\e=((id,(),(),(),a,()),(fz,fc c,()),y.1,c.servers,c.sides,c.master.configs,c.places,())) y.1.length (λk (b:qN×Bool)=>((id,(),(),(),b.2,(k:Int),()),(fz,fc b.1,()),y.1,b.1.servers,b.1.sides,b.1.master.configs,b.1.places,())) (λ_ b=>Kp x b.1) (λb hb=> .end (EK _) (.ret ⟨b.1,b.2,hb,rfl⟩)) (λk b hk hb=> .go (EJ.2 hk) (.ip ⟨EI k,EJ.2 hk⟩ (.get (tn hk) λz _ hz=> .bind (aad b.1 hb.1 id z) λw hw=> .br (λ_=> .ret ⟨(w.1,w.2.1),by rw[kT hl hk],hb.trans hw.1⟩) λ_=> .ret ⟨(w.1,false),by rw[kT hl hk],hb.trans hw.1⟩))) (x,true) (.self ok)) ?_
 rintro _ ⟨c,a,hc,rfl⟩
 refine .bind (.count (B:=HU) (E:=λe=> ∃ (c:qN) (a:Bool),Kp x c/\e=(((),(),a,()),(fz,fc c,()),c.servers,c.sides,c.master.configs,c.places,())) y.1.length (λk (b:List qQ)=>((id,(),(),(),a,(k:Int),()),(fz,fc c,()),y.1,b,c.sides,c.master.configs,c.places,())) (λ_ b=>b.length=5/\ ∀s∈b,F3 1048576 s) (λb hb=> .end (EK _) (.ret ⟨⟨c.now,b,c.sides,c.master,c.masterUp,c.lease,c.places⟩,a,hc.srvs (by rw[hb.1,hc.2,vc.len]) hb.2,rfl⟩)) (λk b hk hb=> .go (EJ.2 hk) (.br (λ_=> .ip ⟨EI k,EJ.2 hk⟩ (.get (tn hk) λz _ hz=> .at hb.1 ⟨h0,h5⟩ λp _ _=> .at hb.1 (hy.2 z hz) λq _ hq=> .ret ⟨b.set z.toNat ⟨q.up,q.intact,q.version,q.epoch,q.config,q.first,q.log,((p.log.length:Nat):Int),q.learned⟩,by rw[kT hl hk],VS hb (s:=⟨q.up,q.intact,q.version,q.epoch,q.config,q.first,q.log,((p.log.length:Nat):Int),q.learned⟩) (hb.2 q hq) _⟩)) λ_=> .ret ⟨⟨c.now,b,c.sides,c.master,c.masterUp,c.lease,c.places⟩,a,hc.srvs (by rw[hb.1,hc.2,vc.len]) hb.2,rfl⟩)) c.servers ⟨hc.2.trans vc.len,hc.1.1.2⟩) ?_
 rintro _ ⟨d,a',hd,rfl⟩
 exact .ret hd
theorem Yk(x:qN)(ok:F9 1048576 x)(id:Int)(o:Op):Tt (λy=>Kp x y.1) (LA x id o):=by
 unfold LA;refine .bind (Yg x ok id o) λy hy=> ?_;rw[Ff];refine .br (λe=> ?_) λ_=> .ret hy.1;obtain⟨h5,hid⟩:=hy.2 (eq_of_beq e)
 have same: ∀ {α:Type} {Q:α->Prop} {l:List qQ} {k:qQ->qQ->Option α},l.length=5->(∀s∈l,F3 1048576 s)->(∀s,F3 1048576 s->Tt Q (k s s))->Tt Q (iteP (0<=id/\id< (l.length:Int)) ((l[id.toNat]?).bind λa=>(l[id.toNat]?).bind λb=>k a b) none):=λh5 hs h=> .at h5 hid λs e1 e2=>by rw[e1,ak];exact h s (hs s e2)
 have Bm: ∀s:qQ,(s.log.drop 0).take s.log.length=s.log:=λs=>by rw[cF,EM]
 refine same h5 hy.1.1.1.2 λs hs=> .ip (by omega) ?_;rw[Bm];refine .bind (YP _ _ _ (Fw hs.2.1)) λi _=> .at h5 hid λt _ _=> .br (λ_=> .bind (VV y.1 hy.1.1 id) λz hz=> ?_) λ_=>same h5 hy.1.1.1.2 λs hs=> .ip (by omega) ?_
 ·rw[Ff];refine .br (λ_=>same (hz.2.trans h5) hz.1.1.2 λs hs=> .ip (by omega) ?_) λ_=> .ret (hy.1.trans hz);rw[Bm];exact .bind (Wn _ _ (Fw hs.2.1)) λ_ _=> .ret (hy.1.trans hz)
 ·rw[Bm];exact .bind (Wn _ _ (Fw hs.2.1)) λ_ _=> .ret hy.1
end
section
theorem KA(x:qN)(ok:F9 1048576 x):Tt (λy=>y.1=true->VC x) (Fg x):=by obtain⟨v,v1,_⟩:=GQ x ok;exact⟨(v,()),v1,λe=>GK ok (by rw[v1,show v=true from e])⟩
theorem VW(x:qN)(ok:F9 1048576 x)(e:Int): ∃c b,G4 x.master e=some (c,b,())/\GV maxLen c/\(VC x->c.replicas.length<=5/\c.witnesses.length<=5/\(∀z∈c.replicas,0<=z/\z<5)/\(∀z∈c.witnesses,0<=z/\z<5)/\(b=true->Fm c=some (true,())/\0<=c.primary/\c.primary<5)/\Mb c.replicas):=by
 obtain⟨c,b,h1,_,h2⟩:=Q9 x.master e ok.2.2.1;refine⟨c,b,h1,h2,λvc=> ?_⟩;obtain⟨c',b',g1,_,g2,_,g3,g4⟩:=Ra x.master e ok.2.2.1 vc.ml;rw[h1] at g1;obtain⟨rfl,rfl⟩:c=c'/\b=b':=by simpa using g1
 cases b with
 |false=>rw[g4 rfl];exact⟨bH _,bH _,nofun,nofun,nofun,λk hk=>by simp at hk⟩
 |true=>obtain⟨a1,a2,a3,_⟩:=NK g2 (g3 rfl).1;exact⟨a1.len,a2.len,KB a1,KB a2,λ_=>⟨(g3 rfl).1,KB a1 _ a3⟩,a1⟩
theorem U5(x:qN)(ok:F9 1048576 x): ∃c b,FU x.master=some (c,b,())/\GV maxLen c/\(VC x->c.replicas.length<=5/\c.witnesses.length<=5/\(∀z∈c.replicas,0<=z/\z<5)/\(∀z∈c.witnesses,0<=z/\z<5)/\(b=true->Fm c=some (true,())/\0<=c.primary/\c.primary<5)/\Mb c.replicas):=by obtain⟨c,b,h1,h2⟩:=VW x ok x.master.activated;exact⟨c,b,by unfold FU;rw[h1];rfl,h2⟩
theorem U0(s:qQ)(e:Int)(h:F3 1048576 s):Tt (λy=>F3 1048576 y.1) (Hn s e):=by unfold Hn;rw[(Q4 s h).1,ak,F2,ak,Ff];exact .br (λ_=> .br (λ_=> .ret h) λ_=> .br (λ_=> .ret h) λ_=> .ret h) λ_=> .ret h
theorem aag(x:qN)(ok:F9 1048576 x)(id e:Int):Tt (λy=>Kp x y.1) (Jb x id e):=by
 obtain⟨c,b,c1,c2,c3⟩:=U5 x ok;unfold Jb;rw[(Hz x ok).1,ak,c1,ak];refine .bind (KA x ok) λv hv=> ?_;rw[Ff];refine .br (λh=> ?_) λ_=> .ret (.self ok);have vc:=hv h;rw[Ff];refine .br (λ_=> ?_) λ_=> .ret (.self ok);rw[F2,ak,Ff];refine .br (λ_=> .bind (M4 c c2) λm hm=> ?_) λ_=> .ret (.self ok);have hl:m.1.length<=maxLen:=by have:=hm.1;unfold maxLen;omega
 refine .bind (.count (B:=Jj) (E:=λe=> ∃S:List qQ,(S.length=5/\ ∀s∈S,F3 1048576 s)/\e=(((),(),()),(fz,fc x,()),S,x.sides,x.master.configs,x.places,())) m.1.length (λk (S:List qQ)=>((id,e,(),(),(),(),(k:Int),()),(fx x,fz,fc x,()),m.1,S,x.sides,x.master.configs,x.places,())) (λ_ S=>S.length=5/\ ∀s∈S,F3 1048576 s) (λS hS=> .end (EK _) (.ret ⟨S,hS,rfl⟩)) (λk S hk hS=> .go (EJ.2 hk) (.ip ⟨EI k,EJ.2 hk⟩ (.get (tn hk) λz hz' hz=> .srv ok vc (hm.2 z hz) λs _ _ _=> .br (λ_=> .ip ⟨EI k,EJ.2 hk⟩ (.get (tn hk) λz2 _ hz2=> .bind (U2 ok vc id z2) λ_ _=> .br (λ_=> .ip ⟨EI k,EJ.2 hk⟩ (.get (tn hk) λz3 _ hz3=> .ip ⟨EI k,EJ.2 hk⟩ (.get (tn hk) λz4 _ hz4=> .srv ok vc (hm.2 z4 hz4) λt _ t2 _=> .bind (U0 t e t2) λu hu=> .at hS.1 (hm.2 z3 hz3) λ_ _ _=> .ret ⟨S.set z3.toNat u.1,by rw[kT hl hk],VS hS hu _⟩))) λ_=> .ret ⟨S,by rw[kT hl hk],hS⟩)) λ_=> .ret ⟨S,by rw[kT hl hk],hS⟩))) x.servers ⟨vc.len,ok.1.2⟩) ?_
 rintro _ ⟨S,hS,rfl⟩
 exact .ret ((Kp.self ok).srvs (by rw[hS.1,vc.len]) hS.2)
section
variable {x:qN} (ok:F9 1048576 x) (vc:VC x) (id:Int)
include ok vc
theorem Ya:Tt (λy=>y.1.length<=5/\ ∀z∈y.1,0<=z/\z<5) (J1 x id):=by
 obtain⟨c,d,c1,c2,c3⟩:=U5 x ok;obtain⟨r5,_,inr,_⟩:=c3 vc;have rm:c.replicas.length<=maxLen:=by unfold maxLen;omega
 unfold J1;rw[c1,ak];refine .bind (.count (B:=JJ) (E:=λe=>e.2.2.1.length<=5/\ ∀z∈e.2.2.1,0<=z/\z<5) c.replicas.length (λk (b:List Int)=>((id,(),(),(),d,(k:Int),()),(fx x,(c.epoch,c.primary,(),(),()),()),b,c.replicas,c.witnesses,())) (λk b=>b.length<=k/\ ∀z∈b,0<=z/\z<5) (λb hb=> .end (EK _) (.ret ⟨ba hb.1 r5,hb.2⟩)) (λk b hk hb=> ?_) [] ⟨az _,nofun⟩) λy hy=> .ret hy;have ex:b.length<=5/\ ∀z∈b,0<=z/\z<5:=⟨by omega,hb.2⟩
 have st:b.length<=k+1/\ ∀z∈b,0<=z/\z<5:=⟨by omega,hb.2⟩
 refine .go (EJ.2 hk) (.br (λ_=> .bind (KA x ok) λ_ _=> .br (λ_=> ?_) λ_=> .ret ex) λ_=> .ret ex);rw[F2,ak];refine .br (λ_=> .ip ⟨EI k,EJ.2 hk⟩ (.get (tn hk) λz _ hz=> .srv ok vc (inr z hz) λs _ _ _=> .br (λ_=> .br (λ_=> .ip ⟨EI k,EJ.2 hk⟩ (.get (tn hk) λz2 _ hz2=> .bind (U2 ok vc id z2) λ_ _=> .br (λ_=> .ip ⟨EI k,EJ.2 hk⟩ (.get (tn hk) λz3 _ hz3=> .ip ?_ (.ret ⟨b++ [z3],by rw[kT rm hk],?_⟩))) λ_=> .ret ⟨b,by rw[kT rm hk],st⟩)) λ_=> .ret ⟨b,by rw[kT rm hk],st⟩) λ_=> .ret ⟨b,by rw[kT rm hk],st⟩)) λ_=> .ret ex
 ·show (b++ [z3]).length*8<=2 ^ 40;rw[be,cn];omega
 ·exact⟨by rw[be,cn];omega,λy hy=>(bi.1 hy).elim (hb.2 y) λh=>by rw[aJ.1 h];exact inr z3 hz3⟩
theorem Z0:Tt (λy=>y.1= -1\/0<=y.1/\y.1<5) (JS x id):=by
 unfold JS;refine .bind (Ya ok vc id) λl hl=> ?_;have lm:l.1.length<=maxLen:=by have:=hl.1;unfold maxLen;omega
 refine .bind (.count (B:=JF) (E:=λe=>e.1.1= -1\/0<=e.1.1/\e.1.1<5) l.1.length (λk (b:Int)=>(((),b,(),(k:Int),()),(fx x,()),l.1,())) (λ_ b=>b= -1\/0<=b/\b<5) (λb hb=> .end (EK _) (.ret hb)) (λk b hk hb=> ?_) (-1) (.inl rfl)) λy hy=> .ret hy;refine .go (EJ.2 hk) (.br (λ_=> .ip ⟨EI k,EJ.2 hk⟩ (.get (tn hk) λz _ hz=> .ret ⟨z,by rw[kT lm hk],.inr (hl.2 z hz)⟩)) λhn=> .ip ⟨EI k,EJ.2 hk⟩ (.get (tn hk) λz _ hz=> .srv ok vc (hl.2 z hz) λs _ _ _=> .srv ok vc (a:=b) ?_ λt _ _ _=> .br (λ_=> .ip ⟨EI k,EJ.2 hk⟩ (.get (tn hk) λz2 _ hz2=> .ret ⟨z2,by rw[kT lm hk],.inr (hl.2 z2 hz2)⟩)) λ_=> .ret ⟨b,by rw[kT lm hk],hb⟩));have hn: ¬b<0:=of_decide_eq_false hn;omega
omit ok vc in
theorem Wz(f:Int)(l:List sf)(hl:l.length<=maxLen):Tt (λy=>y.1=true->0<=f/\l.length<=3) (MG f l):=by obtain⟨b,b1,b2⟩:=NV hl;unfold MG;rw[b1,ak];refine .br (λ_=> .br (λh=> ?_) λ_=> .ret nofun) λ_=> .ret nofun;have h: (l.length:Int)<=3:=of_decide_eq_true h;rw[F2,ak];refine .br (λw=> ?_) λ_=> .ret nofun;have w:=Fl.1 w;exact .br (λ_=> .ret λ_=>⟨w.1,by omega⟩) λ_=> .ret λ_=>⟨w.1,by omega⟩
omit ok vc in
theorem Z4(a:List sf)(f:Int)(t:List sf)(ha:a.length<=1048576)(ht:t.length<=1048576):Tt (λy=>y.1.length<=19) (LC a f t):=by
 obtain⟨b,b1,b2⟩:=NV (Fw ha);unfold LC;rw[b1,ak,Ff];refine .br (λe=> ?_) λ_=> .ret (bH _);have h16:=b2 e;refine .bind (Wz f t (Fw ht)) λg hg=> ?_;rw[Ff];refine .br (λe=> ?_) λ_=> .ret (bH _);obtain⟨f0,t3⟩:=hg e;refine .br (λ_=> .ret (bH _)) λhn=> ?_;have hn: ¬f>(a.length:Int):=of_decide_eq_false hn;obtain⟨n,n1,n2,n3,_⟩:=S4 ((a.drop f.toNat).take ((a.length:Int).toNat-f.toNat)) t (ba (by rw[ci,bR];omega) (Fw ha));refine .ip (by omega) ?_;rw[n1,ak,of (n:=(a.length:Int)-f) (by omega) (by omega)];refine .br (λ_=> .ret (bH _)) λ_=> ?_;rw[Pr ha,ak]
 have hl: (a++((t.drop (n:Int).toNat).take ((t.length:Int).toNat-(n:Int).toNat))).length<=19:=by rw[be,ci,bR];omega
 refine .ip (by omega) (.ip (ba (bg 56 hl) (by omega)) ?_);obtain⟨d,d1,_⟩:=NV (l:=a++((t.drop (n:Int).toNat).take ((t.length:Int).toNat-(n:Int).toNat))) (by unfold maxLen;omega);rw[show FZ _=_ from d1,ak,Ff];exact .br (λ_=> .ret hl) λ_=> .ret (bH _)
omit ok vc in
theorem ZZ(s:qQ)(id:Int)(h:F3 1048576 s)(hf:0<=s.first/\s.first<=16/\s.log.length<=16):Tt (λy=>y.1.length<=1048576) (ML s id):=by obtain⟨n,n1,_⟩:=Ok s.config id (Fz h.1);unfold ML;rw[n1,ak,Pr h.2.2,ak];have fm:Tt (λy:List sf×Unit=>y.1.length<=1048576) ((Fs s).bind λy3=>br (decide ((y3.1.length:Int)>(s.learned.length:Int))) (some (y3.1,())) (some (s.learned,()))):=.bind (O6 s h hf) λy hy=> .br (λ_=> .ret (by show y.1.length<=_;omega)) λ_=> .ret h.2.2;exact .br (λ_=>fm) λ_=> .br (λ_=>fm) λ_=> .ret h.2.2
theorem ZU{c:om}{w:qQ}(hw:F3 1048576 w)(j:Int)(d:Bool)(b:List sf×Bool)(hb:b.1.length<=19):Tt (λe=> ∃r:List sf×Bool,r.1.length<=19/\e=((id,(),(),r.2,(),d,j,()),(fx x,(c.epoch,c.primary,(),(),()),()),r.1,c.replicas,c.witnesses,())) (NC ((id,(),(),b.2,(),d,j,(),0,()),(fx x,(c.epoch,c.primary,(),(),()),fsv w,()),b.1,c.replicas,c.witnesses,())):=by
 refine .count (B:=Jk) (E:=λe=> ∃r:List sf×Bool,r.1.length<=19/\e=((id,(),(),r.2,(),d,j,()),(fx x,(c.epoch,c.primary,(),(),()),()),r.1,c.replicas,c.witnesses,())) 5 (λk (b:List sf×Bool)=>((id,(),(),b.2,(),d,j,(),(k:Int),()),(fx x,(c.epoch,c.primary,(),(),()),fsv w,()),b.1,c.replicas,c.witnesses,())) (λ_ b=>b.1.length<=19) (λb hb=> .end (EK _) (.ret ⟨b,hb,rfl⟩)) (λk b hk hb=> ?_) b hb;have hkk:0<=(k:Int)/\(k:Int)<5:=⟨EI k,EJ.2 hk⟩
 have sw:=kT (n:=5) (by decide) hk;refine .go hkk.2 (.srv ok vc hkk λs _ _ _=> ?_);dsimp only;rw[sw,Ff];refine .br (λ_=> .bind (U2 ok vc id k) λy _=> ?_) λ_=> .ret ⟨b,rfl,hb⟩;rw[Ff];refine .br (λ_=> .srv ok vc hkk λt _ t2 t3=> .bind (ZZ t k t2 (T0 t2 t3)) λy hy=> .bind (Z4 y.1 w.first w.log hy hw.2.1) λz hz=> .br (λ_=> ?_) λ_=> .ret ⟨b,rfl,hb⟩) λ_=> .ret ⟨b,rfl,hb⟩;rw[Ff];exact .br (λ_=> .br (λ_=> .ret ⟨(z.1,true),rfl,hz⟩) λ_=> .ret ⟨b,rfl,hb⟩) λ_=> .ret ⟨(z.1,true),rfl,hz⟩
theorem Yf:Tt (λy=>y.1.length<=19) (J2 x id):=by
 obtain⟨c,d,c1,c2,c3⟩:=U5 x ok;obtain⟨_,r5,_,inw,_⟩:=c3 vc;have rm:c.witnesses.length<=maxLen:=by unfold maxLen;omega
 unfold J2;rw[c1,ak];refine .bind (.count (B:=JK) (E:=λe=>e.2.2.1.length<=19) c.witnesses.length (λk (b:List sf×Bool)=>((id,(),(),b.2,(),d,(k:Int),()),(fx x,(c.epoch,c.primary,(),(),()),()),b.1,c.replicas,c.witnesses,())) (λ_ b=>b.1.length<=19) (λb hb=> .end (EK _) (.ret hb)) (λk b hk hb=> ?_) ([],false) (bH _)) λy hy=> .ret hy;refine .go (EJ.2 hk) (.br (λ_=> .bind (KA x ok) λ_ _=> .br (λ_=> ?_) λ_=> .ret hb) λ_=> .ret hb);rw[F2,ak];refine .br (λ_=> .ip ⟨EI k,EJ.2 hk⟩ (.get (tn hk) λz _ hz=> .srv ok vc (inw z hz) λs _ s2 _=> ?_)) λ_=> .ret hb;have sw:=kT rm hk;rw[Ff];refine .br (λ_=> ?_) λ_=> .ret ⟨b,by rw[sw],hb⟩;rw[Ff];refine .br (λ_=> .ip ⟨EI k,EJ.2 hk⟩ (.get (tn hk) λz2 _ _=> .bind (U2 ok vc id z2) λy _=> ?_)) λ_=> .ret ⟨b,by rw[sw],hb⟩;rw[Ff];refine .br (λ_=> .bind (ZU ok vc id (c:=c) s2 k d b hb) ?_) λ_=> .ret ⟨b,by rw[sw],hb⟩
 rintro _ ⟨r,hr,rfl⟩
 exact .ret ⟨r,by rw[<-sw],hr⟩
theorem YL:Tt (λy=>y.1.length<=1048576) (KW x id):=by unfold KW;refine .bind (KA x ok) λv _=> ?_;rw[Ff];refine .br (λ_=> ?_) λ_=> .ret (bH _);rw[F2,ak,Ff];refine .br (λ_=> .br (λ_=> .ret (bH _)) λ_=> .bind (Z0 ok vc id) λn hn=> .br (λh=> ?_) λ_=> .bind (Yf ok vc id) λy hy=> .ret (by show y.1.length<=_;omega)) λ_=> .ret (bH _);have h:n.1≥0:=of_decide_eq_true h;refine .srv ok vc (by omega) λs _ s2 _=> ?_;rw[Pr s2.2.1];exact .ret s2.2.1
end
theorem Q6(l:List sf)(hl:l.length<=maxLen):Tt T1 (G5 l):=by unfold G5;refine .bind (.count (B:=IQ) (E:=λ_=>True) l.length (λk (_:Unit)=>((l,(k:Int),()),(),())) (λ_ _=>True) (λ_ _=> .end (EK _) (.ret trivial)) (λk _ hk _=> .go (EJ.2 hk) (.ip (EI k) (.get (tn hk) λe _ _=> .bind (Q:=T1) (by unfold Io;exact .ret trivial) λ_ _=> .br (λ_=> .ret trivial) λ_=> .ret ⟨(),by rw[kT hl hk],trivial⟩))) () trivial) λy _=> ?_;cases y<;>exact .ret trivial
theorem Uh(s:qQ)(c:om)(id:Int)(l:List sf)(hs:F3 1048576 s)(hc:GV 1048576 c)(hl:l.length<=1048576):Tt (λy=>F3 1048576 y.1) (Hf s c id l):=by
 obtain⟨n,n1,_⟩:=Ok c id (Fz hc);obtain⟨b,b1,_⟩:=NV (Fw hl);obtain⟨e,e1,_⟩:=MV l (Fw hl);unfold Hf;simp only[n1,b1,e1,(Q4 s hs).1,(Oq c hc).1,Pr hl,F2,ak,Ff,W9 l hl];have hk:cutAt l<=l.length:=Nat.sub_le _ _
 have hl2: ((l.drop (cutAt l)).take ((l.length:Int).toNat-cutAt l)).length<=1048576:=by rw[ci,bR];omega
 refine .br (λ_=> .ret hs) λ_=> .br (λ_=> .br (λ_=> .br (λ_=> .br (λ_=> .ret hs) λ_=> .br (λ_=> .bind (Q6 l (Fw hl)) λ_ _=> .br (λ_=> .ret hs) λ_=> ?_) λ_=> ?_) λ_=> .ret hs) λ_=> .ret hs) λ_=> .ret hs
 all_goals
  exact .br (λ_=> .ip (by omega) (.bind (Q:=λy=>y.1.length<=1048576) ⟨_,Pr hl2,hl2⟩ λy hy=> .ret ⟨hc,hy,bH _⟩)) λ_=> .ret ⟨hc,hl,bH _⟩
theorem Q7(m:kB)(h:Mw 1048576 m)(e:Int):Tt (λy=>Mw 1048576 y.1/\y.1.configs.length=m.configs.length) (G1 m e):=by obtain⟨b,b1,_⟩:=masterLog m (IW h);unfold G1;rw[(S6 m h).1,ak,b1,ak,Ff];refine .br (λ_=> ?_) λ_=> .ret ⟨h,rfl⟩;rw[Ff];exact .br (λ_=> .br (λ_=> .ret ⟨h,rfl⟩) λ_=> .ret ⟨h,rfl⟩) λ_=> .ret ⟨h,rfl⟩
theorem P1(x:qN)(ok:F9 1048576 x):Tt (λy=>Kp x y.1) (Jp x):=by
 obtain⟨c,b,c1,c2,c3⟩:=VW x ok (x.master.configs.length:Int);unfold Jp Lk;rw[(Hz x ok).1,ak,c1,ak,ak];refine .bind (KA x ok) λv hv=> ?_;rw[Ff];refine .br (λh=> ?_) λ_=> .ret (.self ok);have vc:=hv h;rw[Ff];refine .br (λhb=> .br (λ_=> .ret (.self ok)) λ_=> .br (λ_=> .ret (.self ok)) λ_=> ?_) λ_=> .ret (.self ok);obtain⟨r5,w5,_,_,hp,_⟩:=c3 vc;have hp:=(hp hb).2;have hc:GV 1048576 c:=⟨by omega,by omega⟩
 have s5:=L9 (Fw ok.2.1) vc.sides;refine .srv ok vc hp λs _ _ _=> ?_;rw[Ff];refine .br (λ_=> .ip hp.1 (.get (by show c.primary.toNat<x.sides.length;omega) λsd _ _=> ?_)) λ_=> .ret (.self ok);rw[Ff];refine .br (λ_=> ?_) λ_=> .ret (.self ok);obtain⟨o,o1,_⟩:=Qw x.lease x.now;rw[o1,ak,Ff];refine .br (λ_=> .bind (aag x ok c.primary c.epoch) λy hy=> .bind (YL ok vc c.primary) λl hl=> ?_) λ_=> .ret (.self ok);rw[Ff];refine .br (λ_=> .bind (M4 c c2) λm hm=> ?_) λ_=> .ret hy;have ml:m.1.length<=maxLen:=by have:=hm.1;unfold maxLen;omega
 have hyS:y.1.servers.length=5/\ ∀s∈y.1.servers,F3 1048576 s:=⟨hy.2.trans vc.len,hy.1.1.2⟩
 refine .bind (.count (B:=KC) (E:=Sum.elim (λe=> ∃n:Int,e=(((),(),n,(),(),(),(),()),(fx x,fc y.1,(fc y.1,(c.epoch,c.primary,(),(),()),())),l.1,m.1,y.1.servers,y.1.sides,y.1.master.configs,y.1.places,c.replicas,c.witnesses,())) λe=>e.2=((fx x,fz,fc y.1,(c.epoch,c.primary,(),(),()),()),l.1,m.1,y.1.servers,y.1.sides,y.1.master.configs,y.1.places,c.replicas,c.witnesses,())) m.1.length (λk (_:Unit)=>(((),(),(),(),(),(),(k:Int),()),(fx x,fz,fc y.1,(c.epoch,c.primary,(),(),()),()),l.1,m.1,y.1.servers,y.1.sides,y.1.master.configs,y.1.places,c.replicas,c.witnesses,())) (λ_ _=>True) (λ_ _=> .end (EK _) (.ret rfl)) (λk _ hk _=> ?_) () trivial) λe he=> ?_
 ·refine .go (EJ.2 hk) (.ip ⟨EI k,EJ.2 hk⟩ (.get (tn hk) λz _ hz=> .srv ok vc (hm.2 z hz) λs _ _ _=> ?_));rw[Ff];refine .br (λ_=> .ip ⟨EI k,EJ.2 hk⟩ (.get (tn hk) λz2 _ hz2=> .ip (hm.2 z2 hz2).1 (.get (by have:=hm.2 z2 hz2;show z2.toNat<x.sides.length;omega) λw _ _=> ?_))) λ_=> .ret ⟨_,rfl⟩;rw[Ff];exact .br (λ_=> .ret ⟨(),by rw[kT ml hk],trivial⟩) λ_=> .ret ⟨_,rfl⟩
 cases e with
 |inl e=>obtain⟨n,rfl⟩:=he;exact .ret hy
 |inr e=>
  show Tt _ ((OO (((),(),(),(),(),(),0,()),e.2)).bind _);rw[show e.2=_ from he];refine .bind (.count (B:=KD) (E:=Sum.elim (λe=> ∃n:Int,e=(((),(),n,(),(),(),(),()),(fx x,fc y.1,(fc y.1,(c.epoch,c.primary,(),(),()),())),l.1,m.1,y.1.servers,y.1.sides,y.1.master.configs,y.1.places,c.replicas,c.witnesses,())) λe=>e.2=((fx x,fz,fc y.1,(c.epoch,c.primary,(),(),()),()),l.1,m.1,y.1.servers,y.1.sides,y.1.master.configs,y.1.places,c.replicas,c.witnesses,())) m.1.length (λk (_:Unit)=>(((),(),(),(),(),(),(k:Int),()),(fx x,fz,fc y.1,(c.epoch,c.primary,(),(),()),()),l.1,m.1,y.1.servers,y.1.sides,y.1.master.configs,y.1.places,c.replicas,c.witnesses,())) (λ_ _=>True) (λ_ _=> .end (EK _) (.ret rfl)) (λk _ hk _=> .go (EJ.2 hk) (.ip ⟨EI k,EJ.2 hk⟩ (.get (tn hk) λz _ hz=> .srv ok vc (hm.2 z hz) λs _ _ _=> .br (λ_=> .bind (Q6 l.1 (Fw hl)) λ_ _=> .br (λ_=> .ret ⟨_,rfl⟩) λ_=> .ret ⟨(),by rw[kT ml hk],trivial⟩) λ_=> .ret ⟨(),by rw[kT ml hk],trivial⟩))) () trivial) λe he=> ?_;cases e with
  |inl e=>obtain⟨n,rfl⟩:=he;exact .ret hy
  |inr e=>
   show Tt _ ((OP (((),(),(),(),(),(),0,()),e.2)).bind _);rw[show e.2=_ from he];refine .bind (.count (B:=KE) (E:=λe=> ∃S:List qQ,(S.length=5/\ ∀s∈S,F3 1048576 s)/\e=(((),(),(),(),()),(fx x,fz,fc y.1,(c.epoch,c.primary,(),(),()),()),S,y.1.sides,y.1.master.configs,y.1.places,c.replicas,c.witnesses,())) m.1.length (λk (S:List qQ)=>(((),(),(),(),(),(),(k:Int),()),(fx x,fz,fc y.1,(c.epoch,c.primary,(),(),()),()),l.1,m.1,S,y.1.sides,y.1.master.configs,y.1.places,c.replicas,c.witnesses,())) (λ_ S=>S.length=5/\ ∀s∈S,F3 1048576 s) (λS hS=> .end (EK _) (.ret ⟨S,hS,rfl⟩)) (λk S hk hS=> ?_) y.1.servers hyS) ?_
   ·refine .go (EJ.2 hk) (.ip ⟨EI k,EJ.2 hk⟩ (.get (tn hk) λz _ hz=> .ip ⟨EI k,EJ.2 hk⟩ (.get (tn hk) λz2 _ hz2=> .at hS.1 (hm.2 z2 hz2) λs e' hs=> .ip ⟨EI k,EJ.2 hk⟩ (.get (tn hk) λz3 _ _=> ?_))));dsimp only;simp only[e',ak,cF,EM,aM];refine .ip (az _) (.ip (az _) (.ip (az _) (.ip (az _) (.bind (Uh s c z3 l.1 (hS.2 s hs) hc hl) λu hu=> .at hS.1 (hm.2 z hz) λ_ _ _=> .ret ⟨S.set z.toNat u.1,by rw[kT ml hk],VS hS hu _⟩))))
   ·rintro _ ⟨S,hS,rfl⟩
    refine .bind (Q7 x.master ok.2.2.1 c.epoch) λw hw=> .ret ?_;exact⟨⟨⟨by show S.length<=_;rw[hS.1];decide,hS.2⟩,hy.1.2.1,hw.1,hy.1.2.2.2⟩,by show S.length=_;rw[hS.1,vc.len]⟩
end
section
theorem QH(m:kB)(h:Mw 1048576 m)(c:om)(hc:GV 1048576 c):Tt (λy=>Mw 1048576 y.1/\y.1.configs.length<=m.configs.length+1) (Hg m c):=by
 have self:Mw 1048576 m/\m.configs.length<=m.configs.length+1:=⟨h,cM _⟩
 obtain⟨b,b1,_⟩:=masterLog m (IW h);obtain⟨d,d1,_⟩:=IJ c (Fz hc);unfold Hg;rw[(S6 m h).1,ak,b1,ak,Ff];refine .br (λe=> ?_) λ_=> .ret self;subst e;have hl:=Z9 h b1;rw[d1,ak,Ff];refine .br (λ_=> ?_) λ_=> .ret self;rw[Ff];refine .br (λ_=> ?_) λ_=> .ret self;rw[(Oq c hc).1,ak];have h2: (m.configs++ [c]).length<=21:=by rw[be,cn];omega
 exact .ip (ba (bg 64 h2) (by omega)) (.ret ⟨⟨ba h2 (by omega),λd hd=>(bi.1 hd).elim (h.2 d) λe=>by rw[aJ.1 e];exact hc⟩,by show (m.configs++ [c]).length<=_;rw[be];exact az _⟩)
theorem Qh(x:qN)(ok:F9 1048576 x)(c:om)(hc:GV 1048576 c):Tt (λy=>Kp x y.1) (HB x c):=by unfold HB;rw[(Hz x ok).1,ak];refine .bind (KA x ok) λv _=> ?_;rw[Ff];refine .br (λ_=> .br (λ_=> .ret (.self ok)) λ_=> .bind (QH x.master ok.2.2.1 c hc) λm hm=> ?_) λ_=> .ret (.self ok);rw[Ff];exact .br (λ_=> .ret ⟨⟨ok.1,ok.2.1,hm.1,ok.2.2.2⟩,rfl⟩) λ_=> .ret (.self ok)
theorem Zz(x:qN)(ok:F9 1048576 x)(n:Int):Tt (λy=>Kp x y.1) (Kl x n):=by unfold Kl;rw[(Hz x ok).1,ak];refine .bind (KA x ok) λv _=> ?_;rw[Ff];refine .br (λ_=> ?_) λ_=> .ret (.self ok);rw[F2,ak,Ff];exact .br (λ_=> .ret ⟨ok,rfl⟩) λ_=> .ret (.self ok)
theorem YQ(x:qN)(ok:F9 1048576 x)(id:Int):Tt (λy=>y.1=true->VC x/\0<=id/\id<5) (Iq x id):=by obtain⟨b,b1,_,b2⟩:=S7 x id ok;exact⟨_,b1,λe=>⟨GK ok (b2 e).1,(b2 e).2⟩⟩
theorem Yd(x:qN)(ok:F9 1048576 x)(id:Int):Tt (λy=>Kp x y.1) (H8 x id):=by unfold H8;rw[(Hz x ok).1,ak];refine .bind (YQ x ok id) λv hv=> ?_;rw[Ff];refine .br (λe=> ?_) λ_=> .ret (.self ok);obtain⟨vc,hid⟩:=hv e;refine .srv ok vc hid λs _ _ _=> .br (λ_=> .ret (.self ok)) λ_=> .srv ok vc hid λt _ _ _=> ?_;rw[Ff];exact .br (λ_=> .at vc.len hid λu _ hu=> .ret ((Kp.self ok).set (s:=⟨u.up,u.intact,2,u.epoch,u.config,u.first,u.log,u.commit,u.learned⟩) (ok.1.2 u hu) _)) λ_=> .ret (.self ok)
theorem Va(x:qN)(ok:F9 1048576 x)(id:Int):Tt (λy=>Kp x y.1) (Hm x id):=by
 unfold Hm;rw[(Hz x ok).1,ak];refine .bind (YQ x ok id) λv hv=> ?_;rw[Ff];refine .br (λe=> ?_) λ_=> .ret (.self ok);obtain⟨vc,hid⟩:=hv e;refine .srv ok vc hid λs _ _ _=> .br (λ_=> .ret (.self ok)) λ_=> .srv ok vc hid λt _ _ _=> ?_;rw[Ff];refine .br (λ_=> .srv ok vc hid λs _ s2 _=> .bind (Q:=T1) ?_ λ_ _=> .br (λ_=> .ret (.self ok)) λ_=> .bind (.count (B:=Hi) (E:=Sum.elim (λe=> ∃n:Int,e=((id,(),n,(),()),(fc x,fc x,()),x.servers,x.sides,x.master.configs,x.places,())) λe=>e=((id,(),(),(),()),(fz,fc x,()),x.servers,x.sides,x.master.configs,x.places,())) x.servers.length (λk (_:Unit)=>((id,(),(),(),(),(k:Int),()),(fx x,fz,fc x,fsv s,()),x.servers,x.sides,x.master.configs,x.places,())) (λ_ _=>True) (λ_ _=> .end (EK _) (.ret rfl)) (λk _ hk _=> ?_) () trivial) λe he=> ?_) λ_=> .ret (.self ok)
 ·unfold HO;exact .bind (Q6 _ (Fw s2.2.2)) λ_ _=> .ret trivial
 ·have sw:=kT (Fw ok.1.1) hk;refine .go (EJ.2 hk) ?_;rw[show Ip _=_ from OA s.config (Fz s2.1),ak,Ff];refine .br (λ_=> .ret rfl) λ_=> .ip (EI k) (.get (tn hk) λt _ ht=> ?_);have ht:=ok.1.2 t ht;rw[show Gm _ _=_ from (Hj t.config s.config (Fz ht.1)).1,ak];refine .br (λ_=> .ip (EI k) (.get (tn hk) λu _ hu=> .bind (Q:=T1) ?_ λ_ _=> .br (λ_=> .ret ⟨_,rfl⟩) λ_=> .ret ⟨(),by rw[sw],trivial⟩)) λ_=> .ret ⟨(),by rw[sw],trivial⟩;unfold HO;exact .bind (Q6 _ (Fw (ok.1.2 u hu).2.1)) λ_ _=> .ret trivial
 cases e with
 |inl e=>obtain⟨n,rfl⟩:=he;exact .ret (.self ok)
 |inr e=>obtain rfl:=he;exact .at vc.len hid λu _ hu=> .ret ((Kp.self ok).set (s:=⟨u.up,u.intact,1,u.epoch,u.config,u.first,u.log,u.commit,u.learned⟩) (ok.1.2 u hu) _)
theorem X4(x:qN)(ok:F9 1048576 x):Tt T1 (HP x):=by
 obtain⟨c,b,c1,c2,c3⟩:=U5 x ok;unfold HP;rw[c1,ak];refine .bind (KA x ok) λv hv=> ?_;rw[Ff];refine .br (λh=> ?_) λ_=> .ret trivial;have vc:=hv h;rw[Ff];refine .br (λhb=> ?_) λ_=> .ret trivial;obtain⟨_,_,_,_,hp,_⟩:=c3 vc;have hp:=(hp hb).2;refine .srv ok vc hp λs _ s2 _=> ?_;obtain⟨d,d1,_⟩:=Ju s c.primary s2;rw[d1,ak,Ff];refine .br (λ_=> .srv ok vc hp λt _ _ _=> ?_) λ_=> .ret trivial;rw[Ff];refine .br (λ_=> .bind (M4 c c2) λm hm=> .bind (.count (B:=HV) (E:=λ_=>True) m.1.length (λk (_:Unit)=>(((),(),(),(k:Int),()),(fx x,(c.epoch,c.primary,(),(),()),()),m.1,c.replicas,c.witnesses,())) (λ_ _=>True) (λ_ _=> .end (EK _) (.ret trivial)) (λk _ hk _=> .go (EJ.2 hk) (.ip ⟨EI k,EJ.2 hk⟩ (.get (tn hk) λz _ hz=> .bind (Xe ok vc hp (hm.2 z hz)) λy _=> ?_))) () trivial) λe _=> ?_) λ_=> .ret trivial
 ·rw[Ff];exact .br (λ_=> .ret ⟨(),by rw[kT (by have:=hm.1;unfold maxLen;omega) hk],trivial⟩) λ_=> .ret trivial
 ·cases e<;>exact .ret trivial
theorem V2(x:qN)(ok:F9 1048576 x):Tt T1 (JA x):=by unfold JA;exact .bind (X4 x ok) λ_ _=> .ret trivial
section
variable {l:List vB} (hl:l.length<=maxLen) (hv:FI l=some (true,()))
include hl hv
theorem ZP(m:List Int)(hm:Mb m):Tt (λy=>y.1.length<=5) (MF l m):=by have h5:=Qg hl hv;have ml:=hm.len;unfold MF;refine .bind (.count (B:=Mc) (E:=λe=>e.2.2.1.length<=5) m.length (λk (b:List Int)=>((l,m,(),(k:Int),()),(),b,())) (λk b=>b.length<=k/\SS b) (λb hb=> .end (EK _) (.ret (ba hb.1 ml))) (λk b hk hb=> ?_) [] ⟨az _,List.Pairwise.nil⟩) λy hy=> .ret hy;refine .go (EJ.2 hk) ?_;dsimp only;rw[hv,ak,(Oo hm).1,ak];refine .br (λ_=> .br (λ_=> .ip (EI k) (.get (tn hk) λz _ hz=> .ip (KB hm z hz).1 (.get (by have:=KB hm z hz;omega) λp _ _=> ?_))) (λh=>by cases h)) (λh=>by cases h);obtain⟨r,r1,r2,_,r4,_⟩:=YH b p.rack (by omega) hb.2;rw[r1,ak];exact .ret ⟨r,by rw[kT (by unfold maxLen;omega) hk],by omega,r2⟩
theorem aaf(i:Int):Tt T1 (ME l i):=by have h5:=Qg hl hv;unfold ME;rw[hv,ak,F2,ak];refine .br (λ_=> .br (λh=> ?_) λ_=> .ret trivial) λ_=> .ret trivial;have h:=Fl.1 h;exact .ip h.1 (.get (by omega) λ_ _ _=> .ip h.1 (.get (by omega) λ_ _ _=> .ret trivial))
theorem Yj(r:List Int)(hr:r.length<=5){a b:Int}(ha:0<=a/\a<5)(hb:0<=b/\b<5):Tt T1 (LL l r a b):=by
 have h5:=Qg hl hv;have rm:r.length<=maxLen:=by unfold maxLen;omega
 unfold LL;refine .ip ha.1 (.get (by omega) λp _ _=> ?_);rw[(FP r p.rack rm).1,ak];refine .ip hb.1 (.get (by omega) λq _ _=> ?_);rw[(FP r q.rack rm).1,ak,Ff];exact .br (λ_=> .ip ha.1 (.get (by omega) λ_ _ _=> .ip hb.1 (.get (by omega) λ_ _ _=> .ret trivial))) λ_=> .ret trivial
theorem Yb(m d:List Int)(hm:Mb m)(hd:d.length<=maxLen):Tt (λy=>y.1= -1\/(0<=y.1/\y.1<5/\y.1∉m)) (JC l m d):=by
 have ml:m.length<=maxLen:=by have:=hm.len;unfold maxLen;omega
 unfold JC;refine .bind (ZP hl hv m hm) λr hr=> .bind (.count (B:=KH) (E:=λe=>e.1.1= -1\/(0<=e.1.1/\e.1.1<5/\e.1.1∉m)) 5 (λk (b:Int)=>((l,m,d,b,(),(k:Int),()),(),r.1,())) (λ_ b=>b= -1\/(0<=b/\b<5/\b∉m)) (λb hb=> .end (EK _) (.ret hb)) (λk b hk hb=> ?_) (-1) (.inl rfl)) λy hy=> .ret hy;have hkk:0<=(k:Int)/\(k:Int)<5:=⟨EI k,EJ.2 hk⟩
 refine .go hkk.2 ?_;dsimp only;rw[(Oo hm).1,ak,kT (n:=5) (by decide) hk];refine .br (λ_=> .bind (aaf hl hv k) λy _=> ?_) (λh=>by cases h);rw[Ff,(FP m k ml).1,(FP d k hd).1];refine .br (λ_=> .br (λ_=> .ret ⟨b,rfl,hb⟩) λhn=> .br (λ_=> .ret ⟨b,rfl,hb⟩) λ_=> ?_) λ_=> .ret ⟨b,rfl,hb⟩;have hn: (k:Int)∉m:=of_decide_eq_false hn;refine .br (λ_=> .ret ⟨(k:Int),rfl,.inr ⟨hkk.1,hkk.2,hn⟩⟩) λh0=> ?_;have h0: ¬b<0:=of_decide_eq_false h0;exact .bind (Yj hl hv r.1 hr hkk (by omega)) λ_ _=> .br (λ_=> .ret ⟨(k:Int),rfl,.inr ⟨hkk.1,hkk.2,hn⟩⟩) λ_=> .ret ⟨b,rfl,hb⟩
omit hv in
theorem aac(m a:List Int)(hm:Mb m)(ha:Mb a)(want:Int):Tt (λy=>Mb y.1) (I9 l m a want):=by
 have am:a.length<=maxLen:=by have:=ha.len;unfold maxLen;omega
 obtain⟨v,v1,_⟩:=My l hl;have nil:Mb [] :=λk hk=>by simp at hk
 unfold I9;rw[PY m a hm am,R6 _ a VU am,ak,ak,v1,ak,Ff,(Oo hm).1,(Oo ha).1];refine .br (λe=> .br (λh=>by cases h) λ_=> .br (λh=>by cases h) λ_=> ?_) λ_=> .ret nil;subst e;rw[F2,ak,Ff];refine .br (λ_=> ?_) λ_=> .ret nil;have dl:=(VU.filter λx=> !decide (x∈a)).len;have dm: (([0,1,2,3,4]:List Int).filter λx=> !decide (x∈a)).length<=maxLen:=by unfold maxLen;omega
 generalize ([0,1,2,3,4]:List Int).filter (λx=> !decide (x∈a))=dead at dm;refine .bind (.loop (B:=Ji) (E:=Sum.elim (λe=>Mb e.2.2.1) λe=>Mb e.2.2.1) (λs=> ∃out:List Int,s=((l,want,(),(),()),(),out,dead,())/\Mb out) (λs=>(want-s.2.2.1.length).toNat) ?_ ⟨_,rfl,hm.filter _⟩) λy hy=> ?_
 ·rintro _ ⟨out,rfl,ho⟩
  have ol:=ho.len;refine .br (λc=> ?_) λ_=> .ret ho;have c: (out.length:Int)<want:=of_decide_eq_true c;refine .bind (Yb hl v1 out dead ho dm) λn hn=> .br (λ_=> .ret ho) λh=> ?_;have h: ¬n.1<0:=of_decide_eq_false h
  obtain⟨n0,n5,nm⟩:0<=n.1/\n.1<5/\n.1∉out:=by
   rcases hn with h'|h'
   ·omega
   ·exact h'
  obtain⟨r,r1,r2,r3,_,r5⟩:=YH out n.1 (by omega) ho.pair;rw[show HE _ _=_ from r1,ak];refine .ret ⟨⟨r,rfl,NJ r2 λy hy=>((r3 y).1 hy).elim (λe=>by rw[e];exact⟨n0,n5⟩) (KB ho y)⟩,?_⟩;show (want-(r.length:Int)).toNat< (want-(out.length:Int)).toNat;have:=r5 nm;omega
 ·cases y with
  |inl y=>exact .ret hy
  |inr y=>exact .ret hy
end
theorem Zx(x:qN)(ok:F9 1048576 x)(want wit:Int):Tt (λy=>GV 1048576 y.1) (IU x want wit):=by
 have zero:GV 1048576 ⟨0,0,[],[]⟩:=⟨bH _,bH _⟩
 obtain⟨v,v1,_⟩:=GQ x ok;unfold IU;rw[v1,ak,Ff];refine .br (λe=> ?_) λ_=> .ret zero;subst e;have vc:=GK ok v1;rw[F2,ak,Ff];refine .br (λ_=> ?_) λ_=> .ret zero;rw[F2,ak,Ff];refine .br (λ_=> .br (λ_=> .ret zero) λ_=> ?_) λ_=> .ret zero;obtain⟨c,b,c1,c2,c3⟩:=U5 x ok;obtain⟨r5,w5,inr,_,_,rasc⟩:=c3 vc;have rm:c.replicas.length<=maxLen:=by unfold maxLen;omega
 rw[ZX x ok v1,ak,c1,ak];have up:=VY (SZ x) (n:=5) (by omega);generalize Py (SZ x) 5=u at up;have um:u.length<=maxLen:=by have:=up.len;unfold maxLen;omega
 refine .bind (.count (B:=JI) (E:=λe=> ∃have':List Int,Mb have'/\e=((want,wit,(),(),(),(),(),()),(fx x,(0,0,(),(),()),(c.epoch,c.primary,(),(),()),()),u,have',c.replicas,c.witnesses,())) c.replicas.length (λk (b:List Int)=>((want,wit,(),(),(),(),(),(k:Int),()),(fx x,(0,0,(),(),()),(c.epoch,c.primary,(),(),()),()),u,b,c.replicas,c.witnesses,())) (λk b=>b.Sublist (c.replicas.take k)) (λb hb=> .end (EK _) (.ret ⟨b,?_,rfl⟩)) (λk b hk hb=> ?_) [] (List.nil_sublist _)) ?_
 ·rw[EM] at hb;exact NJ (rasc.pair.sublist hb) λy hy=>inr y (hb.subset hy)
 ·have sw:=kT rm hk;have st:b.Sublist (c.replicas.take (k+1)):=hb.trans (List.take_sublist_take_left (cM k));refine .go (EJ.2 hk) (.ip ⟨EI k,EJ.2 hk⟩ (.get (tn hk) λz _ hz=> ?_));rw[show FC _ _=_ from (FP u z um).1,ak];refine .br (λ_=> .ip ⟨EI k,EJ.2 hk⟩ (.get (tn hk) λz2 _ hz2=> .srv ok vc (inr z2 hz2) λs _ _ _=> .br (λ_=> .ip ⟨EI k,EJ.2 hk⟩ (.get (tn hk) λz3 e3 _=> ?_)) λ_=> .ret ⟨b,by rw[sw],st⟩)) λ_=> .ret ⟨b,by rw[sw],st⟩;have e3:c.replicas[k]? =some z3:=e3
  have h2: (b++ [z3]).Sublist (c.replicas.take (k+1)):=by rw[EN,e3];exact hb.append (List.Sublist.refl _)
  have h3:=h2.length_le;rw[ci] at h3;exact .ip (by show (b++ [z3]).length*8<=2 ^ 40;omega) (.ret ⟨b++ [z3],by rw[sw],h2⟩)
 ·rintro _ ⟨hv,ha,rfl⟩
  refine .bind (aac (Fw ok.2.2.2) hv u ha up want) λp hp=> .br (λ_=> .ret zero) λh0=> ?_;have pl:=hp.len
  have p0:0<p.1.length:=by
   rcases bu p.1.length with h|h
   ·rw[h] at h0;cases h0
   ·exact h
  refine .ip ⟨c9 _,EJ.2 p0⟩ (.get p0 λq _ _=> ?_);rw[show FC _ _=_ from (FP p.1 c.primary (by unfold maxLen;omega)).1,ak];have fm: ∀w:List Int,w.length<=1-> ∀ (e p':Int) (d:Bool),Tt (λy:om×Bool×Unit=>GV 1048576 y.1) (some (⟨e,p',p.1,w⟩,d,())):=λw hw _ _ _=> .ret ⟨by show p.1.length<=_;omega,by show w.length<=_;omega⟩
  extract_lets j43
  have h43: ∀p',Tt (λy=>GV 1048576 y.1) (j43 p'):=λp'=>by unfold j43;refine .br (λ_=> ?_) λ_=>fm [] (by decide) _ _ _;rw[show FW _ _=_ from R6 _ u VU um,ak];refine .bind (Yb (Fw ok.2.2.2) vc.places p.1 _ hp ?_) λ_ _=> .br (λ_=>fm [_] (az 1) _ _ _) λ_=>fm [] (by decide) _ _ _;have:=(VU.filter λx=> !decide (x∈u)).len;exact ba this (by unfold maxLen;omega)
  refine .br (λ_=> ?_) λ_=>h43 _;rw[show Ip _=_ from OA c c2,ak];exact .br (λ_=>h43 _) λ_=>h43 _
theorem XZ(x:qN)(ok:F9 1048576 x)(id t:Int):Tt (λy=>Kp x y.1) (IV x id t):=by obtain⟨n,n1,n2⟩:=U1 x ok id;unfold IV;rw[(Hz x ok).1,ak,n1,ak,Ff];refine .br (λe=> ?_) λ_=> .ret (.self ok);obtain⟨hv,h0,h5⟩:=n2 (eq_of_beq e);have vc:=GK ok hv;have s5:=L9 (Fw ok.2.1) vc.sides;refine .srv ok vc ⟨h0,h5⟩ λs _ s2 _=> ?_;obtain⟨b,b1,_⟩:=Ju s id s2;rw[b1,ak,Ff];refine .br (λ_=> .br (λ_=> .ret (.self ok)) λ_=> .ip h0 (.get (by omega) λ_ _ _=> ?_)) λ_=> .ret (.self ok);rw[Ff];refine .br (λ_=> ?_) λ_=> .ret (.self ok);rw[Ff];refine .br (λ_=> ?_) λ_=> .ret (.self ok);obtain⟨l,d,g1,_⟩:=Vc x.lease s.config.epoch id x.now t;rw[g1,ak,Ff];exact .br (λ_=> .ret ⟨ok,rfl⟩) λ_=> .ret (.self ok)
theorem YI(x:qN)(ok:F9 1048576 x)(want term:Int):Tt (λy=>Kp x y.1) (Ja x want term):=by unfold Ja;rw[(Hz x ok).1,ak];refine .bind (KA x ok) λv _=> ?_;rw[Ff];refine .br (λ_=> ?_) λ_=> .ret (.self ok);rw[F2,ak,Ff];refine .br (λ_=> .bind (V2 x ok) λ_ _=> .br (λ_=> .ret (.self ok)) λ_=> .bind (Zx x ok want 0) λn hn=> ?_) λ_=> .ret (.self ok);rw[Ff];refine .br (λ_=> .bind (Qh x ok n.1 hn) λy hy=> ?_) λ_=> .ret (.self ok);rw[Ff];refine .br (λ_=> ?_) λ_=> .ret (.self ok);obtain⟨t,t1,_⟩:=UZ x.lease;rw[t1,ak];refine .bind (Zz y.1 hy.1 _) λz hz=> ?_;rw[Ff];refine .br (λ_=> .bind (P1 z.1 hz.1) λa ha=> ?_) λ_=> .ret (.self ok);rw[Ff];exact .br (λ_=> .bind (XZ a.1 ha.1 _ _) λr hr=> .ret (hy.trans (hz.trans (ha.trans hr)))) λ_=> .ret (hy.trans (hz.trans ha))
theorem aas(x:qN)(ok:F9 1048576 x)(to:Int):Tt (λy=>y.1=0->VC x) (KU x to):=by obtain⟨c,b,c1,c2,c3⟩:=U5 x ok;unfold KU;rw[c1,ak];refine .bind (KA x ok) λv hv=> ?_;rw[Ff];refine .br (λh=> ?_) λ_=> .ret nofun;have vc:=hv h;have s5:=L9 (Fw ok.2.1) vc.sides;rw[Ff];refine .br (λhb=> ?_) λ_=> .ret nofun;obtain⟨r5,_,_,_,hp,_⟩:=c3 vc;have hp:=(hp hb).2;rw[(FP c.replicas to (by unfold maxLen;omega)).1,ak,Ff];refine .br (λ_=> .br (λ_=> .ret nofun) λ_=> ?_) λ_=> .ret nofun;rw[Ff];refine .br (λ_=> .br (λ_=> .ret nofun) λ_=> .br (λ_=> .ret nofun) λ_=> .bind (V2 x ok) λ_ _=> ?_) λ_=> .ret nofun;rw[Ff];refine .br (λ_=> .ip hp.1 (.get (by show c.primary.toNat<x.sides.length;omega) λ_ _ _=> ?_)) λ_=> .ret nofun;rw[Ff];refine .br (λ_=> .br (λ_=> ?_) λ_=> .ret λ_=>vc) λ_=> .ret nofun;rw[Ff];exact .br (λ_=> .ret λ_=>vc) λ_=> .ret nofun
theorem YM(x:qN)(ok:F9 1048576 x)(to:Int):Tt (λy=>Kp x y.1) (H7 x to):=by
 obtain⟨c,b,c1,c2,c3⟩:=U5 x ok;unfold H7;rw[(Hz x ok).1,ak];refine .bind (aas x ok to) λn hn=> ?_;rw[Ff];refine .br (λh=> ?_) λ_=> .ret (.self ok);obtain⟨r5,w5,_⟩:=c3 (hn (eq_of_beq h));rw[c1,ak];refine .bind (VV x ok c.primary) λy hy=> ?_;have hy':Kp x ⟨y.1.now,y.1.servers,y.1.sides,y.1.master,y.1.masterUp,⟨0,0,0⟩,y.1.places⟩:=⟨hy.1,hy.2⟩
 exact .bind (Qh _ hy'.1 ⟨_,to,c.replicas,c.witnesses⟩ ⟨by show c.replicas.length<=_;omega,by show c.witnesses.length<=_;omega⟩) λz hz=> .bind (P1 z.1 hz.1) λw hw=> .ret (hy'.trans (hz.trans hw))
end
section
theorem Tt.byte{α:Type}{Q:α->Prop}{b:ByteArray}{i:Nat}{k:UInt8->Option α}(hi:i<b.size)(h: ∀x,Tt Q (k x)):Tt Q ((b[i]?).bind k):=by rw[getElem?_pos b i hi];exact h _
theorem RS(b:Int): (Cu ((([b]:List Int).drop 0).take ([b]:List Int).length)).size=1:=rfl
theorem HX(n:Int)(h:n.natAbs<=1000):Tt (λy=>y.1.size<=1001) (Gs n):=by
 unfold Gs;refine .br (λ_=> .ret (by decide)) λ_=> .bind (.loop (B:=KF) (E:=λe=>e.1.1.size<=1000) (λs=>s.1.2.1.size+s.1.1.natAbs<=1000) (λs=>s.1.1.natAbs) ?_ (by simpa using h)) λy hy=> .br (λ_=> .ip ?_ (.ret ?_)) λ_=> .ret (ba hy (by omega))
 ·rintro⟨⟨n,acc,neg,_⟩,_,_⟩ hs
  have hs:acc.size+n.natAbs<=1000:=hs;refine .br (λh0=> ?_) λ_=> .ret (by show acc.size<=1000;omega);have h0:n≠0:=λe=>by rw[e] at h0;cases h0
  have ha: (Int.tdiv n 10).natAbs=n.natAbs / 10:=Int.natAbs_tdiv n 10;have hw:IntKind.wrap .i64 (Int.tdiv n 10)=Int.tdiv n 10:=of (by omega) (by omega);dsimp only;rw[hw];refine .br (λ_=> .ip ⟨Nat.one_pos,az _⟩ (.ip (by rw[RS];omega) (.ret ⟨?_,?_⟩))) λ_=> .ip ⟨Nat.one_pos,az _⟩ (.ip (by rw[RS];omega) (.ret ⟨?_,?_⟩))
  all_goals first
   | (show (_++acc).size+(Int.tdiv n 10).natAbs<=1000;rw[ByteArray.size_append,RS];omega)
   | (show (Int.tdiv n 10).natAbs<n.natAbs;omega)
 ·show (⟨⟨[45]⟩⟩:ByteArray).size+y.1.1.size<=2 ^ 40;have : (⟨⟨[45]⟩⟩:ByteArray).size=1:=rfl;omega
 ·show ((⟨⟨[45]⟩⟩:ByteArray)++y.1.1).size<=1001;have : (⟨⟨[45]⟩⟩:ByteArray).size=1:=rfl;rw[ByteArray.size_append];omega
theorem ZO{o:Op}(h:YG o=true): (0<=o.client/\o.client<=2)/\(1<=o.seq/\o.seq<=99)/\(0<=o.object/\o.object<=2)/\(0<=o.value/\o.value<=9)/\(o.kind≠1->0<=o.old/\o.old<=9):=by
 obtain⟨h1,h2,h4⟩:=XU h;have h3:=TP (show FD o=some (true,()) by rw[Nt,h]);refine⟨Fl.1 h1,Fl.1 h2,h3,Fl.1 h4,λhk=> ?_⟩;have h0:FD o=some (true,()):=by rw[Nt,h]
 unfold FD at h0;simp only[F2,ak,h1,h2,h4,Fl.2 h3,dk,CS,beq_eq_false_iff_ne.2 hk] at h0;cases hk2: (o.kind==2) with
 |false=>rw[hk2] at h0;cases h0
 |true=>rw[hk2] at h0;simp only[DG,af,au,and_true] at h0;exact Fl.1 h0
theorem Wy(o:Op):Tt (λy=>y.1.size<=10000) (LB o):=by
 unfold LB;rw[Nt,ak,Ff];refine .br (λh=> ?_) λ_=> .ret (by decide);obtain⟨n1,n2,n3,n4,n5⟩:=ZO h;have e1: (⟨⟨[46]⟩⟩:ByteArray).size=1:=rfl;have e2: (⟨⟨[32]⟩⟩:ByteArray).size=1:=rfl;have e3: (⟨⟨[119,114,105,116,101,32]⟩⟩:ByteArray).size=6:=rfl;have e4: (⟨⟨[115,119,97,112,32]⟩⟩:ByteArray).size=5:=rfl;refine .bind (HX _ (by omega)) λa ha=> .ip (by omega) (.bind (HX _ (by omega)) λb hb=> .ip (by rw[ByteArray.size_append];omega) (.ip (by simp only[ByteArray.size_append];omega) (.br (λ_=> .ip (by simp only[ByteArray.size_append];omega) (.bind (HX _ (by omega)) λc hc=> .ip (by simp only[ByteArray.size_append];omega) (.ip (by simp only[ByteArray.size_append];omega) (.bind (HX _ (by omega)) λd hd=> .ip (by simp only[ByteArray.size_append];omega) (.ret ?_))))) λhk=> ?_)))
 ·show ByteArray.size _<=_;simp only[ByteArray.size_append];omega
 ·have n5:=n5 λe=>by rw[e] at hk;cases hk
  refine .ip (by simp only[ByteArray.size_append];omega) (.bind (HX _ (by omega)) λc hc=> .ip (by simp only[ByteArray.size_append];omega) (.ip (by simp only[ByteArray.size_append];omega) (.bind (HX _ (by omega)) λd hd=> .ip (by simp only[ByteArray.size_append];omega) (.ip (by simp only[ByteArray.size_append];omega) (.bind (HX _ (by omega)) λe he=> .ip (by simp only[ByteArray.size_append];omega) (.ret ?_))))));show ByteArray.size _<=_;simp only[ByteArray.size_append];omega
theorem Vb(l:List sf)(hl:l.length<=maxLen):Tt (λy=>y.1.size<=1000000) (KT l):=by
 obtain⟨b,b1,b2⟩:=NV hl;unfold KT;rw[b1,ak,Ff];refine .br (λe=> ?_) λ_=> .ret (by decide);have h16:=b2 e;subst e;have hlog:=((NU l hl).1 b1).2;refine .br (λ_=> .ret (by decide)) λ_=> .bind (.count (B:=KG) (E:=λe=>e.1.1.size<=1000000) l.length (λk (b:ByteArray)=>((l,b,(k:Int),()),(),())) (λk b=>b.size<=k*20000) (λb hb=> .end (EK _) (.ret (by show b.size<=_;omega))) (λk b hk hb=> ?_) ByteArray.empty (bH _)) λy hy=> .ret hy;have sw:=kT hl hk;have e1: (⟨⟨[58]⟩⟩:ByteArray).size=1:=rfl;have e2: (⟨⟨[59]⟩⟩:ByteArray).size=1:=rfl;have hb:b.size<=k*20000:=hb;have hk2:k*20000<=16*20000:=bg _ (by omega);refine .go (EJ.2 hk) (.br (λ_=> .ip (by rw[e2];show b.size+1<=_;omega) (.ip (EI k) (.get (tn hk) λe he _=> .bind (HX _ ?_) λy hy=> ?_))) λ_=> .ip (EI k) (.get (tn hk) λe he _=> .bind (HX _ ?_) λy hy=> ?_))
 case refine_1|refine_3=>have:=hlog k hk;unfold UC at this;rw[show l[k]? =some e from he] at this;simp only[ao] at this;have:=Fl.1 this.1;omega
 all_goals
  dsimp only;rw[sw];refine .ip (by first |omega| (simp only[ByteArray.size_append];omega)) (.ip (by simp only[ByteArray.size_append];omega) (.ip (EI k) (.get (tn hk) λe2 _ _=> .bind (Wy e2.op) λz hz=> .ip (by simp only[ByteArray.size_append];omega) (.ret ⟨_,rfl,?_⟩))));simp only[ByteArray.size_append];omega
theorem Ws(b:ByteArray)(hb:b.size<=1000000):Tt T1 (Lz b):=by unfold Lz;exact .bind (.count (B:=Lf) (E:=λ_=>True) b.size (λk (n:Int)=>((b,n,(k:Int),()),(),())) (λ_ _=>True) (λ_ _=> .end (EK _) (.ret trivial)) (λk n hk _=> .go (EJ.2 hk) (.ip (EI k) (.byte hk λx=> .ret ⟨_,by rw[kT (n:=b.size) (by unfold maxLen;omega) hk],trivial⟩))) 5 trivial) λ_ _=> .ret trivial
theorem Xa(l:List sf)(hl:l.length<=maxLen):Tt (λy=>y.1.length<=l.length+1/\y.1.length<=17) (JT l):=by
 obtain⟨b,b1,b2⟩:=NV hl;unfold JT;rw[b1,ak,Ff];refine .br (λe=> ?_) λ_=> .ret ⟨bH _,bH _⟩;have h16:=b2 e;refine .ip (by simp) (.bind (.count (B:=JG) (E:=λe=>e.2.2.1.length<=l.length+1/\e.2.2.1.length<=17) l.length (λk (b:Int×List Int)=>((l,(),b.1,(k:Int),()),(),b.2,())) (λk b=>b.2.length=k+1) (λb hb=> .end (EK _) (.ret (by show b.2.length<=_/\b.2.length<=_;omega))) (λk b hk hb=> ?_) (11,[11]) rfl) λy hy=> .ret hy);have sw:=kT hl hk;refine .go (EJ.2 hk) ?_;dsimp only;rw[sw];refine .ip ⟨EI k,by omega,Int.ofNat_le.2 hk⟩ (.bind (Vb _ (ba (by rw[ci,bR];omega) hl)) λy hy=> .bind (Ws y.1 hy) λz _=> .ip ?_ (.ret ⟨(_,_),rfl,?_⟩))
 ·rw[be,cn,hb];omega
 ·rw[be,cn,hb]
theorem VX(l:List sf)(k:Int)(hl:l.length<=maxLen):Tt (λy=>y.1≠ -1->0<=k/\k<=(l.length:Int)) (Kk l k):=by unfold Kk;refine .bind (Xa l hl) λy hy=> ?_;rw[of (n:=(y.1.length:Int)-1) (by omega) (by omega),F2,ak,Ff];refine .br (λh=> ?_) λ_=> .ret λh=>absurd rfl h;have h:=Fl.1 h;exact .ip (by omega) (.get (by omega) λ_ _ _=> .ret λ_=>by omega)
theorem ZS(x:qN)(ok:F9 1048576 x)(a b:Int):Tt (λy=>y.1=true->VC x/\(0<=a/\a<5)/\(0<=b/\b<5)) (KZ x a b):=by
 unfold KZ;refine .bind (KA x ok) λv hv=> ?_;rw[Ff];refine .br (λh=> ?_) λ_=> .ret nofun;have vc:=hv h;have h5:=L9 (Fw ok.2.1) vc.sides
 have side:Tt (λy:Bool×Unit=>y.1=true->(0<=a/\a<5)/\(0<=b/\b<5)) (GM x.sides a b):=by unfold GM;simp only[vc.sides,F2,ak,DG];refine .br (λha=> .br (λhb=> ?_) λ_=> .ret nofun) λ_=> .ret nofun;have ha:=Fl.1 ha;have hb:=Fl.1 hb;exact .ip ha.1 (.get (by omega) λ_ _ _=> .ip hb.1 (.get (by omega) λ_ _ _=> .ret λ_=>by omega))
 refine .bind side λy hy=> ?_;rw[Ff];refine .br (λh=> ?_) λ_=> .ret nofun;obtain⟨ha,hb⟩:=hy h;refine .br (λ_=> .ret nofun) λ_=> .srv ok vc ha λs _ s2 _=> ?_;obtain⟨n,n1,_⟩:=Ok s.config a (Fz s2.1);obtain⟨m,m1,_⟩:=Ok s.config b (Fz s2.1);rw[n1,ak,m1];have good: ∀d:Bool,Tt (λy:Bool×Unit=>y.1=true->VC x/\(0<=a/\a<5)/\(0<=b/\b<5)) (some (d,())):=λd=> .ret λ_=>⟨vc,ha,hb⟩
 exact .br (λ_=> .srv ok vc hb λ_ _ _ _=> .br (λ_=> .br (λ_=> .br (λ_=>good _) λ_=>good _) λ_=> .br (λ_=> .br (λ_=>good _) λ_=>good _) λ_=>good _) λ_=>good _) λ_=>good _
theorem Z6(x:qN)(ok:F9 1048576 x)(a b:Int):Tt (λy=>0<=y.1->VC x/\(0<=a/\a<5)/\(0<=b/\b<5)/\ ∃s l,x.servers[a.toNat]? =some s/\Fs s=some (l,())/\l.length<=16/\y.1<=(l.length:Int)) (I5 x a b):=by
 unfold I5;refine .bind (ZS x ok a b) λv hv=> ?_;rw[Ff];refine .br (λh=> ?_) λ_=> .ret λh=>absurd h (by decide);obtain⟨vc,ha,hb⟩:=hv h;refine .srv ok vc ha λs s1 s2 s3=> ?_;obtain⟨⟨l,_⟩,l1,l2⟩:=O6 s s2 (T0 s2 s3);have l2:l.length<=16:=l2;rw[l1,ak];refine .srv ok vc hb λt _ t2 _=> .srv ok vc hb λu _ u2 _=> .bind (Q:=T1) ?_ λd _=> .bind (Q:=λy=>y.1=true->(t.learned.length:Int)<=(l.length:Int)) ?_ λp hp=> ?_
 ·unfold Jl;exact .bind (VX _ _ (Fw u2.2.2)) λ_ _=> .ret trivial
 ·unfold JZ;refine .br (λhd=> .bind (VX l _ (by unfold maxLen;omega)) λy hy=> .ret λe=> ?_) λ_=> .ret nofun;have hd:d.1≥0:=of_decide_eq_true hd;have e:=eq_of_beq e;exact (hy (by omega)).2
 ·have tl:=t2.2.2;rw[Ff];refine .br (λe=> .ret λ_=>⟨vc,ha,hb,s,l,s1,l1,l2,?_⟩) λ_=> .ret λ_=>⟨vc,ha,hb,s,l,s1,l1,l2,?_⟩
  ·have:=hp e;show IntKind.wrap .i64 ((l.length:Int)-(t.learned.length:Int))<=_;rw[of (by omega) (by omega)];omega
  ·show IntKind.wrap .i64 ((l.length:Int)-0)<=_;rw[of (by omega) (by omega)];omega
theorem ZB(x:qN)(ok:F9 1048576 x)(a b n:Int):Tt (λy=>Kp x y.1) (I6 x a b n):=by
 unfold I6;rw[(Hz x ok).1,ak];refine .bind (Z6 x ok a b) λy hy=> .br (λ_=> .ret (.self ok)) λh=> ?_;have h: ¬y.1<0:=of_decide_eq_false h;obtain⟨vc,ha,hb,s,l,s1,l1,l2,le⟩:=hy (by omega);rw[F2,ak,Ff];refine .br (λw=> .ip ha.1 ?_) λ_=> .ret (.self ok);have w:=Fl.1 w;rw[s1,ak,l1,ak];dsimp only;have hm: (if n<y.1 then n else y.1)<=y.1/\0<=(if n<y.1 then n else y.1):=by split<;>omega
 generalize (if n<y.1 then n else y.1)=m at hm;rw[of (n:=(l.length:Int)-y.1) (by omega) (by omega),of (n:=(l.length:Int)-y.1+m) (by omega) (by omega)]
 have hl: ((l.drop (0+(0:Int).toNat)).take (((l.length:Int)-y.1+m).toNat-(0:Int).toNat)).length<=1048576:=by rw[ci,bR];omega
 refine .ip (by omega) (.ip (by omega) ?_);rw[Pr hl,ak];exact .at vc.len hb λu _ hu=> .ret ((Kp.self ok).set (s:=⟨u.up,u.intact,u.version,u.epoch,u.config,u.first,u.log,u.commit,(l.drop (0+(0:Int).toNat)).take (((l.length:Int)-y.1+m).toNat-(0:Int).toNat)⟩) ⟨(ok.1.2 u hu).1,(ok.1.2 u hu).2.1,hl⟩ _)
theorem Xj{x y:qN}{n:Int}{r:Option (qN×Int×Unit)}(h:r=some (y,n,())/\F9 1048576 y/\y.servers.length=x.servers.length):Tt (λz=>Kp x z.1) r:=⟨_,h.1,h.2⟩
theorem aah(x:qN)(ok:F9 1048576 x)(e:xx):Tt (λy=>Kp x y.1) (MM x e):=by obtain⟨_,_,c1⟩:=ZD x ok e.server;obtain⟨_,_,c2⟩:=X1 x ok e.server;obtain⟨_,_,c3⟩:=Z7 x ok e.server;obtain⟨_,_,c4⟩:=aaa x ok e.server e.n;obtain⟨_,_,c5⟩:=XQ x ok e.n;unfold MM;refine .br (λ_=> .bind (XZ x ok _ _) λy hy=> .ret hy) λ_=> .br (λ_=> .bind (Zx x ok _ _) λn hn=> ?_) λ_=> .br (λ_=> .bind (P1 x ok) λy hy=> .ret hy) λ_=> .br (λ_=> .bind (Xj c1) λy hy=> .ret hy) λ_=> .br (λ_=> .bind (Xj c2) λy hy=> .ret hy) λ_=> .br (λ_=> .bind (Xj c3) λy hy=> .ret hy) λ_=> .br (λ_=> .bind (Xj c4) λy hy=> .ret hy) λ_=> .br (λ_=> .bind (Xj c5) λy hy=> .ret hy) λ_=> .br (λ_=> .bind (Zz x ok _) λy hy=> .ret hy) λ_=> .br (λ_=> .bind (ZB x ok _ _ _) λy hy=> .br (λ_=> .ret hy) λ_=> .ret hy) λ_=> .br (λ_=> .bind (Yd x ok _) λy hy=> .ret hy) λ_=> .br (λ_=> .bind (Va x ok _) λy hy=> .ret hy) λ_=> .br (λ_=> .bind (YM x ok _) λy hy=> .ret hy) λ_=> .bind (YI x ok _ _) λy hy=> .ret hy;rw[Ff];refine .br (λ_=> .bind (Qh x ok _ hn) λy hy=> .ret hy) λ_=> ?_;rw[(Hz x ok).1];exact .ret (.self ok)
theorem aai(k:Int):Tt T1 (MN k):=by
 unfold MN
 repeat first |exact .ret trivial|refine .br (λ_=> ?_) λ_=> ?_
theorem Ye(e:xx):Tt T1 (Ix e):=by
 unfold Ix;simp only[F2,ak,Nt];refine .br (λ_=> .ret trivial) λ_=> .br (λ_=> .ret trivial) λ_=> .br (λ_=> .ret trivial) λ_=> .br (λ_=> .ret trivial) λ_=> .bind (aai _) λ_ _=> ?_
 repeat first |exact .ret trivial|refine .br (λ_=> ?_) λ_=> ?_
theorem WY(x:qN)(ok:F9 1048576 x)(e:xx):Tt (λy=>Kp x y.1) (LG x e):=by unfold LG;rw[(Hz x ok).1];refine .bind (KA x ok) λ_ _=> .br (λ_=> .ret (Kp.self ok)) λ_=> .bind (Ye e) λ_ _=> .br (λ_=> .ret (Kp.self ok)) λ_=> .br (λ_=> .bind (Yk x ok _ _) λy hy=> .ret hy) λ_=> .br (λ_=> ?_) λ_=> .bind (aah x ok e) λy hy=> .ret hy;exact .bind (Q:=λy=>Kp x y.1) ⟨_,rfl,Kp.self ok⟩ λy hy=> .bind (Vv x ok _ _) λ_ _=> .ret hy
theorem VP(x:qN)(ok:F9 1048576 x)(l:List xx)(hl:l.length<=1048576):Tt (λy=>Kp x y.1/\y.2.1.length<=l.length) (KV x l):=by
 have lm:=Fw hl;unfold KV;rw[(Hz x ok).1,ak];refine .bind (.count (B:=KI) (E:=λe=> ∃ (c:qN) (r:List xB),Kp x c/\r.length<=l.length/\e=(((),(),(),()),(fz,fc c,()),r,c.servers,c.sides,c.master.configs,c.places,())) l.length (λk (b:qN×List xB)=>((l,(),(),(),(k:Int),()),(fz,fc b.1,()),b.2,b.1.servers,b.1.sides,b.1.master.configs,b.1.places,())) (λk b=>Kp x b.1/\b.2.length<=k) (λb hb=> .end (EK _) (.ret ⟨b.1,b.2,hb.1,hb.2,rfl⟩)) (λk b hk hb=> .go (EJ.2 hk) (.br (λ_=> .ip (EI k) (.get (tn hk) λe _ _=> .bind (WY b.1 hb.1.1 e) λy hy=> .ip ?_ (.ret ⟨(y.1,b.2++ [y.2.1]),by rw[kT lm hk],hb.1.trans hy,?_⟩))) λ_=> .ret ⟨b.1,b.2,hb.1,by omega,rfl⟩)) (x,[]) ⟨.self ok,az _⟩) ?_
 ·show (b.2++ [y.2.1]).length*32<=2 ^ 40;rw[be,cn];omega
 ·rw[be,cn];omega
 ·rintro _ ⟨c,r,hc,hr,rfl⟩
  exact .ret ⟨hc,hr⟩
end
end Go.Proofs.YtkghndikalnipabGreat.En
