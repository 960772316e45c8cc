/- Plain laws. -/
import Derived.Test.YtkghndikalnipaaGreatZBX
set_option linter.unusedSimpArgs false
set_option linter.unusedVariables false
namespace Go.Proofs.YtkghndikalnipaaGreat.En
open Go
section
def gi[eg](c:gE):Prop:=∃l,qW c.b=some l/\l.length<=maxLen/\(∀m∈l,0<=m/\m<=255)/\0<=c.i/\c.i<=c.b.n
def Dn[eg]{α:Type}(Q:α->Prop)(r:Option (List gE×α)):Prop:=∃c a,r=some ([c],a)/\gi c/\Q a
section
variable [eg] {α β:Type} {Q:α->Prop} {Q':β->Prop}
theorem Dn.ret{c:gE}{a:α}(hc:gi c)(h:Q a):Dn Q (some ([c],a)):=⟨c,a,rfl,hc,h⟩
theorem Dn.bind{r:Option (List gE×α)}{k:List gE×α->Option (List gE×β)}(h:Dn Q r)(hk: ∀c a,gi c->Q a->Dn Q' (k ([c],a))):Dn Q' (r.bind k):=by obtain⟨c,a,rfl,h1,h2⟩:=h;exact hk c a h1 h2
theorem Dn.mono{Q2:α->Prop}{r:Option (List gE×α)}(h:Dn Q r)(hq: ∀a,Q a->Q2 a):Dn Q2 r:=by obtain⟨c,a,h1,h2,h3⟩:=h;exact⟨c,a,h1,h2,hq a h3⟩
theorem Dn.iteP{p:Prop}[Decidable p]{x y:Option (List gE×α)}(hp:p)(h:Dn Q x):Dn Q (iteP p x y):=by rw[fv hp];exact h
theorem Dn.br{b:Bool}{x y:Option (List gE×α)}(h1:b=true->Dn Q x)(h2:b=false->Dn Q y):Dn Q (br b x y):=by
 cases b with
 |true=>exact h1 rfl
 |false=>exact h2 rfl
theorem Dn.get{γ:Type}{l:List γ}{i:Nat}{k:γ->Option (List gE×α)}(hi:i<l.length)(h: ∀x∈l,Dn Q (k x)):Dn Q ((l[i]?).bind k):=by rw[ah hi];exact h _ (bB hi)
end
theorem K2(x:Int):0<=bits .and .i64 x 255/\bits .and .i64 x 255<=255:=by
 have h: (BitVec.ofInt 64 x&&& BitVec.ofInt 64 255).toNat<=255:=by rw[BitVec.toNat_and];exact Nat.and_le_right
 show 0<=IntKind.wrap .i64 _/\IntKind.wrap .i64 _<=255;have e:IntKind.wrap .i64 ((BitVec.ofInt 64 x&&& BitVec.ofInt 64 255).toNat:Int)=((BitVec.ofInt 64 x&&& BitVec.ofInt 64 255).toNat:Int):=fm (by omega) (by omega);have e2:bits .and .i64 x 255=IntKind.wrap .i64 ((BitVec.ofInt 64 x&&& BitVec.ofInt 64 255).toNat:Int):=rfl;rw[<-e2] at e;constructor
 ·show 0<=bits .and .i64 x 255;omega
 ·show bits .and .i64 x 255<=255;omega
theorem Ob{x n:Int}(hx:0<=x)(hn:0<n):0<=x.tmod n/\x.tmod n<n:=⟨Int.tmod_nonneg _ hx,Int.tmod_lt_of_pos _ hn⟩
section
variable [eg]
theorem WV{x:Hd}{l:List Int}(h:qW x=some l)(hl:l.length<=maxLen)(hb: ∀m∈l,0<=m/\m<=255):Dn (λ_:Unit=>True) (H3 x):=by unfold H3 HY;rw[h];exact⟨_,(),rfl,⟨l,h,hl,hb,bU _,ay _⟩,trivial⟩
theorem AH{c:gE}(h:gi c):Dn (λy:Int×Unit=>0<=y.1/\y.1<=255) (ux [c]):=by
 obtain⟨l,h1,h2,h3,h4,h5⟩:=h;show Dn _ ((xR c).map λy=>([y.1],y.2,()));unfold xR;have hlen:=(zt h1).1;by_cases hi:c.i< (c.b.n:Int)
 ·rw[if_pos hi,if_pos h4,h1,ae,ah (by omega)];refine⟨_,_,rfl,⟨l,h1,h2,h3,?_,?_⟩,K2 _⟩
  ·show 0<=RowKit.wrap64 (c.i+1);unfold RowKit.wrap64;simp only[maxLen] at h2;omega
  ·show RowKit.wrap64 (c.i+1)<=c.b.n;unfold RowKit.wrap64;simp only[maxLen] at h2;omega
 ·rw[if_neg hi];exact⟨_,_,rfl,⟨l,h1,h2,h3,h4,h5⟩,K2 _⟩
theorem gY{c:gE}(h:gi c)(n:Int):Dn (λy:Int×Unit=>0<=y.1/\(y.1<n\/n<=0/\y.1=0)) (eF [c] n):=by
 unfold eF;refine .br (λhn=> .ret h ⟨bU _,.inr ⟨of_decide_eq_true hn,rfl⟩⟩) λhn=> ?_;have hn:=of_decide_eq_false hn;refine .br (λ_=> .bind (AH h) λc1 y h1 hy=> .iteP rfl ?_) λ_=> .bind (AH h) λc1 y h1 hy=> .iteP rfl (.bind (AH h1) λc2 y2 h2 hy2=> .iteP rfl (.bind (AH h2) λc3 y3 h3 hy3=> .iteP rfl (.bind (AH h3) λc4 y4 h4 hy4=> .iteP rfl ?_)))
 ·rw[Ad (by omega)];have:=Ob hy.1 (show 0<n by omega);exact .ret h1 ⟨this.1,.inl this.2⟩
 ·rw[Ad (by omega)];simp only;rw[fm (n:=y.1*16777216) (by omega) (by omega),fm (n:=y2.1*65536) (by omega) (by omega),fm (n:=y3.1*256) (by omega) (by omega),fm (n:=y.1*16777216+y2.1*65536) (by omega) (by omega),fm (n:=y.1*16777216+y2.1*65536+y3.1*256) (by omega) (by omega),fm (n:=y.1*16777216+y2.1*65536+y3.1*256+y4.1) (by omega) (by omega)];have:=Ob (show 0<=y.1*16777216+y2.1*65536+y3.1*256+y4.1 by omega) (show 0<n by omega);exact .ret h4 ⟨this.1,.inl this.2⟩
theorem nn{c:gE}(h:gi c){n:Int}(hn:0<n):Dn (λy:Int×Unit=>0<=y.1/\y.1<n) (eF [c] n):=(gY h n).mono λy hy=>⟨hy.1,by omega⟩
theorem kO{c:gE}(h:gi c)(n:Int):Dn (λ_:Bool×Unit=>True) (gQ [c] n):=by unfold gQ;exact .bind (gY h n) λc1 y h1 hy=> .iteP rfl (.ret h1 trivial)
theorem jn{c:gE}(h:gi c){l:List Int}(hl:l≠ []):Dn (λy:Int×Unit=>y.1∈l) (eT [c] l):=by unfold eT;have h0:0<l.length:=List.length_pos_iff.2 hl;refine .bind (nn h (show 0< (l.length:Int) by omega)) λc1 y h1 hy=> .iteP rfl (.iteP hy.1 (.get (by show y.1.toNat<l.length;have:=hy.1;have:=hy.2;omega) λx hx=> .ret h1 hx))
theorem K3{c:gE}(h:gi c):Dn (λ_:Op×Unit=>True) (tY [c]):=by
 unfold tY
 repeat first |exact .ret (by assumption) trivial|refine .iteP rfl ?_|refine .br (λ_=> ?_) λ_=> ?_|refine .bind (gY (by assumption) _) λ_ _ _ _=> ?_|refine .bind (kO (by assumption) _) λ_ _ _ _=> ?_|refine .bind (jn (by assumption) (by simp)) λ_ _ _ _=> ?_
theorem R0{c:gE}(h:gi c):Dn (λ_:fH×Unit=>True) (w7 [c]):=by
 unfold w7;dsimp only
 repeat first |exact .ret (by assumption) trivial|refine .iteP rfl ?_|refine .br (λ_=> ?_) λ_=> ?_|refine .bind (gY (by assumption) _) λ_ _ _ _=> ?_|refine .bind (kO (by assumption) _) λ_ _ _ _=> ?_|refine .bind (jn (by assumption) (by simp)) λ_ _ _ _=> ?_
theorem R1{c:gE}(h:gi c):Dn (λ_:fS×Unit=>True) (sq [c]):=by
 unfold sq;dsimp only
 repeat first |exact .ret (by assumption) trivial|refine .iteP rfl ?_|refine .br (λ_=> ?_) λ_=> ?_|refine .bind (gY (by assumption) _) λ_ _ _ _=> ?_|refine .bind (kO (by assumption) _) λ_ _ _ _=> ?_|refine .bind (jn (by assumption) (by simp)) λ_ _ _ _=> ?_|refine .bind (K3 (by assumption)) λ_ _ _ _=> ?_
def Ro{σ ε:Type}(I:σ->Prop)(E:ε->Prop)(r:Option (σ⊕ε)):Prop:=(∃s,r=some (.inl s)/\I s)\/ ∃e,r=some (.inr e)/\E e
section
variable {σ ε α:Type} {I:σ->Prop} {E:ε->Prop} {Q:α->Prop}
omit [eg] in
theorem Ro.again{s:σ}(h:I s):Ro I E (some (.inl s)):=.inl ⟨s,rfl,h⟩
omit [eg] in
theorem Ro.done{e:ε}(h:E e):Ro I E (some (.inr e)):=.inr ⟨e,rfl,h⟩
omit [eg] in
theorem Ro.iteP{p:Prop}[Decidable p]{x y:Option (σ⊕ε)}(hp:p)(h:Ro I E x):Ro I E (iteP p x y):=by rw[fv hp];exact h
omit [eg] in
theorem Ro.br{b:Bool}{x y:Option (σ⊕ε)}(h1:b=true->Ro I E x)(h2:b=false->Ro I E y):Ro I E (br b x y):=by
 cases b with
 |true=>exact h1 rfl
 |false=>exact h2 rfl
theorem Ro.draw{r:Option (List gE×α)}{k:List gE×α->Option (σ⊕ε)}(h:Dn Q r)(hk: ∀c a,gi c->Q a->Ro I E (k ([c],a))):Ro I E (r.bind k):=by obtain⟨c,a,rfl,h1,h2⟩:=h;exact hk c a h1 h2
omit [eg] in
theorem IG{B:σ->Option (σ⊕ε)}(μ:σ->Nat)(h: ∀s,I s->Ro (λs'=>I s'/\μ s'<μ s) E (B s)){s:σ}(hs:I s): ∃e,hO B s=some e/\E e:=
 tC I μ E (λs hs=>(h s hs).imp (λ⟨s',a,b,c⟩=>⟨s',a,b,c⟩) id) hs
end
theorem K4{c:gE}(h:gi c){n:Int}(h0:0<=n){evs:List fS}{M:Nat}(hM:evs.length+n.toNat<=M)(hM2:M<=1000):Dn (λy:List fS×Unit=>y.1.length<=M) ((qg (((),(),n,()),(()),[c],evs,())).bind λe=>some e.2.2):=by
 unfold qg
 obtain⟨⟨_,_,l,ps,_⟩,h1,c2,rfl,h2,h3⟩:=IG (B:=nz) (I:=λs=> ∃c,s.2.2.1= [c] /\gi c/\0<=s.1.2.2.1/\s.2.2.2.1.length+s.1.2.2.1.toNat<=M) (E:=λe=> ∃c,e.2.2.1= [c] /\gi c/\e.2.2.2.1.length<=M) (λs=>s.1.2.2.1.toNat) (by
  rintro⟨⟨_,_,k,_⟩,_,l,ps,_⟩ ⟨c,rfl,hc,h0,h1⟩
  simp only at h0 h1;unfold nz;refine .br (λhk=> ?_) λhk=> .done ⟨c,rfl,hc,by show ps.length<=M;omega⟩;have hk:k>0:=of_decide_eq_true hk;have e:IntKind.wrap .i64 (k-1)=k-1:=fm (by omega) (by omega)
  have gC: ∀ (c:gE) (x:fS),gi c->Ro (λs': (Unit×Unit×Int×Unit)×Unit×List gE×List fS×Unit=>(∃c,s'.2.2.1= [c] /\gi c/\0<=s'.1.2.2.1/\s'.2.2.2.1.length+s'.1.2.2.1.toNat<=M)/\s'.1.2.2.1.toNat<k.toNat) (λe: (Unit×Unit)×Unit×List gE×List fS×Unit=> ∃c,e.2.2.1= [c] /\gi c/\e.2.2.2.1.length<=M) (iteP ((ps++ [x]).length*80<=2 ^ 40) (some (.inl (((),(),IntKind.wrap .i64 (k-1),()),(()),[c],ps++ [x],()))) none):=λc x hc=>by refine .iteP (by simp only[ax,az];omega) (.again ?_);simp only[e];exact⟨⟨c,rfl,hc,by omega,by simp only[ax,az];omega⟩,by omega⟩
  refine .draw (R1 hc) λc1 _ h1 _=> .iteP rfl (.br (λ_=> .draw (kO h1 _) λc2 _ h2 _=> .iteP rfl (.br (λ_=> .draw (jn h2 (by simp)) λc3 _ h3 _=> .iteP rfl (gC _ _ h3)) λ_=>gC _ _ h2)) λ_=>gC _ _ h1)) (s:=(((),(),n,()),(()),[c],evs,())) ⟨c,rfl,h,h0,hM⟩
 rw[h1];exact⟨c2,_,rfl,h2,h3⟩
theorem Pv{c:gE}(h:gi c){n:Int}(h0:0<=n)(hn:n<=100):Dn (λy:List fS×Unit=>y.1.length<=200) (qC [c] n):=by
 unfold qC;rw[fm (n:=n+1) (by omega) (by omega)];refine .bind (gY h _) λc1 _ h1 _=> .iteP rfl (.bind (gY h1 _) λc2 _ h2 _=> .iteP rfl (.bind (kO h2 _) λc3 _ h3 _=> .iteP rfl (.br (λ_=> ?_) λ_=> ?_)))
 ·exact .bind (nn h3 (by omega)) λc4 y h4 hy=> .iteP rfl (K4 h4 hy.1 (by have:=hy.2;simp only[bo,ck];omega) (by omega))
 ·exact .bind (nn h3 (by omega)) λc4 y h4 hy=> .iteP rfl (K4 h4 hy.1 (by have:=hy.2;simp only[bo,ck];omega) (by omega))
theorem R2{c:gE}(h:gi c):Dn (λy:List Int×Unit=>y.1.length=5) (sS [c]):=by
 unfold sS Ax
 obtain⟨⟨_,_,l,ps,_⟩,h1,c2,rfl,h2,h3⟩:=IG (B:=pm) (I:=λs=> ∃c,s.2.2.1= [c] /\gi c/\0<=s.1.2.2.1/\s.1.2.2.1<=5/\(s.2.2.2.1.length:Int)=s.1.2.2.1) (E:=λe=> ∃c,e.2.2.1= [c] /\gi c/\e.2.2.2.1.length=5) (λs=>(5-s.1.2.2.1).toNat) (by
  rintro⟨⟨_,_,k,_⟩,_,l,ps,_⟩ ⟨c,rfl,hc,h0,h1,h2⟩
  simp only at h0 h1 h2;unfold pm;refine .br (λhk=> ?_) λhk=> .done ⟨c,rfl,hc,by have : ¬k<5:=of_decide_eq_false hk;show ps.length=5;omega⟩;have hk:k<5:=of_decide_eq_true hk;refine .draw (jn hc (by simp)) λc1 _ h1 _=> .iteP rfl (.iteP (by simp only[ax,az];omega) (.again ?_));simp only;rw[fm (n:=k+1) (by omega) (by omega)];exact⟨⟨c1,rfl,h1,by omega,by omega,by simp only[ax,az];omega⟩,by omega⟩) (s:=(((),(),0,()),(()),[c],([]:List Int),())) ⟨c,rfl,h,bU _,by simp,by simp⟩
 rw[h1];exact⟨c2,_,rfl,h2,h3⟩
theorem R3{c:gE}(h:gi c):Dn (λy:List eA×Unit=>y.1.length<=6) (xW [c]):=by
 unfold xW;refine .bind (nn h (by decide)) λc0 y0 hc0 hy0=> .iteP rfl ?_;unfold GV
 obtain⟨⟨_,_,l,ps,_⟩,h1,c2,rfl,h2,h3⟩:=IG (B:=uR) (I:=λs=> ∃c,s.2.2.1= [c] /\gi c/\0<=s.1.2.2.2.1/\s.2.2.2.1.length+s.1.2.2.2.1.toNat<=6) (E:=λe=> ∃c,e.2.2.1= [c] /\gi c/\e.2.2.2.1.length<=6) (λs=>s.1.2.2.2.1.toNat) (by
  rintro⟨⟨_,_,g,k,_⟩,_,l,ps,_⟩ ⟨c,rfl,hc,h0,h1⟩
  simp only at h0 h1;unfold uR;refine .br (λhk=> ?_) λhk=> .done ⟨c,rfl,hc,by show ps.length<=6;omega⟩;have hk:k>0:=of_decide_eq_true hk;have e:IntKind.wrap .i64 (k-1)=k-1:=fm (by omega) (by omega);refine .draw (kO hc _) λc1 _ h1 _=> .iteP rfl (.br (λ_=> .draw (K3 h1) λc2 _ h2 _=> .iteP rfl (.iteP (by simp only[ax,az];omega) (.again ?_))) λ_=> .draw (K3 h1) λc2 _ h2 _=> .iteP rfl (.iteP (by simp only[ax,az];omega) (.again ?_)))
  all_goals
   simp only[e];exact⟨⟨c2,rfl,h2,by omega,by simp only[ax,az];omega⟩,by omega⟩) (s:=(((),(),1,y0.1,()),(()),[c0],([]:List eA),())) ⟨c0,rfl,hc0,hy0.1,by have:=hy0.2;simp;omega⟩
 rw[h1];exact⟨c2,_,rfl,h2,h3⟩
theorem K5{c:gE}(h:gi c):Dn (λ_:Op×Unit=>True) (xX [c]):=by
 unfold xX;refine .bind (K3 h) λ_ _ _ _=> ?_
 repeat first |exact .ret (by assumption) trivial|refine .iteP rfl ?_|refine .br (λ_=> ?_) λ_=> ?_|refine .bind (gY (by assumption) _) λ_ _ _ _=> ?_|refine .bind (kO (by assumption) _) λ_ _ _ _=> ?_|refine .bind (jn (by assumption) (by simp)) λ_ _ _ _=> ?_
theorem Pw{c:gE}(h:gi c):Dn (λy:List eA×Unit=>y.1.length<=17) (Az [c]):=by
 unfold Az;refine .bind (R3 h) λc1 y h1 hy=> .iteP rfl (.bind (gY h1 _) λc2 _ h2 _=> .iteP rfl (.br (λ_=> ?_) λ_=> .br (λ_=> ?_) λ_=> .ret h2 (by show y.1.length<=17;omega)))
 ·refine .bind (jn h2 (by simp)) λc3 _ h3 _=> .iteP rfl (.bind (K5 h3) λc4 z h4 _=> .iteP rfl ?_);have e: ∀x:eA,(y.1++ [x]).length<=17:=λx=>by simp only[ax,az];omega
  exact .iteP (aP (bg _ (e _)) (by decide)) (.ret h4 (e _))
 ·unfold GX
  obtain⟨⟨_,_,l,ps,_⟩,h1,c2,rfl,h2,h3⟩:=IG (B:=rM) (I:=λs=> ∃c,s.2.2.1= [c] /\gi c/\s.2.2.2.1.length<=17) (E:=λe=> ∃c,e.2.2.1= [c] /\gi c/\e.2.2.2.1.length<=17) (λs=>17-s.2.2.2.1.length) (by
   rintro⟨⟨_,_,_⟩,_,l,ps,_⟩ ⟨c,rfl,hc,h0⟩
   simp only at h0;unfold rM;refine .br (λhk=> ?_) λhk=> .done ⟨c,rfl,hc,h0⟩;have hk: (ps.length:Int)<17:=of_decide_eq_true hk;refine .draw (K3 hc) λc1 _ h1 _=> .iteP rfl (.iteP (by simp only[ax,az];omega) (.again ?_));exact⟨⟨c1,rfl,h1,by simp only[ax,az];omega⟩,by simp only[ax,az];omega⟩) (s:=(((),(),()),(()),[c2],y.1,())) ⟨c2,rfl,h2,by show y.1.length<=17;omega⟩
  show Dn _ ((hO rM (((),(),()),(()),[_],y.1,())).bind _);rw[h1];exact⟨c2,_,rfl,h2,h3⟩
end
end
section
def jh(M:Nat)(c:ey):Prop:=c.replicas.length<=M/\c.witnesses.length<=M
def gW(M:Nat)(s:eu):Prop:=jh M s.config/\s.log.length<=M/\s.learned.length<=M
def tf(M:Nat)(m:eC):Prop:=m.configs.length<=M/\ ∀c∈m.configs,jh M c
def gD(M:Nat)(c:eh):Prop:=(c.servers.length<=M/\ ∀s∈c.servers,gW M s)/\c.sides.length<=M/\tf M c.master/\c.places.length<=M
theorem eW{n:Nat}(h:n<=1048576):n<=maxLen:=by unfold maxLen;omega
end
section
theorem pE{ρ:Type}(a b:Int)(x y:ρ):br (a==b) x y=if a=b then x else y:=by rw[WE];by_cases h:a=b<;>simp[h]
theorem ej{ρ:Type}(b:Bool)(x y:ρ):br (!b) x y=br b y x:=by cases b<;>rfl
def ll(x a b:Int):Bool:=decide (a<=x)&&decide (x<=b)
theorem ia(x a b:Int):eL x a b=some (ll x a b,()):=by unfold eL ll;rw[ez];split<;>rename_i h<;>simp[h]
theorem rG(x a b:Int):eP x a b=some (ll x a b,()):=by unfold eP ll;rw[ez];split<;>rename_i h<;>simp[h]
theorem fe{x a b:Int}:ll x a b=true↔a<=x/\x<=b:=by simp[ll]
def tg(l:List Int):Prop:=∀k (h:k<l.length),(0<=l[k] /\l[k] <=4)/\ ∀_:0<k,l[k-1]'(by omega)<l[k]
theorem vJ(l:List Int)(hl:l.length<=maxLen): (gK l=some (true,())/\jm l=some (true,())/\tg l)\/(gK l=some (false,())/\jm l=some (false,())):=by
 have gC:=mp (B1:=it) (B2:=iy) l.length (λk=>((l,(k:Int),()),(),())) (λk=>((l,l,(l.length:Int),(k:Int),()),(),())) (.inr (((),()),(),())) (.inr (((),()),(),())) (λ_=> .inl ((false,()),(),())) (λ_=> .inl ((false,()),(),()))
  (λk=> ∀h:k<l.length,(0<=l[k] /\l[k] <=4)/\ ∀_:0<k,l[k-1]'(by omega)<l[k]) (λ_=>True)
  (by simp only[it];rw[ez,if_neg (by omega)])
  (by simp only[iy];rw[ez,if_neg (by omega)])
  (λk hk=>by
    have c1: (k:Int)< (l.length:Int):=by omega
    have c2: (0:Int)<=(k:Int):=by omega
    have e1:l[k]? =some l[k] :=ah hk;simp only[it,iy,ez,eE,if_pos c1,if_pos c2,aw,e1,ae,ia,rG];cases hw:ll l[k] 0 4 with
    |false=>exact .inr ⟨rfl,rfl,trivial⟩
    |true=>
     simp only[bQ,fg];have hw:=fe.1 hw;by_cases h0:0<k
     ·have c3: (k:Int)>0:=by omega
      have c4: (0:Int)<=((k-1:Nat):Int):=by omega
      have e2:l[k-1]? =some l[k-1] :=ah (by omega);simp only[if_pos c3,jW h0 (by omega),if_pos c4,aw,e2,ae];by_cases hlt:l[k-1]<l[k]
      ·rw[if_neg (by omega),if_neg (by omega),ei hl hk];exact .inl ⟨rfl,rfl,λ_=>⟨hw,λ_=>hlt⟩⟩
      ·rw[if_pos (by omega),if_pos (by omega)];exact .inr ⟨rfl,rfl,trivial⟩
     ·rw[if_neg (by omega),if_neg (by omega),ei hl hk];exact .inl ⟨rfl,rfl,λ_=>⟨hw,λh=>absurd h h0⟩⟩)
 unfold gK jm;rcases gC with ⟨k1,k2,k3⟩| ⟨k,_,k1,k2,_⟩
 ·rw[show oX ((l,0,()),(),())=_ from k1,show pu ((l,l,(l.length:Int),0,()),(),())=_ from k2];exact .inl ⟨rfl,rfl,λk hk=>k3 k hk hk⟩
 ·rw[show oX ((l,0,()),(),())=_ from k1,show pu ((l,l,(l.length:Int),0,()),(),())=_ from k2];exact .inr ⟨rfl,rfl⟩
theorem tg.lt{l:List Int}(h:tg l): ∀ (d i:Nat) (h2:i+d+1<l.length),l[i]'(by omega)<l[i+d+1] :=by
 intro d
 induction d with
 |zero=>intro i h2;exact (h (i+1) h2).2 (by omega)
 |succ d ih=>intro i h2;have h1:=ih i (by omega);have h3:=(h (i+d+1+1) h2).2 (by omega);exact Int.lt_trans h1 h3
theorem tg.pair{l:List Int}(h:tg l):l.Pairwise (· < ·):=by rw[bH];intro i j hi hj hij;have:=h.lt (j-i-1) i (by omega);simpa [show i+(j-i-1)+1=j by omega] using this
theorem tg.len{l:List Int}(h:tg l):l.length<=5:=by
 have ge: ∀k (hk:k<l.length),(k:Int)<=l[k] :=by
  intro k
  induction k with
  |zero=>intro hk;exact (h 0 hk).1.1
  |succ k ih=>intro hk;have h1:=ih (by omega);have h2:=(h (k+1) hk).2 (by omega);simp only[b9] at h2;omega
 rcases cM 5 l.length with hlt|hge
 ·have h1:=ge 5 hlt;have h2:=(h 5 hlt).1.2;omega
 ·exact hge
theorem gP(l:List Int)(x:Int)(hl:l.length<=maxLen):fI l x=some (decide (x∈l),())/\lw l x=some (decide (x∈l),()):=by
 have gC:=mp (B1:=l6) (B2:=lc) l.length (λk=>((l,x,(k:Int),()),(),())) (λk=>((l,x,(l.length:Int),(k:Int),()),(),())) (.inr (((),()),(),())) (.inr (((),()),(),())) (λ_=> .inl ((true,()),(),())) (λk=> .inl (((k:Int),()),(),()))
  (λk=>l[k]? ≠some x) (λk=>l[k]? =some x)
  (by simp only[l6];rw[ez,if_neg (by omega)])
  (by simp only[lc];rw[ez,if_neg (by omega)])
  (λk hk=>by
    have c1: (k:Int)< (l.length:Int):=by omega
    have c2: (0:Int)<=(k:Int):=by omega
    have e1:l[k]? =some l[k] :=ah hk;simp only[l6,lc,ez,eE,if_pos c1,if_pos c2,aw,e1,ae,ei hl hk,pE];by_cases he:l[k] =x
    ·rw[if_pos he,if_pos he.symm,he];exact .inr ⟨rfl,rfl,rfl⟩
    ·rw[if_neg he,if_neg (λh=>he h.symm)];exact .inl ⟨rfl,rfl,λh=>he (Option.some.inj h)⟩)
 unfold fI lw nY rE;rcases gC with ⟨k1,k2,k3⟩| ⟨k,hk,k1,k2,k3⟩
 ·rw[show tZ ((l,x,0,()),(),())=_ from k1,show sU ((l,x,(l.length:Int),0,()),(),())=_ from k2]
  have hn:x∉l:=λh=>by obtain⟨k,hk,he⟩:=aL h;exact k3 k hk (by rw[ah hk,he])
  rw[decide_eq_false hn];exact⟨rfl,rfl⟩
 ·rw[show tZ ((l,x,0,()),(),())=_ from k1,show sU ((l,x,(l.length:Int),0,()),(),())=_ from k2];rw[decide_eq_true (ap k3)];refine⟨rfl,?_⟩;simp only[ae,cQ];rw[decide_eq_true (by omega)]
end
section
theorem mr{n:Nat}(h:n<=1048576):n*8<=2 ^ 40:=by
 have : (2:Nat) ^ 40=1099511627776:=by decide
 omega
theorem IH(l:List Int)(x:Int)(hl:l.length<=1000)(h: ∀y∈l,y<x):kM l x=some (l++ [x],()):=by
 have hm:l.length<=maxLen:=by unfold maxLen;omega
 have gC:=lO (B:=m0) l (λk (_:Unit)=>((l,x,(k:Int),()),(),())) (λ_ _=>True) (λk r _=>((l,x,((k+r.length:Nat):Int),()),(),()))
  (λb hb=>by simp only[m0];rw[ez,if_neg (by omega)];rfl)
  (λk b y hy hb=>by
    have hk:=i9 hy;have c1: (k:Int)< (l.length:Int):=by omega
    have c2: (0:Int)<=(k:Int):=by omega
    refine .inl ⟨(),?_,trivial,?_⟩
    ·simp only[m0,ez,eE,if_pos c1,if_pos c2,aw,hy,ae,if_pos (h y (ap hy)),ei hm hk]
    ·rw[bo,show k+((l.drop (k+1)).length+1)=k+1+(l.drop (k+1)).length by omega])
  0 () (aB _) trivial
 unfold kM;rw[show Bq ((l,x,0,()),(),())=_ from gC];simp only[ae,bM,aK];have c0: ¬ ((l.length:Int)< (l.length:Int)):=by omega
 have d1: (0:Int)<=0/\(0:Int)<=(l.length:Int)/\(l.length:Int)<=(l.length:Int):=by omega
 have d2: (0:Int)<=(l.length:Int)/\(l.length:Int)<=(l.length:Int)/\(l.length:Int)<=(l.length:Int):=by omega
 simp only[ez,if_neg c0,eE,if_pos d1,if_pos d2,aw,dC,bM,cO,dq,dp,bS,bq,be];rw[if_pos (mr (by omega)),if_pos (mr (by simp;omega))];exact if_pos (mr (by simp;omega))
theorem AI(a b:List Int)(ha:tg a)(hb:b.length<=maxLen):ja a b=some (a.filter λx=>decide (x∈b),()):=by
 have hl:=ha.len;have hm:a.length<=maxLen:=by unfold maxLen;omega
 have hp:=ha.pair
 have gC:=lO (B:=i6) a (λk (out:List Int)=>((a,b,(),(k:Int),()),(),(out,()))) (λk out=>out=(a.take k).filter λx=>decide (x∈b)) (λk r out=>(((),()),(),(out++r.filter λx=>decide (x∈b),())))
  (λout hb=>by simp only[i6];rw[ez,if_neg (by omega)];simp)
  (λk out x hx hout=>by
    have hk:=i9 hx;have c1: (k:Int)< (a.length:Int):=by omega
    have c2: (0:Int)<=(k:Int):=by omega
    have hxe:a[k] =x:=by rw[ah hk] at hx;exact Option.some.inj hx
    simp only[i6,ez,eE,if_pos c1,if_pos c2,aw,hx,ae,(gP b x hb).1,ei hm hk];by_cases hin:x∈b
    ·have hlt: ∀y∈out,y<x:=by
      intro y hy;rw[hout,cT] at hy;obtain⟨i,hi,he⟩:=aL hy.1;have hi':i<k:=by simp at hi;omega
      rw[cY] at he;rw[<-he,<-hxe];exact bH.1 hp i k (by omega) hk hi'
     have hol:out.length<=1000:=by rw[hout];have:=dv (λx=>decide (x∈b)) (a.take k);simp at this;omega
     simp only[if_pos hin,IH out x hol hlt,ae];refine .inl ⟨out++ [x],rfl,?_,?_⟩
     ·rw[hout,bI,hx,cm];simp[hin]
     ·simp[hin]
    ·simp only[if_neg hin];refine .inl ⟨out,rfl,?_,?_⟩
     ·rw[hout,bI,hx,cm];simp[hin]
     ·simp[hin])
  0 [] (aB _) rfl
 unfold ja;rw[show tH ((a,b,(),0,()),(),([],()))=_ from gC];rfl
theorem Ff{n:Nat}(hn:n<=5): ∃m,xi (IntKind.wrap .u64 (n:Int))=some (m,()):=by
 have :n=0\/n=1\/n=2\/n=3\/n=4\/n=5:=by omega
 rcases this with rfl|rfl|rfl|rfl|rfl|rfl
 ·exact⟨0,by kernel_rfl⟩
 ·exact⟨1,by kernel_rfl⟩
 ·exact⟨2,by kernel_rfl⟩
 ·exact⟨2,by kernel_rfl⟩
 ·exact⟨3,by kernel_rfl⟩
 ·exact⟨3,by kernel_rfl⟩
theorem Px(l:List Int)(ha:tg l):fi l 0 (l.length:Int)=some (l,()):=by
 have hl:=ha.len;have hm:l.length<=maxLen:=by unfold maxLen;omega
 have inner: ∀k (hk:k<l.length),0<k->gr (((),0,(l.length:Int),(k:Int),(k:Int),()),(),(l,()))=some (((),0,(l.length:Int),(k:Int),()),(),(l,())):=by
  intro k hk h0;refine jG ?_;have c1: (k:Int)>0:=by omega
  have c2: (0:Int)<=(k:Int)/\(k:Int)< (l.length:Int):=by omega
  have c3: (0:Int)<=((k-1:Nat):Int)/\((k-1:Nat):Int)< (l.length:Int):=by omega
  have e1:l[k]? =some l[k] :=ah hk;have e2:l[k-1]? =some l[k-1] :=ah (by omega);have hlt:=(ha k hk).2 h0
  have less:lG l[k] l[k-1] =some (false,()):=by unfold lG ma;simp only[beq_self_eq_true,bQ,ae,fg];rw[decide_eq_false (by omega)]
  simp only[eZ,ez,eE,if_pos c1,if_pos c2,jW h0 (by omega),if_pos c3,aw,e1,e2,ae,less,fg]
 have outer:=tC (B:=eJ) (λs=> ∃k:Nat,0<k/\s=(((),0,(l.length:Int),(k:Int),()),(),(l,()))) (λs=>l.length-s.1.2.2.2.1.toNat) (λe=>e=((()),(),(l,())))
  (λs hs=>by
    obtain⟨k,h0,rfl⟩:=hs;by_cases hk:k<l.length
    ·have c1: (k:Int)< (l.length:Int):=by omega
     refine .inl ⟨(((),0,(l.length:Int),((k+1:Nat):Int),()),(),(l,())),?_,⟨k+1,by omega,rfl⟩,?_⟩
     ·simp only[eJ,ez,if_pos c1,inner k hk h0,ae,ei hm hk]
     ·simp only[aw];omega
    ·have c1: ¬ (k:Int)< (l.length:Int):=by omega
     exact .inr ⟨_,by simp only[eJ,ez,if_neg c1],rfl⟩)
  (s:=(((),0,(l.length:Int),((1:Nat):Int),()),(),(l,()))) ⟨1,by omega,rfl⟩
 obtain⟨e,h1,rfl⟩:=outer;unfold fi;rw[show IntKind.wrap .i64 ((0:Int)+1)=((1:Nat):Int) from by rw[fm (by omega) (by omega)];rfl,show gt (((),0,(l.length:Int),((1:Nat):Int),()),(),(l,()))=_ from h1];rfl
theorem R4(l:List Int)(ha:tg l):jN l=some (l,()):=by
 have hl:=ha.len;obtain⟨m,hm⟩:=Ff hl
 have hp:fP l 0 (l.length:Int) m=some (l,()):=by
  unfold fP
  have :jM (((),0,(l.length:Int),m,true,true,()),(),(l,()))=some ((()),(),(l,())):=by refine jG ?_;simp only[gG];rw[fm (by omega) (by omega),ez,if_pos (by omega),Px l ha,ae,fv rfl]
  rw[this];rfl
 unfold jN;simp only[hm,ae,hp];exact fv trivial _ _
theorem K6(l:List Int)(ha:tg l):iz l=some (l,()):=by
 have hl:=ha.len;have hm:l.length<=maxLen:=by unfold maxLen;omega
 unfold iz;rw[ez];split
 ·rfl
 ·have gC:=tC (B:=fF) (λs=> ∃k:Nat,0<k/\k<=l.length/\s=(((),(k:Int),()),(),(l,()))) (λs=>l.length-s.1.2.1.toNat) (λe=>e= .inr (((),(),()),(),(l,())))
   (λs hs=>by
     obtain⟨k,h0,hkl,rfl⟩:=hs;by_cases hk:k<l.length
     ·have c1: (k:Int)< (l.length:Int):=by omega
      have c2: (0:Int)<=(k:Int)/\(k:Int)< (l.length:Int):=by omega
      have c3: (0:Int)<=((k-1:Nat):Int)/\((k-1:Nat):Int)< (l.length:Int):=by omega
      have e1:l[k]? =some l[k] :=ah hk;have e2:l[k-1]? =some l[k-1] :=ah (by omega);have hlt:=(ha k hk).2 h0;refine .inl ⟨(((),((k+1:Nat):Int),()),(),(l,())),?_,⟨k+1,by omega,by omega,rfl⟩,?_⟩
      ·simp only[fF,ez,eE,if_pos c1,if_pos c2,jW h0 (by omega),if_pos c3,aw,e1,e2,ae,pE,ei hm hk];rw[if_neg (by omega)]
      ·simp only[aw];omega
     ·have c1: ¬ (k:Int)< (l.length:Int):=by omega
      exact .inr ⟨_,by simp only[fF,ez,if_neg c1],rfl⟩)
   (s:=(((),((1:Nat):Int),()),(),(l,()))) ⟨1,by omega,by omega,rfl⟩
  obtain⟨e,h1,rfl⟩:=gC;rw[show nv (((),1,()),(),(l,()))=_ from h1];rfl
theorem Py(l:List Int)(ha:tg l):lx l=some (l,()):=by have hl:=ha.len;unfold lx jl;rw[fv (mr (by omega)),ae,R4 l ha,ae,fv rfl,K6 l ha];rfl
end
section
theorem s7{σ ε:Type}{B:σ->Option (σ⊕ε)}(n:Nat)(m:Nat->σ)(t:ε)(f:Nat->ε)(p:Nat->Bool)(h0:B (m n)=some (.inr t))(h: ∀k,k<n->B (m k)=some (if p k=true then .inr (f k) else .inl (m (k+1)))):
  (hO B (m 0)=some t/\ ∀k,k<n->p k=false)\/ ∃k,k<n/\hO B (m 0)=some (f k)/\p k=true/\ ∀j,j<k->p j=false:=by
 have gC: ∀d j,j+d=n->(hO B (m j)=some t/\ ∀k,j<=k->k<n->p k=false)\/ ∃k,k<n/\hO B (m j)=some (f k)/\p k=true/\ ∀i,j<=i->i<k->p i=false:=by
  intro d
  induction d with
  |zero=>
   intro j hj;have :j=n:=by omega
   subst this;exact .inl ⟨jG h0,λk a b=>by omega⟩
  |succ d ih=>
   intro j hj;have h1:=h j (by omega);cases hp:p j with
   |true=>rw[hp,if_pos rfl] at h1;exact .inr ⟨j,by omega,jG h1,hp,λi a b=>by omega⟩
   |false=>
    rw[hp,if_neg (by simp)] at h1;rw[sn h1];rcases ih (j+1) (by omega) with ⟨k1,k2⟩| ⟨k,k0,k1,k2,k3⟩
    ·refine .inl ⟨k1,λk a b=> ?_⟩;rcases ef a with rfl|a
     ·exact hp
     ·exact k2 k a b
    ·refine .inr ⟨k,k0,k1,k2,λi a b=> ?_⟩;rcases ef a with rfl|a
     ·exact hp
     ·exact k3 i a b
 rcases gC n 0 (by omega) with ⟨a,b⟩| ⟨k,a,b,c,d⟩
 ·exact .inl ⟨a,λk hk=>b k (aB _) hk⟩
 ·exact .inr ⟨k,a,b,c,λj hj=>d j (aB _) hj⟩
theorem II{σ1 ε1 σ2 ε2 β:Type}{B1:σ1->Option (σ1⊕ε1)}{B2:σ2->Option (σ2⊕ε2)}(n:Nat)(m1:Nat->β->σ1)(m2:Nat->β->σ2)(J:Nat->β->Prop)(E1:β->ε1)(E2:β->ε2)
  (h0: ∀b,J n b->B1 (m1 n b)=some (.inr (E1 b))/\B2 (m2 n b)=some (.inr (E2 b)))
  (h1: ∀k b,k<n->J k b-> ∃b',B1 (m1 k b)=some (.inl (m1 (k+1) b'))/\B2 (m2 k b)=some (.inl (m2 (k+1) b'))/\J (k+1) b')
  (b:β) (hb:J 0 b): ∃b',J n b'/\hO B1 (m1 0 b)=some (E1 b')/\hO B2 (m2 0 b)=some (E2 b'):=by
 have go: ∀ (d k:Nat) (b:β),k+d=n->J k b-> ∃b',J n b'/\hO B1 (m1 k b)=some (E1 b')/\hO B2 (m2 k b)=some (E2 b'):=by
  intro d
  induction d with
  |zero=>
   intro k b hk hj;have :k=n:=by omega
   subst this;exact⟨b,hj,jG (h0 b hj).1,jG (h0 b hj).2⟩
  |succ d ih=>intro k b hk hj;obtain⟨b',p1,p2,p3⟩:=h1 k b (by omega) hj;obtain⟨c,q1,q2,q3⟩:=ih (k+1) b' (by omega) p3;exact⟨c,q1,by rw[sn p1];exact q2,by rw[sn p2];exact q3⟩
 exact go n 0 b (by omega) hb
theorem Cz{l:List Int}{p:Int->Bool}(h: ∀x∈l,p x=true):l.filter p=l:=List.filter_eq_self.2 h
theorem ML(a b:List Int)(ha:a.length<=1000)(hb:b.length<=maxLen):fk a b=some (a.filter λx=> !decide (x∈b),()):=by
 have hm:a.length<=maxLen:=by unfold maxLen;omega
 have hm':a.length<=9223372036854775807:=hm
 have has: ∀x,iC x b=some (decide (x∈b),()):=by intro x;unfold iC;rw[(gP b x hb).2];rfl
 have find:=s7 (B:=eX) a.length (λk=>((a,(b,()),(a.length:Int),(k:Int),()),(),())) (.inr (((),()),(),())) (λk=> .inl (((k:Int),()),(),())) (λk=>match a[k]? with |some x=>decide (x∈b)|none=>false)
  (by simp only[eX];rw[ez,if_neg (by omega)])
  (λk hk=>by
    have c1: (k:Int)< (a.length:Int):=by omega
    have c2: (0:Int)<=(k:Int):=by omega
    simp only[eX,ez,eE,if_pos c1,if_pos c2,aw,ah hk,ae,has,ei hm hk];by_cases hin:a[k] ∈b<;>simp[hin])
 unfold fk fY;rcases find with ⟨k1,k2⟩| ⟨i,hi,k1,k2,k3⟩
 ·rw[show gM ((a,(b,()),(a.length:Int),0,()),(),())=_ from k1];simp only[ae,cH,beq_self_eq_true,eI];rw[Cz λx hx=> ?_];obtain⟨k,hk,rfl⟩:=aL hx;have:=k2 k hk;rw[ah hk] at this;simpa using this
 ·rw[show gM ((a,(b,()),(a.length:Int),0,()),(),())=_ from k1]
  have hne: ((i:Int)== -1)=false:=by simp only[beq_eq_false_iff_ne,ne_eq];omega
  simp only[ae,cQ,hne,fg,ei hm hi];rw[ah hi] at k2
  have loop:=tC (B:=eS) (λs=> ∃ (i j:Nat) (v:List Int),s=(((),(b,()),(i:Int),(j:Int),()),(),(v,()))/\i<=j/\j<=a.length/\v.length=a.length/\v.take i=(a.take j).filter (λx=> !decide (x∈b))/\v.drop j=a.drop j) (λs=>a.length-s.1.2.2.2.1.toNat)
   (λe=> ∃ (i:Nat) (v:List Int),e=(((),(i:Int),()),(),(v,()))/\i<=a.length/\v.length=a.length/\v.take i=a.filter (λx=> !decide (x∈b)))
   (λs hs=>by
     obtain⟨i,j,v,rfl,hij,hj,hv,ht,hd⟩:=hs;by_cases hlt:j<a.length
     ·have c1: (j:Int)< (v.length:Int):=by omega
      have c2: (0:Int)<=(j:Int)/\(j:Int)< (v.length:Int):=by omega
      have c3: (0:Int)<=(i:Int)/\(i:Int)< (v.length:Int):=by omega
      have e1:v[j]? =some a[j] :=by have:=congrArg (λl:List Int=>l[0]?) hd;simpa [bA,ah hlt] using this
      have e2:v[i]? =some (v[i]'(by omega)):=ah _;have hta:a.take (j+1)=a.take j++ [a[j]] :=by rw[bI,ah hlt];rfl
      have hdd:v.drop (j+1)=a.drop (j+1):=by have:=congrArg (List.drop 1) hd;simpa [cu,cq] using this
      left;simp only[eS,ez,eE,if_pos c1,if_pos c2,aw,e1,ae,has,if_pos c3,e2,ei hm hlt,ej,ei hm (show i<a.length by omega)];by_cases hin:a[j] ∈b
      ·rw[if_pos hin];refine⟨_,rfl,⟨i,j+1,v,rfl,by omega,by omega,hv,?_,hdd⟩,?_⟩
       ·rw[ht,hta,cm];simp[hin]
       ·simp only[aw];omega
      ·rw[if_neg hin];refine⟨_,rfl,⟨i+1,j+1,v.set i a[j],rfl,by omega,by omega,by simp[hv],?_,?_⟩,?_⟩
       ·rw[yr _ (by omega),ht,hta,cm];simp[hin]
       ·rw[dA (by omega),hdd]
       ·simp only[aw];omega
     ·have :j=a.length:=by omega
      subst this;right;refine⟨_,by simp only[eS];rw[ez,if_neg (by omega)],⟨i,v,rfl,hij,hv,?_⟩⟩;rw[ht,bq])
   (s:=(((),(b,()),(i:Int),((i+1:Nat):Int),()),(),(a,()))) ⟨i,i+1,a,rfl,by omega,by omega,rfl,by
     have hta:a.take (i+1)=a.take i++ [a[i]] :=by rw[bI,ah hi];rfl
     rw[hta,cm,Cz (l:=a.take i) λx hx=> ?_]
     ·simp only[decide_eq_true_eq] at k2;simp[k2]
     ·obtain⟨j,hj,rfl⟩:=aL hx;have hj':j<i:=by simp at hj;omega
      have:=k3 j hj';rw[ah (by omega)] at this;rw[cY];simpa using this,rfl⟩
  obtain⟨e,h1,i',v,rfl,h2,h3,h4⟩:=loop;rw[show iI (((),(b,()),(i:Int),((i+1:Nat):Int),()),(),(a,()))=_ from h1];have d1: (0:Int)<=(i':Int)/\(i':Int)<=(v.length:Int)/\(v.length:Int)<=((v.length:Nat):Int):=by omega
  have d2:i'+(v.length-i')<=v.length:=by omega
  have d3: (0:Int)<=0/\(0:Int)<=(i':Int)/\(i':Int)<=((v.length:Nat):Int):=by omega
  simp only[ae,aw,dC,aK,cO,eE,if_pos d1,if_pos d2,if_pos d3];rw[if_pos ⟨trivial,by simp;omega⟩];rw[bn,dh (by simp;omega),List.take_take,Nat.min_self,h4]
theorem K7(a b:List Int)(ha:tg a)(hb:b.length<=maxLen):jA a b=some (a.filter λx=> !decide (x∈b),()):=by have hl:=ha.len;unfold jA;rw[Py a ha,ae,ML a b (by omega) hb];rfl
theorem Uy(a b:List Int)(ha:tg a)(hb:b.length<=maxLen):lX a b=some (a.filter λx=>decide (x∈b),()):=by
 have hl:=ha.len;unfold lX;rw[K7 a b ha hb];simp only[ae]
 rw[K7 a (a.filter λx=> !decide (x∈b)) ha (by have:=dv (λx=> !decide (x∈b)) a;unfold maxLen;omega)]
 simp only[ae]
 congr 2
 apply List.filter_congr;intro x hx;simp[cT,hx]
theorem oG(c:ey)(h:jh maxLen c):Ae (eN c) (je c):=by
 unfold eN je;simp only[ia,rG,ae];cases ll c.epoch 1 20 with
 |false=>exact⟨_,rfl,rfl⟩
 |true=>
  rcases vJ c.replicas h.1 with ⟨a1,a2,a3⟩| ⟨a1,a2⟩
  ·rcases vJ c.witnesses h.2 with ⟨b1,b2,b3⟩| ⟨b1,b2⟩
   ·simp only[a1,a2,b1,b2,ae,eI,(gP c.replicas c.primary h.1).1,(gP c.replicas c.primary h.1).2,AI _ _ a3 h.2,Uy _ _ a3 h.2];cases decide (c.primary∈c.replicas)<;>exact⟨_,rfl,rfl⟩
   ·simp only[a1,a2,b1,b2,ae,eI,fg];exact⟨_,rfl,rfl⟩
  ·simp only[a1,a2,ae,eI,fg];exact⟨_,rfl,rfl⟩
end
section
theorem AJ(l:List Int)(hl:l.length<=maxLen):Ae (jH l) (pZ l):=by
 have gC:=mp (B1:=mZ) (B2:=fr) l.length (λk=>((l,(k:Int),()),(),())) (λk=>((l,(),(l.length:Int),(k:Int),()),(),())) (.inr ((l,(),()),(),())) (.inr (((),()),(),())) (λ_=> .inl ((l,false,()),(),())) (λk=> .inl (((k:Int),()),(),()))
  (λ_=>True) (λ_=>True)
  (by simp only[mZ];rw[ez,if_neg (by omega)])
  (by simp only[fr];rw[ez,if_neg (by omega)])
  (λk hk=>by
    have c1: (k:Int)< (l.length:Int):=by omega
    have c2: (0:Int)<=(k:Int):=by omega
    simp only[mZ,fr,ez,eE,if_pos c1,if_pos c2,aw,ah hk,ae,qs,ia,rG,ei hl hk];cases ll l[k] 0 3 with
    |false=>exact .inr ⟨rfl,rfl,trivial⟩
    |true=>exact .inl ⟨rfl,rfl,trivial⟩)
 unfold jH pZ gq gU;rcases gC with ⟨k1,k2,_⟩| ⟨k,_,k1,k2,_⟩
 ·rw[show vy ((l,0,()),(),())=_ from k1,show iK ((l,(),(l.length:Int),0,()),(),())=_ from k2];simp only[ae,cH];cases ((l.length:Int)==5)<;>exact⟨_,rfl,rfl⟩
 ·rw[show vy ((l,0,()),(),())=_ from k1,show iK ((l,(),(l.length:Int),0,()),(),())=_ from k2];simp only[ae,cQ];rw[decide_eq_true (by omega)];cases ((l.length:Int)==5)<;>exact⟨_,rfl,rfl⟩
theorem masterLog(m:eC)(h:tf maxLen m): ∃b,fW m=some (b,())/\mc m=some (b,()):=by
 obtain⟨hl,hc⟩:=h
 have gC:=mp (B1:=fU) (B2:=j8) m.configs.length (λk=>(((),(k:Int),()),((m.configs,m.activated,()),()),())) (λk=>(((),m.configs,(m.configs.length:Int),(k:Int),()),((m.configs,m.activated,()),()),())) (.inr (((),(),()),((m.configs,m.activated,()),()),())) (.inr (((),(),()),((m.configs,m.activated,()),()),())) (λ_=> .inl (((),false,()),((m.configs,m.activated,()),()),())) (λ_=> .inl (((),false,()),((m.configs,m.activated,()),()),()))
  (λ_=>True) (λ_=>True)
  (by simp only[fU];rw[ez,if_neg (by omega)])
  (by simp only[j8];rw[ez,if_neg (by omega)])
  (λk hk=>by
    have c1: (k:Int)< (m.configs.length:Int):=by omega
    have c2: (0:Int)<=(k:Int):=by omega
    obtain⟨b,v1,v2⟩:=oG m.configs[k] (hc _ (bB hk));simp only[fU,j8,ez,eE,if_pos c1,if_pos c2,aw,ah hk,ae,v1,v2,ei hl hk,ej];cases b with
    |false=>exact .inr ⟨rfl,rfl,trivial⟩
    |true=>
     cases (m.configs[k].epoch==((k+1:Nat):Int)) with
     |false=>exact .inr ⟨rfl,rfl,trivial⟩
     |true=>exact .inl ⟨rfl,rfl,trivial⟩)
 unfold fW mc;rcases gC with ⟨k1,k2,_⟩| ⟨k,_,k1,k2,_⟩
 ·rw[show lR (((),0,()),((m.configs,m.activated,()),()),())=_ from k1,show rc (((),m.configs,(m.configs.length:Int),0,()),((m.configs,m.activated,()),()),())=_ from k2];simp only[ae,cH,ia,rG];exact⟨_,rfl,rfl⟩
 ·rw[show lR (((),0,()),((m.configs,m.activated,()),()),())=_ from k1,show rc (((),m.configs,(m.configs.length:Int),0,()),((m.configs,m.activated,()),()),())=_ from k2];exact⟨_,rfl,rfl⟩
theorem xY(x:fH):Ae (kR x) (md x):=by unfold kR md;simp only[ia,rG,ae];cases ((x.epoch==0)&&((x.holder==0)&&((x.ends==0)&&true)))<;>cases ll x.epoch 1 20<;>cases ll x.holder 0 4<;>exact⟨_,rfl,rfl⟩
theorem u7(l:List fB)(hl:l.length<=maxLen):Ae (fT l) (oE l):=by
 have gC:=mp (B1:=kA) (B2:=fj) l.length (λk=>((l,(k:Int),()),(),())) (λk=>((l,(),(l.length:Int),(k:Int),()),(),())) (.inr ((l,(),()),(),())) (.inr (((),()),(),())) (λ_=> .inl ((l,false,()),(),())) (λk=> .inl (((k:Int),()),(),()))
  (λ_=>True) (λ_=>True)
  (by simp only[kA];rw[ez,if_neg (by omega)])
  (by simp only[fj];rw[ez,if_neg (by omega)])
  (λk hk=>by
    have c1: (k:Int)< (l.length:Int):=by omega
    have c2: (0:Int)<=(k:Int):=by omega
    simp only[kA,fj,ez,eE,if_pos c1,if_pos c2,aw,ah hk,ae,pA,ia,rG,ei hl hk];cases ll l[k].rack 0 9 with
    |false=>exact .inr ⟨rfl,rfl,trivial⟩
    |true=>
     cases ll l[k].capacity 0 9 with
     |false=>exact .inr ⟨rfl,rfl,trivial⟩
     |true=>
      cases ll l[k].load 0 99 with
      |false=>exact .inr ⟨rfl,rfl,trivial⟩
      |true=>exact .inl ⟨rfl,rfl,trivial⟩)
 unfold fT oE fZ gv;rcases gC with ⟨k1,k2,_⟩| ⟨k,_,k1,k2,_⟩
 ·rw[show tX ((l,0,()),(),())=_ from k1,show ii ((l,(),(l.length:Int),0,()),(),())=_ from k2];simp only[ae,cH];cases ((l.length:Int)==5)<;>exact⟨_,rfl,rfl⟩
 ·rw[show tX ((l,0,()),(),())=_ from k1,show ii ((l,(),(l.length:Int),0,()),(),())=_ from k2];simp only[ae,cQ];rw[decide_eq_true (by omega)];cases ((l.length:Int)==5)<;>exact⟨_,rfl,rfl⟩
theorem Dc(x:Op):Ae (fJ x) (ly x):=by unfold fJ ly;simp only[ia,rG,ae];cases ll x.client 0 2<;>cases ll x.seq 1 99<;>cases ll x.object 0 2<;>cases ll x.value 0 9<;>cases (x.kind==1)<;>cases (x.kind==2)<;>cases (x.old==0)<;>exact⟨_,rfl,rfl⟩
theorem G0(l:List eA)(hl:l.length<=maxLen): (hU l=some (true,())/\rF l=some (true,())/\l.length<=16)\/(hU l=some (false,())/\rF l=some (false,())):=by
 have gC:=mp (B1:=m8) (B2:=rN) l.length (λk=>((l,(k:Int),()),(),())) (λk=>((l,l,(l.length:Int),(k:Int),()),(),())) (.inr ((l,(),()),(),())) (.inr ((l,(),()),(),())) (λ_=> .inl ((l,false,()),(),())) (λ_=> .inl ((l,false,()),(),()))
  (λ_=>True) (λ_=>True)
  (by simp only[m8];rw[ez,if_neg (by omega)])
  (by simp only[rN];rw[ez,if_neg (by omega)])
  (λk hk=>by
    have c1: (k:Int)< (l.length:Int):=by omega
    have c2: (0:Int)<=(k:Int):=by omega
    obtain⟨b,v1,v2⟩:=Dc l[k].op;simp only[m8,rN,ez,eE,if_pos c1,if_pos c2,aw,ah hk,ae,v1,v2,ia,rG,ei hl hk,ej];cases ll l[k].epoch 1 20 with
    |false=>exact .inr ⟨rfl,rfl,trivial⟩
    |true=>
     simp only[eI];by_cases h0:0<k
     ·have c3: (k:Int)>0:=by omega
      have c4: (0:Int)<=((k-1:Nat):Int):=by omega
      have e2:l[k-1]? =some l[k-1] :=ah (by omega);simp only[if_pos c3,jW h0 (by omega),if_pos c4,aw,e2,ae];by_cases hlt:l[k].epoch<l[k-1].epoch
      ·rw[if_pos hlt,if_pos (show l[k-1].epoch>l[k].epoch from hlt)];cases b<;>exact .inr ⟨rfl,rfl,trivial⟩
      ·rw[if_neg hlt,if_neg (show ¬l[k-1].epoch>l[k].epoch from hlt)];cases b with
       |false=>exact .inr ⟨rfl,rfl,trivial⟩
       |true=>exact .inl ⟨rfl,rfl,trivial⟩
     ·have c3: ¬ (k:Int)>0:=by omega
      simp only[if_neg c3];cases b with
      |false=>exact .inr ⟨rfl,rfl,trivial⟩
      |true=>exact .inl ⟨rfl,rfl,trivial⟩)
 unfold hU rF;rcases gC with ⟨k1,k2,_⟩| ⟨k,_,k1,k2,_⟩
 ·rw[show uz ((l,0,()),(),())=_ from k1,show BG ((l,l,(l.length:Int),0,()),(),())=_ from k2];simp only[ae,cH];by_cases h: (l.length:Int)<=16
  ·rw[decide_eq_true h];exact .inl ⟨rfl,rfl,by omega⟩
  ·rw[decide_eq_false h];exact .inr ⟨rfl,rfl⟩
 ·rw[show uz ((l,0,()),(),())=_ from k1,show BG ((l,l,(l.length:Int),0,()),(),())=_ from k2];exact .inr ⟨rfl,rfl⟩
theorem rH(a b:List Int)(ha:a.length<=maxLen):kS a b=some (decide (a=b),())/\lf a b=some (decide (a=b),()):=by
 unfold kS lf lH;by_cases hlen:a.length=b.length
 ·have hbe: (!((a.length:Int)==(b.length:Int)))=false:=by simp[hlen]
  have gC:=mp (B1:=jw) (B2:=jP) a.length (λk=>((a,b,(k:Int),()),(),())) (λk=>((a,b,(a.length:Int),(k:Int),()),(),())) (.inr (((),()),(),())) (.inr (((),()),(),())) (λ_=> .inl ((false,()),(),())) (λ_=> .inl ((false,()),(),()))
   (λk=>a[k]? =b[k]?) (λk=>a[k]? ≠b[k]?)
   (by simp only[jw];rw[ez,if_neg (by omega)])
   (by simp only[jP];rw[ez,if_neg (by omega)])
   (λk hk=>by
     have c1: (k:Int)< (a.length:Int):=by omega
     have c2: (0:Int)<=(k:Int):=by omega
     simp only[jw,jP,ez,eE,if_pos c1,if_pos c2,aw,ah hk,ah (show k<b.length by omega),ae,ei ha hk,ej,pE];by_cases he:a[k] =b[k]'(by omega)
     ·simp only[if_pos he];exact .inl ⟨trivial,trivial,by rw[he]⟩
     ·simp only[if_neg he];exact .inr ⟨trivial,trivial,λh=>he (Option.some.inj h)⟩)
  rw[hbe,fg,fg];rcases gC with ⟨k1,k2,k3⟩| ⟨k,hk,k1,k2,k3⟩
  ·rw[show pQ ((a,b,0,()),(),())=_ from k1,show sW ((a,b,(a.length:Int),0,()),(),())=_ from k2]
   have :a=b:=bE λk=>by
    rcases cM k a.length with h|h
    ·exact k3 k h
    ·rw[bZ h,bZ (by omega)]
   rw[decide_eq_true this];exact⟨rfl,rfl⟩
  ·rw[show pQ ((a,b,0,()),(),())=_ from k1,show sW ((a,b,(a.length:Int),0,()),(),())=_ from k2];have :a≠b:=λh=>k3 (by rw[h]);rw[decide_eq_false this];exact⟨rfl,rfl⟩
 ·have hbe: (!((a.length:Int)==(b.length:Int)))=true:=by
   simp only[b6,beq_eq_false_iff_ne,ne_eq];omega
  rw[hbe,eI,eI,decide_eq_false (λh=>hlen (by rw[h]))];exact⟨rfl,rfl⟩
theorem iX(a b:ey)(ha:jh maxLen a):iu a b=some (decide (a=b),())/\iA a b=some (decide (a=b),()):=by unfold iu iA;simp only[(rH a.replicas b.replicas ha.1).1,(rH a.replicas b.replicas ha.1).2,(rH a.witnesses b.witnesses ha.2).1,(rH a.witnesses b.witnesses ha.2).2,ae,pE,ez];obtain⟨a1,a2,a3,a4⟩:=a;obtain⟨b1,b2,b3,b4⟩:=b;simp only[ey.mk.injEq];by_cases h1:a1=b1<;>by_cases h2:a2=b2<;>by_cases h3:a3=b3<;>by_cases h4:a4=b4<;>simp[h1,h2,h3,h4]
theorem xZ(l:List eA)(hl:l.length<=maxLen): ∃n,oA l=some (n,())/\oF l=some (n,()):=by
 unfold oA oF;rcases bk l.length with h|h
 ·have : ((l.length:Int)==0)=true:=by simp[h]
  rw[this];exact⟨_,rfl,rfl⟩
 ·have : ((l.length:Int)==0)=false:=by
   simp only[beq_eq_false_iff_ne,ne_eq];omega
  rw[this,fg,jW h hl,fv (by omega),aw,ah (show l.length-1<l.length by omega)];exact⟨_,rfl,rfl⟩
theorem zL(c:ey)(x:Int)(h:jh maxLen c): ∃n,lS c x=some (n,())/\uU c x=some (n,())/\(n=0\/n=1\/n=2\/n=3):=by unfold lS uU;obtain⟨b,v1,v2⟩:=oG c h;simp only[v1,v2,ae,(gP c.replicas x h.1).1,(gP c.replicas x h.1).2,(gP c.witnesses x h.2).1,(gP c.witnesses x h.2).2];cases b<;>cases (x==c.primary)<;>cases decide (x∈c.replicas)<;>cases decide (x∈c.witnesses)<;>exact⟨_,rfl,rfl,by decide⟩
end
section
theorem fu{c:ey}(h:jh 1048576 c):jh maxLen c:=⟨eW h.1,eW h.2⟩
theorem np{m:eC}(h:tf 1048576 m):tf maxLen m:=⟨eW h.1,λc hc=>fu (h.2 c hc)⟩
theorem AK(c:ey)(h:jh maxLen c):l7 c=some (decide (c=⟨0,0,[],[]⟩),()):=by unfold l7;rw[(iX c _ h).1];rfl
theorem xp(s:eu)(id:Int)(h:gW 1048576 s):Ae (fC s id) (ka s id):=by
 have hc:=fu h.1;unfold fC ka;simp only[ia,rG,ae,ej];cases ll s.version 1 2 with
 |false=>exact⟨_,rfl,rfl⟩
 |true=>
 cases ll s.epoch 0 20 with
 |false=>exact⟨_,rfl,rfl⟩
 |true=>
 rcases G0 s.log (eW h.2.1) with ⟨a1,a2,a3⟩| ⟨a1,a2⟩
 case inr=>simp only[a1,a2,ae,eI,fg];exact⟨_,rfl,rfl⟩
 rcases G0 s.learned (eW h.2.2) with ⟨b1,b2,b3⟩| ⟨b1,b2⟩
 case inr=>simp only[a1,a2,b1,b2,ae,eI,fg];exact⟨_,rfl,rfl⟩
 simp only[a1,a2,b1,b2,ae,eI];cases hw:ll s.first 0 16 with
 |false=>exact⟨_,rfl,rfl⟩
 |true=>
 have hf:=fe.1 hw;rw[fm (n:=s.first+(s.log.length:Int)) (by omega) (by omega)];by_cases h16:s.first+(s.log.length:Int)<=16
 case neg=>
  have e1:ll (s.first+(s.log.length:Int)) 0 16=false:=by unfold ll;simp;omega
  simp only[e1,eI,fg,ez,if_pos (show s.first+(s.log.length:Int)>16 by omega)];exact⟨_,rfl,rfl⟩
 have e1:ll (s.first+(s.log.length:Int)) 0 16=true:=fe.2 ⟨by omega,h16⟩;simp only[e1,eI,ez,if_neg (show ¬s.first+(s.log.length:Int)>16 by omega),AK s.config hc,(iX s.config ⟨0,0,[],[]⟩ hc).2,ae];cases ll s.commit 0 (s.first+(s.log.length:Int)) with
 |false=>exact⟨_,rfl,rfl⟩
 |true=>
 simp only[eI];by_cases hz:s.config=⟨0,0,[],[]⟩
 ·simp only[if_pos hz];cases (s.first==0)<;>cases (s.commit==0)<;>cases ((s.log.length:Int)==0)<;>exact⟨_,rfl,rfl⟩
 ·simp only[if_neg hz];cases s.intact with
  |false=>exact⟨_,rfl,rfl⟩
  |true=>
  simp only[eI];by_cases he:s.epoch<s.config.epoch
  ·simp only[if_pos he];exact⟨_,rfl,rfl⟩
  ·simp only[if_neg he];obtain⟨n,n1,n2⟩:=xZ s.log (eW h.2.1);simp only[n1,n2,ae];by_cases hn:n>s.config.epoch
   ·simp only[if_pos hn];exact⟨_,rfl,rfl⟩
   ·simp only[if_neg hn];obtain⟨r,r1,r2,r3⟩:=zL s.config id hc;simp only[r1,r2,ae];rcases r3 with rfl|rfl|rfl|rfl
    ·exact⟨_,rfl,rfl⟩
    ·exact⟨_,rfl,rfl⟩
    ·exact⟨_,rfl,rfl⟩
    ·have ht:xm s.first s.log=some (decide ((s.log.length:Int)<=3)&&((s.first==0)||((s.log.length:Int)==3)),()):=by
      unfold xm;simp only[a2,rG,ae,eI,ez];rw[fm (by omega) (by omega),show ll s.first 0 (16-(s.log.length:Int))=true from fe.2 ⟨by omega,by omega⟩];by_cases h3: (s.log.length:Int)<=3
      ·rw[if_pos h3,decide_eq_true h3];cases (s.first==0)<;>cases ((s.log.length:Int)==3)<;>rfl
      ·rw[if_neg h3,decide_eq_false h3];rfl
     rw[ht];by_cases h3: (s.log.length:Int)<=3
     ·rw[if_pos h3,decide_eq_true h3];cases (s.first==0)<;>cases ((s.log.length:Int)==3)<;>exact⟨_,rfl,rfl⟩
     ·rw[if_neg h3,decide_eq_false h3];exact⟨_,rfl,rfl⟩
theorem Fg(m:eC)(e:Int)(h:tf 1048576 m): ∃c b,jI m e=some (c,b,())/\om m e=some (c,b,())/\jh maxLen c:=by
 obtain⟨b,m1,m2⟩:=masterLog m (np h);have zero:jh maxLen ⟨0,0,[],[]⟩:=⟨aB _,aB _⟩
 have hl:=h.1;unfold jI om;simp only[m1,m2,ia,rG,ae,ej];cases b with
 |false=>exact⟨_,_,rfl,rfl,zero⟩
 |true=>
  cases hw:ll e 1 (m.configs.length:Int) with
  |false=>exact⟨_,_,rfl,rfl,zero⟩
  |true=>
   have hw:=fe.1 hw;simp only[eI];rw[fm (n:=e-1) (by omega) (by omega)];have hlt: (e-1).toNat<m.configs.length:=by omega
   have hk:=h.2 _ (bB hlt)
   have copy: ∀c:ey,jh 1048576 c->kQ c=some (c,())/\iw c=some (c,()):=by intro c hc;unfold kQ iw;simp only[be];rw[fv (mr hc.1),fv (mr hc.2)];exact⟨rfl,rfl⟩
   rw[fv (by omega),fv (by omega),ah hlt];simp only[ae,(copy _ hk).1,(copy _ hk).2];exact⟨_,_,rfl,rfl,fu hk⟩
theorem jo(x:eh)(h:gD 1048576 x):Ae (ew x) (lg x):=by
 obtain⟨⟨hs1,hs2⟩,hsd,hml,hpl⟩:=h;have hm:=eW hs1
 have gC:=mp (B1:=fh) (B2:=iR) x.servers.length (λk=>(((),(k:Int),()),((x.now,x.servers,x.sides,x.master.configs,x.master.activated,x.masterUp,x.lease.epoch,x.lease.holder,x.lease.ends,x.places,()),()),())) (λk=>(((),x.servers,(x.servers.length:Int),(k:Int),()),((x.now,x.servers,x.sides,x.master.configs,x.master.activated,x.masterUp,x.lease.epoch,x.lease.holder,x.lease.ends,x.places,()),()),())) (.inr (((),()),(),())) (.inr (((),()),(),())) (λ_=> .inl ((false,()),(),())) (λ_=> .inl ((false,()),(),()))
  (λ_=>True) (λ_=>True)
  (by simp only[fh];rw[ez,if_neg (by omega)])
  (by simp only[iR];rw[ez,if_neg (by omega)])
  (λk hk=>by
    have c1: (k:Int)< (x.servers.length:Int):=by omega
    have c2: (0:Int)<=(k:Int):=by omega
    have hsk:=hs2 _ (bB hk);obtain⟨b,v1,v2⟩:=xp x.servers[k] (k:Int) hsk;obtain⟨n,n1,n2⟩:=xZ x.servers[k].learned (eW hsk.2.2);obtain⟨c,d,d1,d2,d3⟩:=Fg x.master x.servers[k].config.epoch hml;have hcfg:=fu hsk.1
    simp only[fh,iR,ez,eE,if_pos c1,if_pos c2,aw,ah hk,ae,v1,v2,n1,n2,ei hm hk,ej,
     show (⟨x.master.configs,x.master.activated⟩:eC)=x.master from rfl,d1,d2,AK _ hcfg,(iX _ (⟨0,0,[],[]⟩:ey) hcfg).2,(iX c x.servers[k].config d3).1,(iX c x.servers[k].config d3).2]
    cases b with
    |false=>exact .inr ⟨rfl,rfl,trivial⟩
    |true=>
     simp only[eI];by_cases h1:x.servers[k].epoch>(x.master.configs.length:Int)
     ·simp only[if_pos h1];exact .inr ⟨trivial,trivial,trivial⟩
     ·simp only[if_neg h1];by_cases h2:n>x.master.activated
      ·simp only[if_pos h2];exact .inr ⟨trivial,trivial,trivial⟩
      ·simp only[if_neg h2];by_cases h3:x.servers[k].config=⟨0,0,[],[]⟩
       ·simp only[if_pos h3];exact .inl ⟨trivial,trivial,trivial⟩
       ·simp only[if_neg h3];cases d with
        |false=>exact .inr ⟨rfl,rfl,trivial⟩
        |true=>
         simp only[eI];by_cases h4:c=x.servers[k].config
         ·simp only[if_pos h4];by_cases h5:x.servers[k].config.epoch>x.master.activated
          ·simp only[if_pos h5];exact .inr ⟨trivial,trivial,trivial⟩
          ·simp only[if_neg h5];exact .inl ⟨trivial,trivial,trivial⟩
         ·simp only[if_neg h4];exact .inr ⟨trivial,trivial,trivial⟩)
 unfold ew lg;obtain⟨b1,a1,a2⟩:=AJ x.sides (eW hsd);obtain⟨b2,m1,m2⟩:=masterLog x.master (np hml);obtain⟨b3,l1,l2⟩:=xY x.lease;obtain⟨b4,p1,p2⟩:=u7 x.places (eW hpl);simp only[ia,rG,a1,a2,m1,m2,l1,l2,p1,p2,ae,ej,ez];cases ll x.now 0 999 with
 |false=>exact⟨_,rfl,rfl⟩
 |true=>
 cases ((x.servers.length:Int)==5) with
 |false=>exact⟨_,rfl,rfl⟩
 |true=>
 cases b1 with
 |false=>exact⟨_,rfl,rfl⟩
 |true=>
 cases b2 with
 |false=>exact⟨_,rfl,rfl⟩
 |true=>
 cases ll x.masterUp 0 3 with
 |false=>cases b3<;>cases b4<;>exact⟨_,rfl,rfl⟩
 |true=>
 cases b3 with
 |false=>exact⟨_,rfl,rfl⟩
 |true=>
 cases b4 with
 |false=>exact⟨_,rfl,rfl⟩
 |true=>
 simp only[eI];by_cases h1:x.lease.epoch>x.master.activated
 ·simp only[if_pos h1];exact⟨_,rfl,rfl⟩
 ·simp only[if_neg h1];rcases gC with ⟨k1,k2,_⟩| ⟨k,_,k1,k2,_⟩
  ·rw[show lC (((),0,()),((x.now,x.servers,x.sides,x.master.configs,x.master.activated,x.masterUp,x.lease.epoch,x.lease.holder,x.lease.ends,x.places,()),()),())=_ from k1,show oo (((),x.servers,(x.servers.length:Int),0,()),((x.now,x.servers,x.sides,x.master.configs,x.master.activated,x.masterUp,x.lease.epoch,x.lease.holder,x.lease.ends,x.places,()),()),())=_ from k2];exact⟨_,rfl,rfl⟩
  ·rw[show lC (((),0,()),((x.now,x.servers,x.sides,x.master.configs,x.master.activated,x.masterUp,x.lease.epoch,x.lease.holder,x.lease.ends,x.places,()),()),())=_ from k1,show oo (((),x.servers,(x.servers.length:Int),0,()),((x.now,x.servers,x.sides,x.master.configs,x.master.activated,x.masterUp,x.lease.epoch,x.lease.holder,x.lease.ends,x.places,()),()),())=_ from k2];exact⟨_,rfl,rfl⟩
end
section
theorem xq{c:ey}(h:jh maxLen c)(hv:eN c=some (true,())):tg c.replicas/\tg c.witnesses/\c.primary∈c.replicas/\1<=c.epoch/\c.epoch<=20/\ ∀x∈c.replicas,x∉c.witnesses:=by
 unfold eN at hv;simp only[ia,ae] at hv;cases hw:ll c.epoch 1 20 with
 |false=>rw[hw] at hv;cases hv
 |true=>
  rw[hw] at hv;rcases vJ c.replicas h.1 with ⟨a1,a2,a3⟩| ⟨a1,a2⟩
  ·rcases vJ c.witnesses h.2 with ⟨b1,b2,b3⟩| ⟨b1,b2⟩
   ·simp only[a1,b1,ae,eI,(gP c.replicas c.primary h.1).1,AI _ _ a3 h.2,ez] at hv;by_cases hp:c.primary∈c.replicas
    ·rw[if_pos hp] at hv;refine⟨a3,b3,hp,(fe.1 hw).1,(fe.1 hw).2,λx hx hxw=> ?_⟩
     have hz: ((((c.replicas.filter λx=>decide (x∈c.witnesses)).length:Nat):Int)==0)=true:=by simpa using hv
     have hz: (c.replicas.filter λx=>decide (x∈c.witnesses)).length=0:=by simp only[beq_iff_eq] at hz;omega
     have:=bD hz;have hm:x∈c.replicas.filter λx=>decide (x∈c.witnesses):=by simp[cT,hx,hxw]
     rw[this] at hm;cases hm
    ·rw[if_neg hp] at hv;cases hv
   ·simp only[a1,b1,ae,eI,fg] at hv;cases hv
  ·simp only[a1,ae,eI,fg] at hv;cases hv
theorem IJ{m:eC}(h:tf maxLen m)(hv:fW m=some (true,())): (∀k (hk:k<m.configs.length),eN m.configs[k] =some (true,())/\m.configs[k].epoch=(k:Int)+1)/\0<=m.activated/\m.activated<=(m.configs.length:Int):=by
 obtain⟨hl,hc⟩:=h
 have gC:=mp (B1:=fU) (B2:=fU) m.configs.length (λk=>(((),(k:Int),()),((m.configs,m.activated,()),()),())) (λk=>(((),(k:Int),()),((m.configs,m.activated,()),()),())) (.inr (((),(),()),((m.configs,m.activated,()),()),())) (.inr (((),(),()),((m.configs,m.activated,()),()),())) (λ_=> .inl (((),false,()),((m.configs,m.activated,()),()),())) (λ_=> .inl (((),false,()),((m.configs,m.activated,()),()),()))
  (λk=> ∀hk:k<m.configs.length,eN m.configs[k] =some (true,())/\m.configs[k].epoch=(k:Int)+1) (λ_=>True)
  (by simp only[fU];rw[ez,if_neg (by omega)])
  (by simp only[fU];rw[ez,if_neg (by omega)])
  (λk hk=>by
    have c1: (k:Int)< (m.configs.length:Int):=by omega
    have c2: (0:Int)<=(k:Int):=by omega
    obtain⟨b,v1,v2⟩:=oG m.configs[k] (hc _ (bB hk))
    have step:fU (((),(k:Int),()),((m.configs,m.activated,()),()),())=br b (br (m.configs[k].epoch==((k+1:Nat):Int)) (some (.inl (((),((k+1:Nat):Int),()),((m.configs,m.activated,()),()),()))) (some (.inr (.inl (((),false,()),((m.configs,m.activated,()),()),()))))) (some (.inr (.inl (((),false,()),((m.configs,m.activated,()),()),())))):=by simp only[fU,ez,eE,if_pos c1,if_pos c2,aw,ah hk,ae,v1,ei hl hk,ej]
    rw[step];cases b with
    |false=>exact .inr ⟨rfl,rfl,trivial⟩
    |true=>
     rw[eI,pE];by_cases he:m.configs[k].epoch=((k+1:Nat):Int)
     ·rw[if_pos he];exact .inl ⟨rfl,rfl,λ_=>⟨v1,by omega⟩⟩
     ·rw[if_neg he];exact .inr ⟨rfl,rfl,trivial⟩)
 unfold fW at hv;rcases gC with ⟨k1,_,k3⟩| ⟨k,_,k1,_,_⟩
 ·rw[show lR (((),0,()),((m.configs,m.activated,()),()),())=_ from k1] at hv;simp only[ae,cH,ia,af,ao,and_true] at hv;exact⟨λk hk=>k3 k hk hk,(fe.1 hv).1,(fe.1 hv).2⟩
 ·rw[show lR (((),0,()),((m.configs,m.activated,()),()),())=_ from k1] at hv;cases hv
theorem Fh{s:eu}{id:Int}(h:gW 1048576 s)(hv:fC s id=some (true,())):0<=s.first/\s.first<=16/\s.log.length<=16/\0<=s.commit/\s.commit<=s.first+(s.log.length:Int)/\hU s.log=some (true,())/\hU s.learned=some (true,())/\0<=s.epoch/\s.epoch<=20:=by
 unfold fC at hv;simp only[ia,ae,ej] at hv;cases h1:ll s.version 1 2 with
 |false=>rw[h1] at hv;cases hv
 |true=>
 cases h2:ll s.epoch 0 20 with
 |false=>rw[h1,h2] at hv;cases hv
 |true=>
 rw[h1,h2] at hv;rcases G0 s.log (eW h.2.1) with ⟨a1,a2,a3⟩| ⟨a1,a2⟩
 case inr=>simp only[a1,ae,eI,fg] at hv;cases hv
 rcases G0 s.learned (eW h.2.2) with ⟨b1,b2,b3⟩| ⟨b1,b2⟩
 case inr=>simp only[a1,b1,ae,eI,fg] at hv;cases hv
 simp only[a1,b1,ae,eI] at hv;cases hw:ll s.first 0 16 with
 |false=>rw[hw] at hv;cases hv
 |true=>
 have hf:=fe.1 hw;rw[hw,fm (n:=s.first+(s.log.length:Int)) (by omega) (by omega)] at hv;simp only[eI] at hv;cases h3:ll (s.first+(s.log.length:Int)) 0 16 with
 |false=>rw[h3] at hv;cases hv
 |true=>
 cases h4:ll s.commit 0 (s.first+(s.log.length:Int)) with
 |false=>rw[h3,h4] at hv;cases hv
 |true=>
 exact⟨hf.1,hf.2,a3,(fe.1 h4).1,(fe.1 h4).2,a1,b1,(fe.1 h2).1,(fe.1 h2).2⟩
structure VC (x:eh):Prop where
 len:x.servers.length=5
 ml:fW x.master=some (true,())
 sides:jH x.sides=some (true,())
 places:fT x.places=some (true,())
 lease:kR x.lease=some (true,())
 now:0<=x.now/\x.now<=999
 up:0<=x.masterUp/\x.masterUp<=3
 srv: ∀k (hk:k<x.servers.length),fC x.servers[k] (k:Int)=some (true,())
theorem jR{x:eh}(h:gD 1048576 x)(hv:ew x=some (true,())):VC x:=by
 obtain⟨⟨hs1,hs2⟩,hsd,hml,hpl⟩:=h;have hm:=eW hs1
 have gC:=mp (B1:=fh) (B2:=fh) x.servers.length (λk=>(((),(k:Int),()),((x.now,x.servers,x.sides,x.master.configs,x.master.activated,x.masterUp,x.lease.epoch,x.lease.holder,x.lease.ends,x.places,()),()),())) (λk=>(((),(k:Int),()),((x.now,x.servers,x.sides,x.master.configs,x.master.activated,x.masterUp,x.lease.epoch,x.lease.holder,x.lease.ends,x.places,()),()),())) (.inr (((),()),(),())) (.inr (((),()),(),())) (λ_=> .inl ((false,()),(),())) (λ_=> .inl ((false,()),(),()))
  (λk=> ∀hk:k<x.servers.length,fC x.servers[k] (k:Int)=some (true,())) (λ_=>True)
  (by simp only[fh];rw[ez,if_neg (by omega)])
  (by simp only[fh];rw[ez,if_neg (by omega)])
  (λk hk=>by
    have c1: (k:Int)< (x.servers.length:Int):=by omega
    have c2: (0:Int)<=(k:Int):=by omega
    have hsk:=hs2 _ (bB hk);obtain⟨b,v1,v2⟩:=xp x.servers[k] (k:Int) hsk;obtain⟨n,n1,n2⟩:=xZ x.servers[k].learned (eW hsk.2.2);obtain⟨c,d,d1,d2,d3⟩:=Fg x.master x.servers[k].config.epoch hml;have hcfg:=fu hsk.1
    have step:fh (((),(k:Int),()),((x.now,x.servers,x.sides,x.master.configs,x.master.activated,x.masterUp,x.lease.epoch,x.lease.holder,x.lease.ends,x.places,()),()),())=some (.inr (.inl ((false,()),(),())))\/(b=true/\fh (((),(k:Int),()),((x.now,x.servers,x.sides,x.master.configs,x.master.activated,x.masterUp,x.lease.epoch,x.lease.holder,x.lease.ends,x.places,()),()),())=some (.inl (((),((k+1:Nat):Int),()),((x.now,x.servers,x.sides,x.master.configs,x.master.activated,x.masterUp,x.lease.epoch,x.lease.holder,x.lease.ends,x.places,()),()),()))):=by
     simp only[fh,ez,eE,if_pos c1,if_pos c2,aw,ah hk,ae,v1,n1,ei hm hk,ej,
      show (⟨x.master.configs,x.master.activated⟩:eC)=x.master from rfl,d1,AK _ hcfg,(iX c x.servers[k].config d3).1]
     cases b with
     |false=>exact .inl rfl
     |true=>
      simp only[eI]
      repeat' split
      all_goals first |exact .inl trivial|exact .inr ⟨trivial,trivial⟩| (cases d<;>first |exact .inl rfl| (simp only[eI];repeat' split)<;>first |exact .inl trivial|exact .inr ⟨trivial,trivial⟩)
    rcases step with h1| ⟨rfl,h1⟩
    ·rw[h1];exact .inr ⟨rfl,rfl,trivial⟩
    ·rw[h1];exact .inl ⟨rfl,rfl,λ_=>v1⟩)
 unfold ew at hv;obtain⟨b1,a1,a2⟩:=AJ x.sides (eW hsd);obtain⟨b2,m1,m2⟩:=masterLog x.master (np hml);obtain⟨b3,l1,l2⟩:=xY x.lease;obtain⟨b4,p1,p2⟩:=u7 x.places (eW hpl);simp only[ia,a1,m1,l1,p1,ae,ej,ez] at hv;cases h1:ll x.now 0 999 with
 |false=>rw[h1] at hv;cases hv
 |true=>
 cases h2: ((x.servers.length:Int)==5) with
 |false=>rw[h1,h2] at hv;cases hv
 |true=>
 cases b1 with
 |false=>rw[h1,h2] at hv;cases hv
 |true=>
 cases b2 with
 |false=>rw[h1,h2] at hv;cases hv
 |true=>
 cases h3:ll x.masterUp 0 3 with
 |false=>rw[h1,h2,h3] at hv;cases hv
 |true=>
 cases b3 with
 |false=>rw[h1,h2,h3] at hv;cases hv
 |true=>
 cases b4 with
 |false=>rw[h1,h2,h3] at hv;cases hv
 |true=>
 rw[h1,h2,h3] at hv;simp only[eI] at hv;by_cases h4:x.lease.epoch>x.master.activated
 ·rw[if_pos h4] at hv;cases hv
 ·rw[if_neg h4] at hv;rcases gC with ⟨k1,_,k3⟩| ⟨k,_,k1,_,_⟩
  ·refine⟨?_,m1,a1,p1,l1,fe.1 h1,fe.1 h3,λk hk=>k3 k hk hk⟩;simp only[beq_iff_eq] at h2;omega
  ·rw[show lC (((),0,()),((x.now,x.servers,x.sides,x.master.configs,x.master.activated,x.masterUp,x.lease.epoch,x.lease.holder,x.lease.ends,x.places,()),()),())=_ from k1] at hv;cases hv
end
section

end
section
section
variable {α:Type}
end
end
section

end
section
theorem C3{n c:Nat}(h:n<=1048577)(hc:c<=1000):n*c<=2 ^ 40:=by
 have h1:n*c<=1048577*1000:=Nat.mul_le_mul h hc;have h2: (2:Nat) ^ 40=1099511627776:=by decide
 omega
theorem x0(c:ey)(h:jh 1048576 c):kQ c=some (c,())/\iw c=some (c,()):=by have a:=h.1;have b:=h.2;unfold kQ iw;simp only[be,eE,if_pos (C3 (ch a) (show 8<=1000 by decide)),if_pos (C3 (ch b) (show 8<=1000 by decide))];exact⟨trivial,trivial⟩
theorem ya(l:List eA)(h:l.length<=1048576):iZ l=some (l,())/\mL l=some (l,()):=by unfold iZ mL;simp only[be,eE,if_pos (C3 (ch h) (show 56<=1000 by decide))];exact⟨trivial,trivial⟩
theorem Uz(l:List Int)(h:l.length<=1048576):jl l=some (l,()):=by unfold jl;simp only[eE,if_pos (C3 (ch h) (show 8<=1000 by decide))]
theorem MM(l:List fB)(h:l.length<=1048576):pp l=some (l,()):=by unfold pp;simp only[eE,if_pos (C3 (ch h) (show 24<=1000 by decide))]
theorem Dd(s:eu)(h:gW 1048576 s):jX s=some (s,())/\pn s=some (s,()):=by unfold jX pn;simp only[(x0 _ h.1).1,(x0 _ h.1).2,(ya _ h.2.1).1,(ya _ h.2.1).2,(ya _ h.2.2).1,(ya _ h.2.2).2,ae];exact⟨trivial,trivial⟩
theorem kG{α:Type}{l:List α}{k:Nat}{x:α}(h:l[k]? =some x):l.take (k+1)=l.take k++ [x] :=by rw[bI,h];rfl
theorem rI{α:Type}(l:List α)(k:Nat)(x:α)(h:l.length<=1048576): (l.take k++ [x]).length<=1048577:=by rw[ax,aR,az];omega
theorem IK(m:eC)(h:tf 1048576 m):pP m=some (m,())/\po m=some (m,()):=by
 obtain⟨hl,hc⟩:=h
 have k1:=lO (B:=oy) m.configs (λk (b:List ey)=>(((),(),(),(k:Int),()),((m.configs,m.activated,()),((),0,()),((),m.activated,()),()),(b,()))) (λk b=>b=m.configs.take k) (λ_ _ _=>(((),(),()),(((),0,()),((),m.activated,()),()),(m.configs,())))
  (λb hb=>by simp only[oy];rw[ez,if_neg (by omega),hb,bq])
  (λk b c hx hb=>by
    have hk:=i9 hx;have c1: (k:Int)< (m.configs.length:Int):=by omega
    have c2: (0:Int)<=(k:Int):=by omega
    subst hb;refine .inl ⟨m.configs.take (k+1),?_,rfl,rfl⟩;simp only[oy,ez,eE,if_pos c1,if_pos c2,aw,hx,ae,(x0 c (hc c (ap hx))).1,ei (eW hl) hk,if_pos (C3 (rI m.configs k c hl) (show 64<=1000 by decide)),kG hx])
  0 [] (aB _) rfl
 have k2:=lO (B:=k9) m.configs (λk (b:List ey)=>(((),(),m.configs,(m.configs.length:Int),(k:Int),()),(((),0,()),((),m.activated,()),()),(b,()))) (λk b=>b=m.configs.take k) (λ_ _ _=>(((),(),()),(((),0,()),((),m.activated,()),()),(m.configs,())))
  (λb hb=>by simp only[k9];rw[ez,if_neg (by omega),hb,bq])
  (λk b c hx hb=>by
    have hk:=i9 hx;have c1: (k:Int)< (m.configs.length:Int):=by omega
    have c2: (0:Int)<=(k:Int):=by omega
    subst hb;refine .inl ⟨m.configs.take (k+1),?_,rfl,rfl⟩;simp only[k9,ez,eE,if_pos c1,if_pos c2,aw,hx,ae,(x0 c (hc c (ap hx))).2,ei (eW hl) hk,if_pos (C3 (rI m.configs k c hl) (show 64<=1000 by decide)),kG hx])
  0 [] (aB _) rfl
 unfold pP po;rw[show Cn (((),(),(),0,()),((m.configs,m.activated,()),((),0,()),((),m.activated,()),()),(([]:List ey),()))=_ from k1,show xe (((),(),m.configs,(m.configs.length:Int),0,()),(((),0,()),((),m.activated,()),()),(([]:List ey),()))=_ from k2];exact⟨rfl,rfl⟩
theorem jQ(x:eh)(ok:gD 1048576 x):fA x=some (x,())/\nH x=some (x,()):=by
 obtain⟨⟨hl,hs⟩,hsd,hml,hpl⟩:=ok
 have k1:=lO (B:=oz) x.servers (λk (b:List eu)=>(((),(),(),(k:Int),()),((x.now,x.servers,x.sides,x.master.configs,x.master.activated,x.masterUp,x.lease.epoch,x.lease.holder,x.lease.ends,x.places,()),(0,(),(),(),0,0,0,0,0,(),()),(x.now,(),x.sides,x.master.configs,x.master.activated,x.masterUp,x.lease.epoch,x.lease.holder,x.lease.ends,x.places,()),()),(b,()))) (λk b=>b=x.servers.take k) (λ_ _ _=>(((),(),(),()),((x.now,x.servers,x.sides,x.master.configs,x.master.activated,x.masterUp,x.lease.epoch,x.lease.holder,x.lease.ends,x.places,()),(0,(),(),(),0,0,0,0,0,(),()),(x.now,(),x.sides,x.master.configs,x.master.activated,x.masterUp,x.lease.epoch,x.lease.holder,x.lease.ends,x.places,()),()),(x.servers,())))
  (λb hb=>by simp only[oz];rw[ez,if_neg (by omega),hb,bq])
  (λk b c hx hb=>by
    have hk:=i9 hx;have c1: (k:Int)< (x.servers.length:Int):=by omega
    have c2: (0:Int)<=(k:Int):=by omega
    subst hb;refine .inl ⟨x.servers.take (k+1),?_,rfl,rfl⟩;simp only[oz,ez,eE,if_pos c1,if_pos c2,aw,hx,ae,(Dd c (hs c (ap hx))).1,ei (eW hl) hk,if_pos (C3 (rI x.servers k c hl) (show 152<=1000 by decide)),kG hx])
  0 [] (aB _) rfl
 have k2:=lO (B:=j6) x.servers (λk (b:List eu)=>(((),(),(),x.servers,(x.servers.length:Int),(k:Int),()),((x.now,x.servers,x.sides,x.master.configs,x.master.activated,x.masterUp,x.lease.epoch,x.lease.holder,x.lease.ends,x.places,()),(0,(),(),(),0,0,0,0,0,(),()),(x.now,(),x.sides,x.master.configs,x.master.activated,x.masterUp,x.lease.epoch,x.lease.holder,x.lease.ends,x.places,()),()),(b,()))) (λk b=>b=x.servers.take k) (λ_ _ _=>(((),(),(),()),((x.now,x.servers,x.sides,x.master.configs,x.master.activated,x.masterUp,x.lease.epoch,x.lease.holder,x.lease.ends,x.places,()),(0,(),(),(),0,0,0,0,0,(),()),(x.now,(),x.sides,x.master.configs,x.master.activated,x.masterUp,x.lease.epoch,x.lease.holder,x.lease.ends,x.places,()),()),(x.servers,())))
  (λb hb=>by simp only[j6];rw[ez,if_neg (by omega),hb,bq])
  (λk b c hx hb=>by
    have hk:=i9 hx;have c1: (k:Int)< (x.servers.length:Int):=by omega
    have c2: (0:Int)<=(k:Int):=by omega
    subst hb;refine .inl ⟨x.servers.take (k+1),?_,rfl,rfl⟩;simp only[j6,ez,eE,if_pos c1,if_pos c2,aw,hx,ae,(Dd c (hs c (ap hx))).2,ei (eW hl) hk,if_pos (C3 (rI x.servers k c hl) (show 152<=1000 by decide)),kG hx])
  0 [] (aB _) rfl
 unfold fA nH
 rw[show Cq (((),(),(),0,()),((x.now,x.servers,x.sides,x.master.configs,x.master.activated,x.masterUp,x.lease.epoch,x.lease.holder,x.lease.ends,x.places,()),(0,(),(),(),0,0,0,0,0,(),()),(x.now,(),x.sides,x.master.configs,x.master.activated,x.masterUp,x.lease.epoch,x.lease.holder,x.lease.ends,x.places,()),()),(([]:List eu),()))=_ from k1,
  show v9 (((),(),(),x.servers,(x.servers.length:Int),0,()),((x.now,x.servers,x.sides,x.master.configs,x.master.activated,x.masterUp,x.lease.epoch,x.lease.holder,x.lease.ends,x.places,()),(0,(),(),(),0,0,0,0,0,(),()),(x.now,(),x.sides,x.master.configs,x.master.activated,x.masterUp,x.lease.epoch,x.lease.holder,x.lease.ends,x.places,()),()),(([]:List eu),()))=_ from k2]
 have em: (⟨x.master.configs,x.master.activated⟩:eC)=x.master:=rfl;simp only[ae,be,em,(IK _ hml).1,(IK _ hml).2,Uz _ hsd,MM _ hpl,eE,if_pos (C3 (ch hsd) (show 8<=1000 by decide)),if_pos (C3 (ch hpl) (show 24<=1000 by decide))];exact⟨trivial,trivial⟩
theorem IL(x:eh)(id:Int)(ok:gD 1048576 x): ∃b,l9 x id=some (b,())/\im x id=some (b,())/\(b=true->ew x=some (true,())/\0<=id/\id<5):=by
 obtain⟨v,v1,v2⟩:=jo x ok;unfold l9 im;simp only[v1,v2,ae,ia,rG];cases v with
 |false=>exact⟨false,rfl,rfl,nofun⟩
 |true=>refine⟨ll id 0 4,rfl,rfl,λh=>⟨rfl,?_⟩⟩;have:=fe.1 h;omega
end
section
theorem UA(n:Int)(h0:0<=n)(h1:n<=1000000):mP n=some ([],()):=by
 unfold mP;have e1:IntKind.wrap .i64 ((0:Int)-0)=0:=fm (by decide) (by decide);have e2:IntKind.wrap .i64 (n-0)=n:=by rw[fm (by omega) (by omega)];omega
 simp only[e1,e2,ez,if_neg (show ¬n<0 by omega)];by_cases h:n>0
 ·have e: (2:Int) ^ 40=1099511627776:=by decide
  have c1:0<n/\n*((8:Nat):Int)<=2 ^ 40:=⟨h,by omega⟩
  have c2: (0:Int)<=0/\(0:Int)<=0/\(0:Int)<=((n.toNat:Nat):Int):=by omega
  simp only[if_pos h,eE,if_pos c1,if_pos c2,and_self,if_true];simp
 ·simp only[if_neg h]
theorem Pz(l:List (List Int))(hl:l.length<=10)(h: ∀a∈l,a.length<=1000):nM l=some (l.flatten,()):=by
 have hm:l.length<=maxLen:=by unfold maxLen;omega
 have tot: ∀k,(l.take k).flatten.length<=k*1000:=by
  intro k
  induction k with
  |zero=>simp
  |succ k ih=>
   cases hx:l[k]? with
   |none=>
    have hle:l.length<=k:=by simpa using hx
    rw[bG hle] at ih;rw[bG (ch hle)];exact aP ih (bg _ (ci k))
   |some a=>rw[kG hx,dY,ax];have:=h a (ap hx);simp only[List.flatten_cons,List.flatten_nil,bS];rw[Nat.succ_mul];exact Nat.add_le_add ih this
 have k1:=lO (B:=kb) l (λk (n:Int)=>((l,n,l,(l.length:Int),(k:Int),()),(),())) (λk n=>n=((l.take k).flatten.length:Int)) (λ_ _ _=>((l,(l.flatten.length:Int),()),(),()))
  (λn hn=>by simp only[kb];rw[ez,if_neg (by omega),hn,bq])
  (λk n a hx hn=>by
    have hk:=i9 hx;have c1: (k:Int)< (l.length:Int):=by omega
    have c2: (0:Int)<=(k:Int):=by omega
    have t:=tot k;have ha:=h a (ap hx);have hk10:k*1000<=10000:=by omega
    refine .inl ⟨n+(a.length:Int),?_,?_,rfl⟩
    ·simp only[kb,ez,eE,if_pos c1,if_pos c2,aw,hx,ae,ei hm hk,fm (n:=n+(a.length:Int)) (by omega) (by omega),if_neg (show ¬n+(a.length:Int)<0 by omega)]
    ·rw[kG hx,dY,ax,hn];simp)
  0 0 (aB _) (by simp)
 have t:=tot l.length;rw[bq] at t
 have k2:=lO (B:=jB) l (λk (b:List Int)=>(((),l,(l.length:Int),(k:Int),()),(),(b,()))) (λk b=>b=(l.take k).flatten) (λ_ _ _=>(((),()),(),(l.flatten,())))
  (λb hb=>by simp only[jB];rw[ez,if_neg (by omega),hb,bq])
  (λk b a hx hb=>by
    have hk:=i9 hx;have c1: (k:Int)< (l.length:Int):=by omega
    have c2: (0:Int)<=(k:Int):=by omega
    have t:=tot k;have ha:=h a (ap hx);have hs: (b++a).length*8<=2 ^ 40:=C3 (by rw[hb,ax];omega) (by decide);refine .inl ⟨b++a,?_,?_,rfl⟩
    ·simp only[jB,ez,eE,if_pos c1,if_pos c2,aw,hx,ae,ei hm hk,if_pos hs]
    ·rw[kG hx,dY,hb];simp)
  0 [] (aB _) (by simp)
 unfold nM;rw[show we ((l,0,l,(l.length:Int),0,()),(),())=_ from k1];simp only[ae,UA _ (show (0:Int)<=(l.flatten.length:Int) by omega) (by omega)];rw[show uX (((),l,(l.length:Int),0,()),(),([],()))=_ from k2];rfl
end
section
def SS(l:List Int):Prop:=l.Pairwise (· < ·)
theorem SS.uniq: ∀ {a b:List Int},SS a->SS b->(∀y,y∈a↔y∈b)->a=b
 | [],[],_,_,_=>rfl
 | [],b::l,_,_,h=>by have:=(h b).2 aF;cases this
 |a::l,[],_,_,h=>by have:=(h a).1 aF;cases this
 |a::l,b::m,ha,hb,h=>by
  obtain⟨a1,a2⟩:=cd.1 ha;obtain⟨b1,b2⟩:=cd.1 hb
  have hab:a=b:=by
   rcases aV.1 ((h a).1 aF) with e|e
   ·exact e
   ·rcases aV.1 ((h b).2 aF) with f|f
    ·exact f.symm
    ·have:=b1 a e;have:=a1 b f;omega
  subst hab
  have hlm:l=m:=SS.uniq a2 b2 λy=>by
   constructor
   ·intro hy;rcases aV.1 ((h y).1 (aO _ hy)) with e|e
    ·have:=a1 y hy;omega
    ·exact e
   ·intro hy;rcases aV.1 ((h y).2 (aO _ hy)) with e|e
    ·have:=b1 y hy;omega
    ·exact e
  rw[hlm]
theorem IM{A B:List Int}{x:Int}(h:SS (A++B))(ha: ∀y∈A,y<x)(hb: ∀y∈B,x<y):SS (A++ [x] ++B):=by
 obtain⟨h1,h2,h3⟩:=co.1 h;refine co.2 ⟨co.2 ⟨h1,cx _ _,λa h b hb'=> ?_⟩,h2,λa h b hb'=> ?_⟩
 ·rw[aD.1 hb'];exact ha a h
 ·rcases aW.1 h with h|h
  ·exact h3 a h b hb'
  ·rw[aD.1 h];exact hb b hb'
theorem UB(l:List Int)(x:Int)(hl:l.length<=1000)(hs:SS l): ∃r,kM l x=some (r,())/\SS r/\(∀y,y∈r↔y=x\/y∈l)/\r.length<=l.length+1/\(x∉l->r.length=l.length+1):=by
 have hm:l.length<=maxLen:=by unfold maxLen;omega
 rcases s7 (B:=m0) l.length (λk=>((l,x,(k:Int),()),(),())) ((l,x,(l.length:Int),()),(),()) (λk=>((l,x,(k:Int),()),(),())) (λk=>match l[k]? with |some y=> !decide (y<x)|none=>false)
  (by simp only[m0];rw[ez,if_neg (by omega)])
  (λk hk=>by
    have c1: (k:Int)< (l.length:Int):=by omega
    have c2: (0:Int)<=(k:Int):=by omega
    simp only[m0,ez,eE,if_pos c1,if_pos c2,aw,ah hk,ae,ei hm hk];by_cases h:l[k]<x<;>simp[h]) with ⟨k1,k2⟩| ⟨i,hi,k1,k2,k3⟩
 ·have all: ∀y∈l,y<x:=by
   intro y hy;obtain⟨k,hk,rfl⟩:=aL hy;have:=k2 k hk;rw[ah hk] at this;simpa using this
  refine⟨l++ [x],IH l x hl all,?_,?_,?_,λ_=>by simp⟩
  ·have:=IM (A:=l) (B:=[]) (x:=x) (by simpa using hs) all (by simp);simpa using this
  ·intro y;simp[or_comm]
  ·simp
 ·rw[ah hi] at k2;simp only[b6,decide_eq_false_iff_not,Int.not_lt] at k2
  have lt: ∀y∈l.take i,y<x:=by
   intro y hy;obtain⟨j,hj,rfl⟩:=aL hy;have hj':j<i:=by simp at hj;omega
   have:=k3 j hj';rw[ah (by omega)] at this;rw[cY];simpa using this
  have hd:l.drop i=l[i]::l.drop (i+1):=bV hi;have hsp:l.take i++l.drop i=l:=cS i l
  have ge: ∀y∈l.drop i,l[i] <=y:=by
   intro y hy;rw[hd] at hy;rcases aV.1 hy with rfl|hy
   ·exact bU _
   ·have h2:SS (l.drop i):=List.Pairwise.sublist (List.drop_sublist i l) hs;rw[hd] at h2;exact dQ ((cd.1 h2).1 y hy)
  unfold kM;rw[show Bq ((l,x,0,()),(),())=_ from k1];have c1: (i:Int)< (l.length:Int):=by omega
  have c2: (0:Int)<=(i:Int):=by omega
  simp only[ae,ez,pE,eE,if_pos c1,if_pos c2,aw,ah hi,be];by_cases he:l[i] =x
  ·simp only[if_pos he,if_pos (mr (show l.length<=1048576 by omega))];refine⟨l,rfl,hs,λy=>⟨.inr,?_⟩,by omega,λh=>absurd (by rw[<-he];exact bB hi) h⟩
   rintro (rfl|h)
   ·rw[<-he];exact bB hi
   ·exact h
  ·have d1: (0:Int)<=0/\(0:Int)<=(i:Int)/\(i:Int)<=(l.length:Int):=by omega
   have d2: (0:Int)<=(i:Int)/\(i:Int)<=(l.length:Int)/\(l.length:Int)<=(l.length:Int):=by omega
   have e1: (l.drop i).take (l.length-i)=l.drop i:=bG (by simp);simp only[if_neg he,if_pos d1,if_pos d2,dC,bM,cO,e1];rw[if_pos (mr (by simp;omega)),if_pos (mr (by simp;omega)),if_pos (mr (by simp;omega))];refine⟨_,rfl,IM (by rw[hsp];exact hs) lt (λy hy=> ?_),λy=> ?_,by simp;omega,λ_=>by simp;omega⟩
   ·have:=ge y hy;omega
   ·conv=>rhs;rw[<-hsp]
    simp only[aW,aD];constructor
    ·rintro ((h|h)|h)
     ·exact .inr (.inl h)
     ·exact .inl h
     ·exact .inr (.inr h)
    ·rintro (h|h|h)
     ·exact .inl (.inr h)
     ·exact .inl (.inl h)
     ·exact .inr h
theorem VW{β:Type}(l:List Int)(hl:l.length<=500){mk:Nat->List Int->β}{ε:Type}{B:β->Option (β⊕ε)}{E:List Int->ε}
  (h0: ∀v,B (mk l.length v)=some (.inr (E v)))
  (h1: ∀k v x,l[k]? =some x->B (mk k v)=(kM v x).bind λy=>some (.inl (mk (k+1) y.1)))
  (v:List Int) (hv:SS v) (hvl:v.length<=500): ∃r,hO B (mk 0 v)=some (E r)/\SS r/\(∀y,y∈r↔y∈v\/y∈l)/\r.length<=v.length+l.length:=by
 have go: ∀ (n k:Nat) (v:List Int),k+n=l.length->SS v->v.length+n<=1000-> ∃r,hO B (mk k v)=some (E r)/\SS r/\(∀y,y∈r↔y∈v\/y∈l.drop k)/\r.length<=v.length+n:=by
  intro n
  induction n with
  |zero=>
   intro k v hk hv _;have :k=l.length:=by omega
   subst this;exact⟨v,jG (h0 v),hv,by simp,by omega⟩
  |succ n ih=>
   intro k v hk hv hn;have hlt:k<l.length:=by omega
   obtain⟨r,r1,r2,r3,r4,_⟩:=UB v l[k] (by omega) hv;obtain⟨s,s1,s2,s3,s4⟩:=ih (k+1) r (by omega) r2 (by omega);refine⟨s,?_,s2,λy=> ?_,by omega⟩
   ·rw[sn (by rw[h1 k v _ (ah hlt),r1];rfl)];exact s1
   ·rw[s3,r3,bV hlt,aV];constructor
    ·rintro ((h|h)|h)
     ·exact .inr (.inl h)
     ·exact .inl h
     ·exact .inr (.inr h)
    ·rintro (h|h|h)
     ·exact .inl (.inr h)
     ·exact .inl (.inl h)
     ·exact .inr h
 obtain⟨r,h1,h2,h3,h4⟩:=go l.length 0 v (by omega) hv (by omega);rw[bM] at h3;exact⟨r,h1,h2,h3,h4⟩
theorem MN(a b:List Int)(ha:a.length<=100)(hb:b.length<=100): ∃r,kU a b=some (r,())/\SS r/\(∀y,y∈r↔y∈a\/y∈b)/\r.length<=a.length+b.length:=by
 have am:a.length<=maxLen:=by unfold maxLen;omega
 have bm:b.length<=maxLen:=by unfold maxLen;omega
 obtain⟨r,r1,r2,r3,r4⟩:=VW (B:=jx) (mk:=λk v=>((a,b,(),(k:Int),()),(),(v,()))) (E:=λv=>((b,(),()),(),(v,()))) a (by omega)
  (λv=>by simp only[jx];rw[ez,if_neg (by omega)])
  (λk v x hx=>by
    have hk:=i9 hx;have c1: (k:Int)< (a.length:Int):=by omega
    have c2: (0:Int)<=(k:Int):=by omega
    simp only[jx,ez,eE,if_pos c1,if_pos c2,aw,hx,ae,ei am hk])
  [] List.Pairwise.nil (aB _)
 obtain⟨s,s1,s2,s3,s4⟩:=VW (B:=jy) (mk:=λk v=>((b,(),(k:Int),()),(),(v,()))) (E:=λv=>(((),()),(),(v,()))) b (by omega)
  (λv=>by simp only[jy];rw[ez,if_neg (by omega)])
  (λk v x hx=>by
    have hk:=i9 hx;have c1: (k:Int)< (b.length:Int):=by omega
    have c2: (0:Int)<=(k:Int):=by omega
    simp only[jy,ez,eE,if_pos c1,if_pos c2,aw,hx,ae,ei bm hk])
  r r2 (by simp at r4;omega)
 unfold kU;rw[show uF ((a,b,(),0,()),(),([],()))=_ from r1];simp only[ae];rw[show uH ((b,(),0,()),(),(r,()))=_ from s1];refine⟨s,rfl,s2,λy=> ?_,by simp at r4;omega⟩;rw[s3,r3];simp
def SL(l:List Int):Prop:=l.Pairwise (· <= ·)
theorem UC(A R:List Int)(a x:Int): ((A++a::x::R).set (A.length+1) a).set A.length x=A++x::a::R:=by
 induction A with
 |nil=>rfl
 |cons b A ih=>simp only[cK,bo,List.set_cons_succ,ih]
theorem R5(D:List Int)(n k:Int)(x:Int)(hn:n<=12): ∀ (A C:List Int),A.length+C.length+D.length<=12->SL (A++C)->(∀c∈C,x<c)->
  ∃Q,gr (((),0,n,k,(A.length:Int),()),(),(A++x:: (C++D),()))=some (((),0,n,k,()),(),(Q++D,()))/\SL Q/\Q.Perm (x:: (A++C)):=by
 intro A
 induction h:A.length generalizing A with
 |zero=>intro C hl hs hc;have :A= [] :=dg.1 h;subst this;refine⟨x::C,jG ?_,cd.2 ⟨λc h=>dQ (hc c h),hs⟩,by simp⟩;simp only[eZ,ez];rw[if_neg (by simp)];rfl
 |succ m ih=>
  intro C hl hs hc;obtain⟨A',a,rfl⟩: ∃A' a,A=A'++ [a] :=⟨A.dropLast,A.getLast (by intro e;subst e;simp at h),(List.dropLast_concat_getLast _).symm⟩
  have hm:A'.length=m:=by simpa using h
  have c1: ((m+1:Nat):Int)>0:=by omega
  have hlen: ((A'++ [a])++x:: (C++D)).length=m+2+C.length+D.length:=by simp;omega
  have c2: (0:Int)<=((m+1:Nat):Int)/\((m+1:Nat):Int)< (((A'++ [a])++x:: (C++D)).length:Int):=by rw[hlen];omega
  have c3: (0:Int)<=((m+1-1:Nat):Int)/\((m+1-1:Nat):Int)< (((A'++ [a])++x:: (C++D)).length:Int):=by rw[hlen];omega
  have e1: ((A'++ [a])++x:: (C++D))[m+1]? =some x:=by rw[<-h,bc (by simp)];simp
  have e2: ((A'++ [a])++x:: (C++D))[m+1-1]? =some a:=by rw[ba (by simp;omega),bc (by omega)];simp[hm]
  have pw:IntKind.wrap .i64 (((m+1:Nat):Int)-1)=((m+1-1:Nat):Int):=jW (by omega) (by unfold maxLen;omega)
  have less:lG x a=some (decide (x<a),()):=by unfold lG ma;simp only[beq_self_eq_true,bQ,ae,fg]
  by_cases hxa:x<a
  ·have hsw: (((A'++ [a])++x:: (C++D)).set (m+1) a).set (m+1-1) x=A'++x:: ((a::C)++D):=by
    have:=UC A' (C++D) a x;rw[hm] at this;simpa using this
   have c5:m+1-1< (((A'++ [a])++x:: (C++D)).set (m+1) a).length:=by rw[bz,hlen];omega
   have hz:=ah c5
   obtain⟨Q,q1,q2,q3⟩:=ih A' hm (a::C) (by simp at hl ⊢;omega) (by simpa using hs) (λc h=>by
    rcases aV.1 h with rfl|h
    ·exact hxa
    ·exact hc c h)
   refine⟨Q,?_,q2,q3.trans (by simp)⟩;unfold gr at q1 ⊢;rw[<-q1];refine sn ?_;simp only[eZ,ez,eE,if_pos c1,if_pos c2,pw,if_pos c3,aw,e1,e2,ae,less,if_pos hxa,hz,hsw];rfl
  ·have hall: ∀y∈A',y<=a:=by
    intro y hy;have h1:SL (A'++ [a]):=(co.1 hs).1;exact (co.1 h1).2.2 y hy a (by simp)
   refine⟨(A'++ [a])++x::C,?_,?_,?_⟩
   ·refine jG ?_;rw[show (A'++ [a])++x::C++D=(A'++ [a])++x:: (C++D) by simp];simp only[eZ,ez,eE,if_pos c1,if_pos c2,pw,if_pos c3,aw,e1,e2,ae,less,if_neg hxa]
   ·obtain⟨p1,p2,p3⟩:=co.1 hs;refine co.2 ⟨p1,cd.2 ⟨λc h=>dQ (hc c h),p2⟩,λy hy z hz=> ?_⟩
    have hyx:y<=x:=by
     rcases aW.1 hy with h|h
     ·have:=hall y h;omega
     ·rw[aD.1 h];omega
    rcases aV.1 hz with rfl|hz
    ·exact hyx
    ·have:=hc z hz;omega
   ·exact List.perm_middle
theorem Gi(l:List Int)(hl:l.length<=12): ∃r,fi l 0 (l.length:Int)=some (r,())/\SL r/\r.Perm l:=by
 have hm:l.length<=maxLen:=by unfold maxLen;omega
 unfold fi;cases l with
 |nil=>
  refine⟨[],?_,List.Pairwise.nil,List.Perm.refl _⟩
  rw[show gt (((),0,(([]:List Int).length:Int),IntKind.wrap .i64 (0+1),()),(),([],()))=some ((()),(),([],())) from jG (by rw[show IntKind.wrap .i64 ((0:Int)+1)=((1:Nat):Int) from by rw[fm (by omega) (by omega)];rfl];simp only[eJ,ez];rw[if_neg (by simp)])]
  rfl
 |cons b l=>
  generalize hL:b::l=L at hl hm;have hpos:0<L.length:=by rw[<-hL];simp
  have outer:=tC (B:=eJ) (λs=> ∃ (k:Nat) (Q:List Int),0<k/\k<=L.length/\Q.length=k/\SL Q/\Q.Perm (L.take k)/\s=(((),0,(L.length:Int),(k:Int),()),(),(Q++L.drop k,()))) (λs=>L.length-s.1.2.2.2.1.toNat) (λe=> ∃Q:List Int,SL Q/\Q.Perm L/\e=((()),(),(Q,())))
   (λs hs=>by
     obtain⟨k,Q,h0,hk,hq,hq2,hq3,rfl⟩:=hs;by_cases hlt:k<L.length
     ·have c1: (k:Int)< (L.length:Int):=by omega
      obtain⟨R,r1,r2,r3⟩:=R5 (L.drop (k+1)) (L.length:Int) (k:Int) L[k] (by omega) Q [] (by simp;omega) (by simpa using hq2) (by simp);have hd:L.drop k=L[k]::L.drop (k+1):=bV hlt;rw[hq,be,<-hd] at r1;refine .inl ⟨(((),0,(L.length:Int),((k+1:Nat):Int),()),(),(R++L.drop (k+1),())),?_,⟨k+1,R,by omega,by omega,?_,r2,?_,rfl⟩,?_⟩
      ·simp only[eJ,ez,if_pos c1,r1,ae,ei hm hlt]
      ·rw[r3.length_eq];simp[hq]
      ·rw[bI,ah hlt];refine r3.trans ?_;rw[bS];refine List.Perm.trans ?_ (List.perm_append_comm);simpa using hq3
      ·simp only[aw];omega
     ·have :k=L.length:=by omega
      subst this;refine .inr ⟨_,by simp only[eJ,ez];rw[if_neg (by omega)],Q,hq2,by simpa using hq3,by simp⟩)
   (s:=(((),0,(L.length:Int),((1:Nat):Int),()),(),(L,()))) ⟨1,L.take 1,by omega,by omega,by simp;omega,by rw[<-hL];simp[SL],List.Perm.refl _,by rw[cS]⟩
  obtain⟨e,h1,Q,q1,q2,rfl⟩:=outer;rw[show IntKind.wrap .i64 ((0:Int)+1)=((1:Nat):Int) from by rw[fm (by omega) (by omega)];rfl,show gt (((),0,(L.length:Int),((1:Nat):Int),()),(),(L,()))=_ from h1];exact⟨Q,rfl,q1,q2⟩
theorem WW{n:Nat}(hn:n<=12): ∃m,xi (IntKind.wrap .u64 (n:Int))=some (m,()):=by
 have :n<=5\/n=6\/n=7\/n=8\/n=9\/n=10\/n=11\/n=12:=by omega
 rcases this with h|rfl|rfl|rfl|rfl|rfl|rfl|rfl
 ·exact Ff h
 ·exact⟨3,by kernel_rfl⟩
 ·exact⟨3,by kernel_rfl⟩
 ·exact⟨4,by kernel_rfl⟩
 ·exact⟨4,by kernel_rfl⟩
 ·exact⟨4,by kernel_rfl⟩
 ·exact⟨4,by kernel_rfl⟩
 ·exact⟨4,by kernel_rfl⟩
theorem UD(l:List Int)(hl:l.length<=12): ∃r,jN l=some (r,())/\SL r/\r.Perm l:=by
 obtain⟨m,hm⟩:=WW hl;obtain⟨r,r1,r2,r3⟩:=Gi l hl
 have hp:fP l 0 (l.length:Int) m=some (r,()):=by
  unfold fP
  have :jM (((),0,(l.length:Int),m,true,true,()),(),(l,()))=some ((()),(),(r,())):=by refine jG ?_;simp only[gG];rw[fm (by omega) (by omega),ez,if_pos (by omega),r1,ae,fv r3.length_eq]
  rw[this];rfl
 unfold jN;simp only[hm,ae,hp];exact⟨r,fv r3.length_eq _ _,r2,r3⟩
theorem IP(l:List Int)(hl:l.length<=1000)(hs:SL l)(k0:Nat)(h0:0<k0)(hk:k0<l.length)(hss:SS (l.take k0))(heq:l[k0] =l[k0-1]):
  ∃e,rn (((),(k0:Int),(k0,l.length-k0),1,()),(),(l,()))=some e/\ ∃ (kk:Nat) (v:List Int),e=(((),(kk:Int),()),(),(v,()))/\kk<=l.length/\v.length=l.length/\SS (v.take kk)/\ ∀y,y∈v.take kk↔y∈l:=by
 have hm:l.length<=maxLen:=by unfold maxLen;omega
 have mem0: ∀y,y∈l.take k0↔y∈l.take (k0+1):=by
  intro y;rw[bI,ah hk,heq];simp only[dB,aW,aD];refine⟨.inl,?_⟩
  rintro (h|rfl)
  ·exact h
  ·rw[List.mem_take_iff_getElem];exact⟨k0-1,by omega,rfl⟩
 refine tC (B:=iB) (λs=> ∃ (kk k2:Nat) (v:List Int),s=(((),(kk:Int),(k0,l.length-k0),(k2:Int),()),(),(v,()))/\0<k2/\k0+k2<=l.length/\k0<=kk/\kk+1<=k0+k2/\v.length=l.length/\SS (v.take kk)/\(∀y,y∈v.take kk↔y∈l.take (k0+k2))/\v.drop (k0+k2-1)=l.drop (k0+k2-1)) (λs=>l.length-s.1.2.2.2.1.toNat) _
  (λs hI=> ?_) (s:=(((),(k0:Int),(k0,l.length-k0),((1:Nat):Int),()),(),(l,()))) ⟨k0,1,l,rfl,by omega,by omega,by omega,by omega,rfl,hss,mem0,rfl⟩
 obtain⟨kk,k2,v,rfl,a1,a2,a3,a4,a5,a6,a7,a8⟩:=hI;by_cases hlt:k0+k2<l.length
 ·left;have c1: (k2:Int)< ((l.length-k0:Nat):Int):=by omega
  have c2: (0:Int)<=(k2:Int)/\(k2:Int)< ((l.length-k0:Nat):Int):=by omega
  have c3: (0:Int)<=((k2-1:Nat):Int)/\((k2-1:Nat):Int)< ((l.length-k0:Nat):Int):=by omega
  have c4: (0:Int)<=(kk:Int)/\(kk:Int)< (v.length:Int):=by omega
  have g1:v[k0+(k2-1)]? =some l[k0+k2-1] :=by have:=congrArg (λz:List Int=>z[0]?) a8;simp only[bA,b7] at this;rw[show k0+(k2-1)=k0+k2-1 by omega,this];exact ah _
  have g2:v[k0+k2]? =some l[k0+k2] :=by have:=congrArg (λz:List Int=>z[1]?) a8;simp only[bA] at this;rw[show k0+k2-1+1=k0+k2 by omega] at this;rw[this];exact ah _
  have g3:v[kk]? =some (v[kk]'(by omega)):=ah _;have hle:l[k0+k2-1] <=l[k0+k2] :=bH.1 hs _ _ (by omega) hlt (by omega)
  have hdd:v.drop (k0+k2)=l.drop (k0+k2):=by have:=congrArg (List.drop 1) a8;simpa [cu,show k0+k2-1+1=k0+k2 by omega] using this
  have hta:l.take (k0+k2+1)=l.take (k0+k2)++ [l[k0+k2]] :=by rw[bI,ah hlt];rfl
  have inb: ∀y∈l.take (k0+k2),y<=l[k0+k2-1] :=by
   intro y hy;obtain⟨j,hj,rfl⟩:=aL hy;have hj':j<k0+k2:=by simp at hj;omega
   rw[cY];by_cases e:j=k0+k2-1
   ·subst e;exact bU _
   ·exact bH.1 hs _ _ (by omega) (by omega) (by omega)
  have hkm:k2<l.length:=by omega
  have hkm':kk<l.length:=by omega
  simp only[iB,ez,ej,pE,eE,if_pos c1,if_pos c2,jW a1 (by unfold maxLen;omega),if_pos c3,aw,g1,g2,ae,ei hm hkm,ei hm hkm',if_pos c4,g3];by_cases he:l[k0+k2] =l[k0+k2-1]
  ·simp only[if_pos he];refine⟨_,rfl,⟨kk,k2+1,v,rfl,by omega,by omega,a3,by omega,a5,a6,λy=> ?_,hdd⟩,?_⟩
   ·rw[a7,show k0+(k2+1)=k0+k2+1 by omega,hta,he];simp only[aW,aD];refine⟨.inl,?_⟩
    rintro (h|rfl)
    ·exact h
    ·rw[List.mem_take_iff_getElem];exact⟨k0+k2-1,by omega,rfl⟩
   ·simp only[aw];omega
  ·simp only[if_neg he];have hts: (v.set kk l[k0+k2]).take (kk+1)=v.take kk++ [l[k0+k2]] :=yr _ (by omega);refine⟨_,rfl,⟨kk+1,k2+1,v.set kk l[k0+k2],rfl,by omega,by omega,by omega,by omega,by simp[a5],?_,λy=> ?_,?_⟩,?_⟩
   ·rw[hts]
    have:=IM (A:=v.take kk) (B:=[]) (x:=l[k0+k2]) (by simpa using a6) (λy hy=>by have:=inb y ((a7 y).1 hy);omega) (by simp)
    simpa using this
   ·rw[hts,show k0+(k2+1)=k0+k2+1 by omega,hta];simp only[aW,a7]
   ·rw[show k0+(k2+1)-1=k0+k2 by omega,dA (by omega),hdd]
   ·simp only[aw];omega
 ·right;have hkk:k0+k2=l.length:=by omega
  refine⟨_,by simp only[iB,ez];rw[if_neg (by omega)],kk,v,rfl,by omega,a5,a6,λy=> ?_⟩;rw[a7,hkk,bq]
theorem MO(l:List Int)(hl:l.length<=1000)(hs:SL l): ∃r,iz l=some (r,())/\SS r/\(∀y,y∈r↔y∈l)/\r.length<=l.length:=by
 have hm:l.length<=maxLen:=by unfold maxLen;omega
 unfold iz;rw[ez];split
 ·refine⟨l,rfl,?_,λ_=>Iff.rfl,au _⟩
  match l with
  | [] =>exact List.Pairwise.nil
  | [a] =>exact cx _ _
  |a::b::l=>simp at*;omega
 ·have gC:=tC (B:=fF) (λs=> ∃k:Nat,0<k/\k<=l.length/\SS (l.take k)/\s=(((),(k:Int),()),(),(l,()))) (λs=>l.length-s.1.2.1.toNat)
   (λe=>(e= .inr (((),(),()),(),(l,()))/\SS l)\/ ∃ (kk:Nat) (W:List Int),e= .inl (((),(0,kk),()),(),(W,()))/\kk<=W.length/\kk<=l.length/\SS (W.take kk)/\ ∀y,y∈W.take kk↔y∈l)
   (λs hI=>by
     obtain⟨k,h0,hkl,hss,rfl⟩:=hI;by_cases hk:k<l.length
     ·have c1: (k:Int)< (l.length:Int):=by omega
      have c2: (0:Int)<=(k:Int)/\(k:Int)< (l.length:Int):=by omega
      have c3: (0:Int)<=((k-1:Nat):Int)/\((k-1:Nat):Int)< (l.length:Int):=by omega
      have c4: (0:Int)<=(k:Int)/\(k:Int)<=(l.length:Int)/\(l.length:Int)<=(l.length:Int):=by omega
      have e1:l[k]? =some l[k] :=ah hk;have e2:l[k-1]? =some l[k-1] :=ah (by omega);by_cases he:l[k] =l[k-1]
      ·right;obtain⟨e,f1,kk,v,rfl,f2,f3,f4,f5⟩:=IP l hl hs k h0 hk hss he;have d1: (0:Int)<=(kk:Int)/\(kk:Int)<=(v.length:Int)/\(v.length:Int)<=(v.length:Int):=by omega
       have d2:kk+(v.length-kk)<=v.length:=by omega
       have d3: (0:Int)<=0/\(0:Int)<=(kk:Int)/\(kk:Int)<=(v.length:Int):=by omega
       simp only[fF,ez,eE,if_pos c1,if_pos c2,jW h0 (by omega),if_pos c3,aw,e1,e2,ae,pE,if_pos he,if_pos c4,aK];rw[f1];simp only[ae,aw,if_pos d1,if_pos d2,if_pos d3,dC,cO]
       have ht: (v.take kk++List.replicate (v.length-kk) 0++v.drop (kk+(v.length-kk))).take kk=v.take kk:=by rw[bn,dh (by simp;omega),List.take_take,Nat.min_self]
       refine⟨_,rfl,.inr ⟨kk,_,rfl,by simp;omega,f2,by rw[ht];exact f4,λy=>by rw[ht];exact f5 y⟩⟩
      ·left;have hle:l[k-1] <=l[k] :=bH.1 hs _ _ (by omega) hk (by omega);refine⟨(((),((k+1:Nat):Int),()),(),(l,())),?_,⟨k+1,by omega,by omega,?_,rfl⟩,?_⟩
       ·simp only[fF,ez,eE,if_pos c1,if_pos c2,jW h0 (by omega),if_pos c3,aw,e1,e2,ae,pE,ei hm hk,if_neg he]
       ·rw[bI,e1]
        have:=IM (A:=l.take k) (B:=[]) (x:=l[k]) (by simpa using hss) (λy hy=>by
         obtain⟨j,hj,rfl⟩:=aL hy;have hj':j<k:=by simp at hj;omega
         rw[cY]
         have :l[j] <=l[k-1] :=by
          by_cases e:j=k-1
          ·subst e;exact bU _
          ·exact bH.1 hs _ _ (by omega) (by omega) (by omega)
         omega) (by simp)
        simpa using this
       ·simp only[aw];omega
     ·have hk':k=l.length:=by omega
      subst hk';rw[bq] at hss;exact .inr ⟨_,by simp only[fF,ez];rw[if_neg (by omega)],.inl ⟨rfl,hss⟩⟩)
   (s:=(((),((1:Nat):Int),()),(),(l,()))) ⟨1,by omega,by omega,by
     cases l with
     |nil=>exact List.Pairwise.nil
     |cons a l=>exact cx _ _,rfl⟩
  obtain⟨e,h1,h2⟩:=gC;rw[show nv (((),1,()),(),(l,()))=_ from h1];rcases h2 with ⟨rfl,h2⟩| ⟨kk,W,rfl,h3,h4,h5,h6⟩
  ·exact⟨l,rfl,h2,λ_=>Iff.rfl,au _⟩
  ·refine⟨W.take kk,?_,h5,h6,by simp;omega⟩;simp only[ae,cQ];exact fv ⟨trivial,h3⟩ _ _
theorem PA(l:List Int)(hl:l.length<=12): ∃r,lx l=some (r,())/\SS r/\(∀y,y∈r↔y∈l)/\r.length<=l.length:=by obtain⟨s,s1,s2,s3⟩:=UD l hl;have sl:=s3.length_eq;obtain⟨r,r1,r2,r3,r4⟩:=MO s (by omega) s2;unfold lx jl;rw[fv (mr (by omega)),ae,s1,ae,fv sl,r1];exact⟨r,rfl,r2,λy=>by rw[r3,s3.mem_iff],by omega⟩
theorem XZ(a b:List Int)(h:a.length+b.length<=12): ∃r,kU a b=some (r,())/\mQ a b=some (r,())/\SS r/\(∀y,y∈r↔y∈a\/y∈b)/\r.length<=a.length+b.length:=by
 obtain⟨r,r1,r2,r3,r4⟩:=MN a b (by omega) (by omega);obtain⟨s,s1,s2,s3,s4⟩:=PA (a++b) (by simp;omega);have hrs:r=s:=r2.uniq s2 λy=>by rw[r3,s3,aW]
 subst hrs;refine⟨r,r1,?_,r2,r3,r4⟩;unfold mQ
 have hc:=Pz [a,b] (by simp) (by intro x hx;simp only[aV,List.not_mem_nil,or_false] at hx;rcases hx with rfl|rfl<;>omega)
 rw[hc,ae,show ([a,b]:List (List Int)).flatten=a++b by simp,s1];rfl
end
section
theorem Fi(m:eC)(e:Int)(h:tf 1048576 m)(hv:fW m=some (true,())): ∃c b,jI m e=some (c,b,())/\om m e=some (c,b,())/\jh maxLen c/\(b=ll e 1 (m.configs.length:Int))/\(b=true->eN c=some (true,())/\c.epoch=e)/\(b=false->c=⟨0,0,[],[]⟩):=by
 obtain⟨b,m1,m2⟩:=masterLog m (np h);rw[hv] at m1;simp only[af,ao,and_true] at m1;subst m1;obtain⟨f1,_,_⟩:=IJ (np h) hv;have zero:jh maxLen ⟨0,0,[],[]⟩:=⟨aB _,aB _⟩
 have hl:=h.1;unfold jI om;simp only[hv,m2,ia,rG,ae,ej,eI];cases hw:ll e 1 (m.configs.length:Int) with
 |false=>exact⟨_,_,rfl,rfl,zero,rfl,nofun,λ_=>rfl⟩
 |true=>
  have hw:=fe.1 hw;simp only[eI];rw[fm (n:=e-1) (by omega) (by omega)];have hlt: (e-1).toNat<m.configs.length:=by omega
  have hk:=h.2 _ (bB hlt)
  have copy: ∀c:ey,jh 1048576 c->kQ c=some (c,())/\iw c=some (c,()):=by intro c hc;unfold kQ iw;simp only[be];rw[fv (mr hc.1),fv (mr hc.2)];exact⟨rfl,rfl⟩
  rw[fv (by omega),fv (by omega),ah hlt];simp only[ae,(copy _ hk).1,(copy _ hk).2];refine⟨_,_,rfl,rfl,fu hk,rfl,λ_=>⟨(f1 _ hlt).1,?_⟩,nofun⟩;rw[(f1 _ hlt).2];omega
end
section
def AL(p:Nat->Bool)(n:Nat):List Int:=((List.range n).filter p).map λ(k:Nat)=>(k:Int)
theorem K8(p:Nat->Bool)(n:Nat):AL p (n+1)=AL p n++if p n=true then [(n:Int)] else [] :=by
 unfold AL;rw[List.range_succ,cm,ce]
 congr 1
 cases h:p n<;>simp[h]
theorem IQ(p:Nat->Bool)(n:Nat)(x:Int):x∈AL p n↔ ∃k:Nat,k<n/\p k=true/\x=(k:Int):=by
 unfold AL;simp only[aN,cT,bP];constructor
 ·rintro⟨k,⟨h1,h2⟩,rfl⟩;exact⟨k,h1,h2,rfl⟩
 ·rintro⟨k,h1,h2,rfl⟩;exact⟨k,⟨h1,h2⟩,rfl⟩
theorem Oc(p:Nat->Bool)(n:Nat): (AL p n).length<=n:=by unfold AL;rw[aJ];exact aP (dv _ _) (by simp)
theorem Od(p:Nat->Bool){n:Nat}(hn:n<=5):tg (AL p n):=by
 have hp: (AL p n).Pairwise (· < ·):=by unfold AL;rw[List.pairwise_map];exact (List.Pairwise.filter _ List.pairwise_lt_range).imp λh=>by omega
 intro k hk;have hm: (AL p n)[k] ∈AL p n:=bB hk;obtain⟨j,h1,_,h2⟩:=(IQ p n _).1 hm;exact⟨⟨by omega,by omega⟩,λh0=>bH.1 hp (k-1) k (by omega) hk (by omega)⟩
theorem UE(p q:Nat->Bool)(n:Nat): (AL p n).filter (λx=>decide (x∈AL q n))=AL (λk=>p k&&q k) n:=by
 unfold AL;rw[List.filter_map,List.filter_filter]
 congr 1
 apply List.filter_congr;intro k hk;have hk:=bP.1 hk
 have : (((λx=>decide (x∈AL q n))∘λ(k:Nat)=>(k:Int)) k)=q k:=by
  show decide ((k:Int)∈AL q n)=q k;cases hq:q k with
  |true=>exact decide_eq_true ((IQ q n _).2 ⟨k,hk,hq,rfl⟩)
  |false=>
   refine decide_eq_false λh=> ?_;obtain⟨j,_,h1,h2⟩:=(IQ q n _).1 h;have :j=k:=by omega
   subst this;rw[hq] at h1;cases h1
 have e:decide ((k:Int)∈List.map (λ(k:Nat)=>(k:Int)) (List.filter q (List.range n)))=q k:=this;simp only[Function.comp,e,Bool.and_comm]
def K9(x:eh)(k:Nat):Bool:=match x.servers[k]? with |some s=>s.up|none=>false
def xt(l:List Int)(k:Nat):Bool:=match l[k]? with |some s=>s==0|none=>false
theorem VX{p:Nat->Bool}{k:Nat}(h:k<=1000)(y:Int): (AL p k++ [y]).length*8<=2 ^ 40:=by have:=Oc p k;refine mr ?_;rw[ax,az];omega
theorem PB(x:eh)(hl:x.servers.length=5)(hv:ew x=some (true,())):qF x=some (AL (K9 x) 5,()):=by
 have ex: (⟨x.now,x.servers,x.sides,⟨x.master.configs,x.master.activated⟩,x.masterUp,⟨x.lease.epoch,x.lease.holder,x.lease.ends⟩,x.places⟩:eh)=x:=rfl
 have gC:=lO (B:=l8) x.servers (λk (b:List Int)=>(((),(),(k:Int),()),((x.now,x.servers,x.sides,x.master.configs,x.master.activated,x.masterUp,x.lease.epoch,x.lease.holder,x.lease.ends,x.places,()),()),(b,()))) (λk b=>b=AL (K9 x) k) (λ_ _ _=>(((),()),(),(AL (K9 x) 5,())))
  (λb hb=>by simp only[l8];rw[ez,if_neg (by omega),hb,hl])
  (λk b s hs hb=>by
    have hk:=i9 hs;have c1: (k:Int)< (x.servers.length:Int):=by omega
    have c2: (0:Int)<=(k:Int):=by omega
    have hup:K9 x k=s.up:=by unfold K9;rw[hs]
    subst hb;simp only[l8,ez,eE,if_pos c1,if_pos c2,aw,hs,ae,ex,hv,eI,ei (n:=5) (by decide) (by omega:k<5),if_pos (VX (p:=K9 x) (k:=k) (by omega) (k:Int))];refine .inl ⟨AL (K9 x) (k+1),?_,rfl,trivial⟩;rw[K8,hup];cases s.up
    ·simp;rfl
    ·rfl)
  0 [] (aB _) rfl
 unfold qF;rw[show yF (((),(),0,()),((x.now,x.servers,x.sides,x.master.configs,x.master.activated,x.masterUp,x.lease.epoch,x.lease.holder,x.lease.ends,x.places,()),()),([],()))=_ from gC];rfl
theorem s8{l:List Int}(hl:l.length<=maxLen)(hv:jH l=some (true,())):l.length=5:=by
 obtain⟨b,h1,h2⟩:=AJ l hl;rw[hv] at h1;simp only[af,ao,and_true] at h1;subst h1;unfold pZ at h2;cases h: ((l.length:Int)==5) with
 |false=>rw[h] at h2;cases h2
 |true=>simp only[beq_iff_eq] at h;omega
theorem MP(l:List Int)(hl:l.length=5)(hv:jH l=some (true,())):o7 l=some (AL (xt l) 5,()):=by
 have gC:=lO (B:=kW) l (λk (b:List Int)=>((l,(),(k:Int),()),(),(b,()))) (λk b=>b=AL (xt l) k) (λ_ _ _=>(((),()),(),(AL (xt l) 5,())))
  (λb hb=>by simp only[kW];rw[ez,if_neg (by omega),hb,hl])
  (λk b s hs hb=>by
    have hk:=i9 hs;have c1: (k:Int)< (l.length:Int):=by omega
    have c2: (0:Int)<=(k:Int):=by omega
    have hup:xt l k=(s==0):=by unfold xt;rw[hs]
    subst hb;simp only[kW,ez,eE,if_pos c1,if_pos c2,aw,hs,ae,hv,eI,ei (n:=5) (by decide) (by omega:k<5),if_pos (VX (p:=xt l) (k:=k) (by omega) (k:Int))];refine .inl ⟨AL (xt l) (k+1),?_,rfl,trivial⟩;rw[K8,hup];cases (s==0)
    ·simp;rfl
    ·rfl)
  0 [] (aB _) rfl
 unfold o7;rw[show wS ((l,(),0,()),(),([],()))=_ from gC];rfl
def IR(x:eh)(k:Nat):Bool:=K9 x k&&xt x.sides k
theorem X0(x:eh)(ok:gD 1048576 x)(hv:ew x=some (true,())):sE x=some (AL (IR x) 5,()):=by have vc:=jR ok hv;have hsl:=s8 (eW ok.2.1) vc.sides;unfold sE;rw[PB x vc.len hv,MP x.sides hsl vc.sides];simp only[ae];rw[AI _ _ (Od _ (au 5)) (aP (Oc _ _) (by decide)),UE];rfl
end
section
def MQ(x:eh)(a:Int):Int:=(x.sides[a.toNat]?).getD 0
theorem AM{x:eh}(ok:gD 1048576 x)(vc:VC x){a:Int}(ha:0<=a/\a<5): ∃s,x.servers[a.toNat]? =some s/\gW 1048576 s/\fC s a=some (true,()):=by
 have hlt:a.toNat<x.servers.length:=by rw[vc.len];omega
 refine⟨_,ah hlt,ok.1.2 _ (bB hlt),?_⟩;have:=vc.srv _ hlt
 rwa [Int.toNat_of_nonneg ha.1] at this
theorem ot(s:eu)(id:Int)(h:gW 1048576 s): ∃b,gb s id=some (b,())/\mN s id=some (b,()):=by obtain⟨v,v1,v2⟩:=xp s id h;obtain⟨n,n1,n2,_⟩:=zL s.config id (fu h.1);unfold gb mN;simp only[v1,v2,n1,n2,ae];cases v<;>cases s.up<;>cases (n==1)<;>exact⟨_,rfl,rfl⟩
theorem PC(c:ey)(h:jh maxLen c): ∃l,gF c=some (l,())/\qR c=some (l,())/\l.length<=10/\(∀y∈l,0<=y/\y<5)/\SS l/\(eN c=some (true,())-> ∀y,y∈l↔y∈c.replicas\/y∈c.witnesses):=by
 obtain⟨v,v1,v2⟩:=oG c h;unfold gF qR;simp only[v1,v2,ae,ej];cases v with
 |false=>exact⟨[],rfl,rfl,aB _,nofun,List.Pairwise.nil,nofun⟩
 |true=>
  obtain⟨a1,a2,_⟩:=xq h v1;have l1:=a1.len;have l2:=a2.len;obtain⟨r,r1,r2,r3,r4,r5⟩:=XZ c.replicas c.witnesses (by omega)
  have rng: ∀ {l:List Int},tg l-> ∀y∈l,0<=y/\y<5:=by intro l ha y hy;obtain⟨k,hk,rfl⟩:=aL hy;have:=(ha k hk).1;omega
  simp only[eI,r1,r2,ae];refine⟨r,rfl,rfl,by omega,λy hy=> ?_,r3,λ_=>r4⟩;rcases (r4 y).1 hy with h|h
  ·exact rng a1 y h
  ·exact rng a2 y h
end
section

end
section

end
section
theorem R6(x y:eA): ((x.epoch==y.epoch)&&((x.op.client==y.op.client)&&((x.op.seq==y.op.seq)&&((x.op.kind==y.op.kind)&&((x.op.object==y.op.object)&&((x.op.old==y.op.old)&&((x.op.value==y.op.value)&&true)))))))=decide (x=y):=by obtain⟨a,b,c,d,e,f,g⟩:=x;obtain⟨a',b',c',d',e',f',g'⟩:=y;rw[cj];simp[and_assoc]
theorem R7(a b:List eA)(ha:a.length<=maxLen):li a b=some (decide (a=b),()):=by
 unfold li;rw[ej,pE];split
 ·rename_i hl;have hl:a.length=b.length:=by omega
  rcases s7 (B:=jC) a.length (λk=>((a,b,(a.length:Int),(k:Int),()),(),())) (.inr (((),()),(),())) (λ_=> .inl ((false,()),(),())) (λk=>decide (a[k]? ≠b[k]?))
   (by simp only[jC];rw[ez,if_neg (by omega)])
   (λk hk=>by
     have c1: (k:Int)< (a.length:Int):=by omega
     have c2: (0:Int)<=(k:Int):=by omega
     have hk':k<b.length:=by omega
     simp only[jC,R6,ej,ez,eE,if_pos c1,if_pos c2,aw,ah hk,ah hk',ae,ei ha hk];by_cases h:a[k] =b[k]<;>simp[h]) with ⟨k1,k2⟩| ⟨i,hi,k1,k2,_⟩
  ·rw[show qc ((a,b,(a.length:Int),0,()),(),())=_ from k1]
   have :a=b:=List.ext_getElem hl λk h1 h2=>by have:=k2 k h1;rw[ah h1,ah h2] at this;simpa using this
   rw[decide_eq_true this];rfl
  ·rw[show qc ((a,b,(a.length:Int),0,()),(),())=_ from k1]
   have :a≠b:=λh=>by rw[h] at k2;simp at k2
   rw[decide_eq_false this];rfl
 ·rename_i hl;have :a≠b:=λh=>hl (by rw[h]);rw[decide_eq_false this]
theorem IT(a b:List eA)(ha:a.length<=maxLen): ∃n:Nat,kX a b=some ((n:Int),())/\n<=a.length/\n<=b.length/\a.take n=b.take n/\(n<a.length->n<b.length->a[n]? ≠b[n]?):=by
 rcases s7 (B:=iQ) a.length (λk=>((a,b,(k:Int),()),(),())) ((((a.length:Nat):Int),()),(),()) (λk=>(((k:Int),()),(),())) (λk=>decide (a[k]? ≠b[k]?))
  (by simp only[iQ];rw[ez,if_neg (by omega)])
  (λk hk=>by
    have c1: (k:Int)< (a.length:Int):=by omega
    have c2: (0:Int)<=(k:Int):=by omega
    by_cases hk':k<b.length
    ·have c3: (k:Int)< (b.length:Int):=by omega
     simp only[iQ,R6,ez,eE,if_pos c1,if_pos c2,if_pos c3,aw,ah hk,ah hk',ae,ei ha hk];by_cases h:a[k] =b[k]<;>simp[h]
    ·have c3: ¬ (k:Int)< (b.length:Int):=by omega
     simp only[iQ,ez,if_pos c1,if_neg c3,ah hk,bZ (show b.length<=k by omega)];simp) with ⟨k1,k2⟩| ⟨i,hi,k1,k2,k3⟩
 ·have eq: ∀k,k<a.length->a[k]? =b[k]? :=λk hk=>by simpa using k2 k hk
  have hl:a.length<=b.length:=by
   rcases bk a.length with h|h
   ·omega
   ·have:=eq (a.length-1) (by omega);rw[ah (by omega)] at this;have:=i9 this.symm;omega
  refine⟨a.length,?_,au _,hl,?_,λh=>absurd h (cU _)⟩
  ·unfold kX;rw[show pW ((a,b,0,()),(),())=_ from k1];rfl
  ·refine bE λk=> ?_;rw[bi,bi];split
   ·exact eq k (by assumption)
   ·rfl
 ·have eq: ∀k,k<i->a[k]? =b[k]? :=λk hk=>by simpa using k3 k hk
  have hl:i<=b.length:=by
   rcases bk i with h|h
   ·omega
   ·have:=eq (i-1) (by omega);rw[ah (by omega)] at this;have:=i9 this.symm;omega
  refine⟨i,?_,by omega,hl,?_,λ_ _=>by simpa using k2⟩
  ·unfold kX;rw[show pW ((a,b,0,()),(),())=_ from k1];rfl
  ·refine bE λk=> ?_;rw[bi,bi];split
   ·exact eq k (by assumption)
   ·rfl
end
section
theorem La(x:fH):Ae (pU x) (zK x):=by
 obtain⟨b,h1,h2⟩:=xY x;unfold pU zK;simp only[h1,h2,ae];cases b with
 |false=>simp only[da,eI];cases ((x.epoch==0)&&((x.holder==0)&&((x.ends==0)&&true)))<;>exact⟨_,rfl,rfl⟩
 |true=>
  simp only[bQ,fg];cases he:x.ends==0 with
  |true=>
   cases hz: ((x.epoch==0)&&((x.holder==0)&&(true&&true))) with
   |true=>exact⟨_,rfl,rfl⟩
   |false=>
    exfalso;unfold md at h2;rw[he,hz] at h2;simp only[fg,rG,ae] at h2
    have hw:ll x.ends 1 1049=false:=by rw[Bool.eq_false_iff];intro hw;have:=fe.1 hw;simp only[beq_iff_eq] at he;omega
    rw[hw] at h2;revert h2;cases ll x.epoch 1 20<;>cases ll x.holder 0 4<;>intro h2<;>cases h2
  |false=>
   have hz: ((x.epoch==0)&&((x.holder==0)&&(false&&true)))=false:=by cases x.epoch==0<;>cases x.holder==0<;>rfl
   rw[hz];exact⟨_,rfl,rfl⟩
theorem CA(x:fH)(n:Int):Ae (kE x n) (qu x n):=by obtain⟨b,h1,h2⟩:=xY x;obtain⟨t,t1,t2⟩:=La x;unfold kE qu;simp only[h1,h2,t1,t2,ia,rG,ae];cases b<;>cases ll n 0 999<;>exact⟨_,rfl,rfl⟩
end
section
theorem BP{l:List fB}(hl:l.length<=maxLen)(hv:fT l=some (true,())):l.length=5:=by
 obtain⟨b,h1,h2⟩:=u7 l hl;rw[hv] at h1;simp only[af,ao,and_true] at h1;subst h1;unfold oE at h2;cases h: ((l.length:Int)==5) with
 |false=>rw[h] at h2;cases h2
 |true=>simp only[beq_iff_eq] at h;omega
end
section
theorem Fj(a b:List Int)(ha:tg a)(hb:b.length<=maxLen):gm a b=some (a.filter λx=> !decide (x∈b),()):=by
 have hl:=ha.len;have hm:a.length<=maxLen:=by unfold maxLen;omega
 have hp:=ha.pair
 have gC:=lO (B:=iP) a (λk (out:List Int)=>((a,b,(),(k:Int),()),(),(out,()))) (λk out=>out=(a.take k).filter λx=> !decide (x∈b)) (λk r out=>(((),()),(),(out++r.filter λx=> !decide (x∈b),())))
  (λout hb=>by simp only[iP];rw[ez,if_neg (by omega)];simp)
  (λk out x hx hout=>by
    have hk:=i9 hx;have c1: (k:Int)< (a.length:Int):=by omega
    have c2: (0:Int)<=(k:Int):=by omega
    have hxe:a[k] =x:=by rw[ah hk] at hx;exact Option.some.inj hx
    simp only[iP,ej,ez,eE,if_pos c1,if_pos c2,aw,hx,ae,(gP b x hb).1,ei hm hk];by_cases hin:x∈b
    ·simp only[if_pos hin];refine .inl ⟨out,rfl,?_,?_⟩
     ·rw[hout,bI,hx,cm];simp[hin]
     ·simp[hin]
    ·have hlt: ∀y∈out,y<x:=by
      intro y hy;rw[hout,cT] at hy;obtain⟨i,hi,he⟩:=aL hy.1;have hi':i<k:=by simp at hi;omega
      rw[cY] at he;rw[<-he,<-hxe];exact bH.1 hp i k (by omega) hk hi'
     have hol:out.length<=1000:=by rw[hout];have:=dv (λx=> !decide (x∈b)) (a.take k);simp only[aR] at this;omega
     simp only[if_neg hin,IH out x hol hlt,ae];refine .inl ⟨out++ [x],rfl,?_,?_⟩
     ·rw[hout,bI,hx,cm];simp[hin]
     ·simp[hin])
  0 [] (aB _) rfl
 unfold gm;rw[show sG ((a,b,(),0,()),(),([],()))=_ from gC];rfl
end
section
theorem xw{l:List Int}(h:SS l)(hr: ∀y∈l,0<=y/\y<5):tg l:=by intro k hk;have:=hr _ (bB hk);exact⟨by omega,λh0=>bH.1 h _ _ (by omega) hk (by omega)⟩
theorem yb{l:List Int}(h:tg l):gK l=some (true,())/\jm l=some (true,()):=by
 have hl:=h.len;have hm:l.length<=maxLen:=by unfold maxLen;omega
 obtain⟨_,_,h1,h2⟩:=II (B1:=it) (B2:=iy) l.length (λk (_:Unit)=>((l,(k:Int),()),(),())) (λk _=>((l,l,(l.length:Int),(k:Int),()),(),())) (λ_ _=>True) (λ_=> .inr (((),()),(),())) (λ_=> .inr (((),()),(),()))
  (λ_ _=>by simp only[it,iy,ez];exact⟨if_neg (by omega),if_neg (by omega)⟩)
  (λk _ hk _=>by
    have c1: (k:Int)< (l.length:Int):=by omega
    have c2: (0:Int)<=(k:Int):=by omega
    obtain⟨r1,r2⟩:=h k hk;have w:ll l[k] 0 4=true:=fe.2 r1;refine⟨(),?_⟩;simp only[it,iy,ez,eE,if_pos c1,if_pos c2,aw,ah hk,ae,ia,rG,w,bQ,fg,ei hm hk];by_cases h0:0<k
    ·have c3: (k:Int)>0:=by omega
     have c4: (0:Int)<=((k-1:Nat):Int):=by omega
     have e2:l[k-1]? =some l[k-1] :=ah (by omega);have:=r2 h0;simp only[if_pos c3,jW h0 (by omega),if_pos c4,aw,e2,ae,if_neg (show ¬l[k-1] ≥l[k] by omega),if_neg (show ¬l[k] <=l[k-1] by omega),and_self]
    ·simp only[if_neg (show ¬ (k:Int)>0 by omega),and_self])
  () trivial
 unfold gK jm;rw[show oX ((l,0,()),(),())=_ from h1,show pu ((l,l,(l.length:Int),0,()),(),())=_ from h2];exact⟨rfl,rfl⟩
end
section

end
section
theorem X1{m:eC}(h:tf 1048576 m)(hv:fW m=some (true,())):m.configs.length<=20:=by
 obtain⟨f,_,_⟩:=IJ (np h) hv;rcases bk m.configs.length with h0|h0
 ·omega
 ·have hk:m.configs.length-1<m.configs.length:=by omega
  obtain⟨f1,f2⟩:=f _ hk;have:=(xq (fu (h.2 _ (bB hk))) f1).2.2.2.2.1;omega
def qS(l:List eA):Nat:=l.length-3
theorem R8(l:List eA)(hl:l.length<=1048576): (if IntKind.wrap .i64 ((l.length:Int)-3)>0 then IntKind.wrap .i64 ((l.length:Int)-3) else 0)=((qS l:Nat):Int):=by rw[fm (by omega) (by omega)];unfold qS;split<;>omega
end
section

end
section

end
section

end
section

end
section
abbrev fx(x:eh):Int×List eu×List Int×List ey×Int×Int×Int×Int×Int×List fB×Unit:=(x.now,x.servers,x.sides,x.master.configs,x.master.activated,x.masterUp,x.lease.epoch,x.lease.holder,x.lease.ends,x.places,())
abbrev YV(s:eu):Bool×Bool×Int×Int×Int×Int×List Int×List Int×Int×List eA×Int×List eA×Unit:=(s.up,s.intact,s.version,s.epoch,s.config.epoch,s.config.primary,s.config.replicas,s.config.witnesses,s.first,s.log,s.commit,s.learned,())
structure X2 (x x':eh):Prop where
 sides:x'.sides=x.sides
 master:x'.master=x.master
 srv: ∀ (k:Nat) (s:eu),x.servers[k]? =some s-> ∃e,x'.servers[k]? =some (⟨s.up,s.intact,s.version,e,s.config,s.first,s.log,s.commit,s.learned⟩:eu)
theorem X2.refl(x:eh):X2 x x:=⟨rfl,rfl,λ_ s h=>⟨s.epoch,h⟩⟩
theorem X2.side{x x':eh}(h:X2 x x')(a:Int):MQ x' a=MQ x a:=by unfold MQ;rw[h.sides]
section
variable {x x':eh} (ok:gD 1048576 x) (ok':gD 1048576 x') (hv:ew x=some (true,())) (hv':ew x'=some (true,())) (se:X2 x x') {id:Int} (hid:0<=id/\id<5)
include ok ok' hv hv' se hid
omit ok hv se in
end
end
section
structure SV (m:eC) (s:eu) (k:Int):Prop where
 val:fC s k=some (true,())
 ep:s.epoch<=(m.configs.length:Int)
 lrn: ∃e,oA s.learned=some (e,())/\e<=m.activated
 cfg:s.config=⟨0,0,[],[]⟩\/(jI m s.config.epoch=some (s.config,true,())/\s.config.epoch<=m.activated)
theorem SV.old{m:eC}{s:eu}{k:Int}(h:SV m s k)(hm:tf 1048576 m)(hv:fW m=some (true,())):s.config.epoch<=(m.configs.length:Int):=by
 obtain⟨_,f2,f3⟩:=IJ (np hm) hv;rcases h.cfg with h| ⟨_,h⟩
 ·rw[h];show (0:Int)<=_;omega
 ·omega
end
section
abbrev tM(x:eh)(S:List eu):eh:=⟨x.now,S,x.sides,x.master,x.masterUp,x.lease,x.places⟩
end
section

end
section
theorem tg.filter{l:List Int}(h:tg l)(p:Int->Bool):tg (l.filter p):=by refine xw (h.pair.filter p) λy hy=> ?_;obtain⟨k,hk,rfl⟩:=aL (cT.1 hy).1;have:=(h k hk).1;omega
theorem Oe:tg [0,1,2,3,4] :=by refine xw (by simp[SS]) λy hy=> ?_;simp at hy;omega
end
section
theorem MR(l:fH)(e h n t:Int): ∃r b,o6 l e h n t=some (r,b,())/\AG l e h n t=some (r,b,()):=by obtain⟨b,h1,h2⟩:=xY l;obtain⟨q,q1,q2⟩:=CA l n;unfold o6 AG;simp only[h1,h2,q1,q2,ia,rG,ae];cases (l.epoch==e)<;>cases b<;>cases ll e 1 20<;>cases ll h 0 4<;>cases ll n 0 999<;>cases ll t 1 50<;>cases (l.holder==h)<;>cases q<;>exact⟨_,_,rfl,rfl⟩
end
section
theorem IU(m:eK)(ho:m.objects.length<=1000)(hs:m.sessions.length<=1000): ∃b,ik m=some (b,())/\lh m=some (b,())/\(b=true->m.objects.length=3):=by
 have mo:m.objects.length<=maxLen:=by unfold maxLen;omega
 have ms:m.sessions.length<=maxLen:=by unfold maxLen;omega
 have k1:=mp (B1:=ic) (B2:=eY) m.objects.length (λk=>(((),(k:Int),()),((m.objects,m.sessions,()),()),())) (λk=>((m.objects,(),(m.objects.length:Int),(k:Int),()),(),())) (.inr (((),(),()),((m.objects,m.sessions,()),()),())) (.inr (((),()),(),())) (λ_=> .inl (((),false,()),((m.objects,m.sessions,()),()),())) (λk=> .inl (((k:Int),()),(),()))
  (λ_=>True) (λ_=>True)
  (by simp only[ic];rw[ez,if_neg (by omega)])
  (by simp only[eY];rw[ez,if_neg (by omega)])
  (λk hk=>by
    have c1: (k:Int)< (m.objects.length:Int):=by omega
    have c2: (0:Int)<=(k:Int):=by omega
    simp only[ic,eY,ez,eE,if_pos c1,if_pos c2,aw,ah hk,ae,kN,ia,rG,ei mo hk];cases ll m.objects[k] 0 9 with
    |false=>exact .inr ⟨rfl,rfl,trivial⟩
    |true=>exact .inl ⟨rfl,rfl,trivial⟩)
 have k2:=mp (B1:=ig) (B2:=iT) m.sessions.length (λk=>(((),(k:Int),()),((m.objects,m.sessions,()),()),())) (λk=>(((),m.sessions,(m.sessions.length:Int),(k:Int),()),((m.objects,m.sessions,()),()),())) (.inr (((),(),()),((m.objects,m.sessions,()),()),())) (.inr (((),()),(),())) (λ_=> .inl (((),false,()),((m.objects,m.sessions,()),()),())) (λ_=> .inl ((false,()),(),()))
  (λ_=>True) (λ_=>True)
  (by simp only[ig];rw[ez,if_neg (by omega)])
  (by simp only[iT];rw[ez,if_neg (by omega)])
  (λk hk=>by
    have c1: (k:Int)< (m.sessions.length:Int):=by omega
    have c2: (0:Int)<=(k:Int):=by omega
    simp only[ig,iT,ez,eE,if_pos c1,if_pos c2,aw,ah hk,ae,ia,rG,ei ms hk];by_cases h0:0<k
    ·have c3: (k:Int)>0:=by omega
     have c4: (0:Int)<=((k-1:Nat):Int):=by omega
     have e1:m.sessions[k-1]? =some (m.sessions[k-1]'(by omega)):=ah (by omega);simp only[if_pos c3,jW h0 (by unfold maxLen at ms ⊢;omega),if_pos c4,aw,e1,ae];by_cases h: (m.sessions[k-1]'(by omega)).client≥m.sessions[k].client
     ·simp only[if_pos h];cases ll m.sessions[k].client 0 2<;>cases ll m.sessions[k].seq 1 99<;>cases ll m.sessions[k].result.value 0 9<;>exact .inr ⟨rfl,rfl,trivial⟩
     ·simp only[if_neg h];cases ll m.sessions[k].client 0 2<;>cases ll m.sessions[k].seq 1 99<;>cases ll m.sessions[k].result.value 0 9<;>first |exact .inr ⟨rfl,rfl,trivial⟩|exact .inl ⟨rfl,rfl,trivial⟩
    ·have c3: ¬ (k:Int)>0:=by omega
     simp only[if_neg c3];cases ll m.sessions[k].client 0 2<;>cases ll m.sessions[k].seq 1 99<;>cases ll m.sessions[k].result.value 0 9<;>first |exact .inr ⟨rfl,rfl,trivial⟩|exact .inl ⟨rfl,rfl,trivial⟩)
 unfold ik lh fK f7;rcases k1 with ⟨g1,g2,_⟩| ⟨k,_,g1,g2,_⟩
 ·rw[show oe (((),0,()),((m.objects,m.sessions,()),()),())=_ from g1,show gO ((m.objects,(),(m.objects.length:Int),0,()),(),())=_ from g2];rcases k2 with ⟨h1,h2,_⟩| ⟨k',_,h1,h2,_⟩
  ·simp only[ae,cH,show lD (((),0,()),((m.objects,m.sessions,()),()),())=_ from h1,show oq (((),m.sessions,(m.sessions.length:Int),0,()),((m.objects,m.sessions,()),()),())=_ from h2];by_cases h3: (m.objects.length:Int)=3
   ·rw[h3];exact⟨true,rfl,rfl,λ_=>by omega⟩
   ·rw[beq_eq_false_iff_ne.2 h3];exact⟨false,rfl,rfl,λh=>by cases h⟩
  ·simp only[ae,cH,show lD (((),0,()),((m.objects,m.sessions,()),()),())=_ from h1,show oq (((),m.sessions,(m.sessions.length:Int),0,()),((m.objects,m.sessions,()),()),())=_ from h2];cases ((m.objects.length:Int)==3)<;>exact⟨false,rfl,rfl,λh=>by cases h⟩
 ·rw[show oe (((),0,()),((m.objects,m.sessions,()),()),())=_ from g1,show gO ((m.objects,(),(m.objects.length:Int),0,()),(),())=_ from g2];simp only[ae,cQ];rw[decide_eq_true (by omega)];cases ((m.objects.length:Int)==3)<;>exact⟨false,rfl,rfl,λh=>by cases h⟩
theorem G1(m:eK)(c:Int)(hs:m.sessions.length<=1000): ∃s b,js m c=some (s,b,())/\qP m c=some (s,b,())/\(b=true-> ∃x∈m.sessions,x.client=c):=by
 have ms:m.sessions.length<=maxLen:=by unfold maxLen;omega
 have gC:=mp (B1:=il) (B2:=me) m.sessions.length (λk=>((c,(),(),(k:Int),()),((m.objects,m.sessions,()),(0,0,false,0,()),()),())) (λk=>((c,(),m.sessions,(m.sessions.length:Int),(k:Int),()),((0,0,false,0,()),()),())) (.inr (((),(),()),((0,0,false,0,()),()),())) (.inr (((),(),()),((0,0,false,0,()),()),()))
  (λk=>match m.sessions[k]? with |some x=> .inl (((),true,()),((x.client,x.seq,x.result.done,x.result.value,()),()),())|none=> .inr (((),(),()),((0,0,false,0,()),()),())) (λk=>match m.sessions[k]? with |some x=> .inl (((),true,()),((x.client,x.seq,x.result.done,x.result.value,()),()),())|none=> .inr (((),(),()),((0,0,false,0,()),()),()))
  (λ_=>True) (λk=> ∃h:k<m.sessions.length,m.sessions[k].client=c)
  (by simp only[il];rw[ez,if_neg (by omega)])
  (by simp only[me];rw[ez,if_neg (by omega)])
  (λk hk=>by
    have c1: (k:Int)< (m.sessions.length:Int):=by omega
    have c2: (0:Int)<=(k:Int):=by omega
    simp only[il,me,ez,pE,eE,if_pos c1,if_pos c2,aw,ah hk,ae,ei ms hk];by_cases h:m.sessions[k].client=c
    ·simp only[if_pos h];exact .inr ⟨trivial,trivial,hk,h⟩
    ·simp only[if_neg h];exact .inl ⟨trivial,trivial,trivial⟩)
 unfold js qP;rcases gC with ⟨k1,k2,_⟩| ⟨k,hk,k1,k2,_,h⟩
 ·rw[show qi ((c,(),(),0,()),((m.objects,m.sessions,()),(0,0,false,0,()),()),())=_ from k1,show uc ((c,(),m.sessions,(m.sessions.length:Int),0,()),((0,0,false,0,()),()),())=_ from k2];exact⟨_,false,rfl,rfl,λh=>by cases h⟩
 ·rw[ah hk] at k1 k2;rw[show qi ((c,(),(),0,()),((m.objects,m.sessions,()),(0,0,false,0,()),()),())=_ from k1,show uc ((c,(),m.sessions,(m.sessions.length:Int),0,()),((0,0,false,0,()),()),())=_ from k2];exact⟨_,true,rfl,rfl,λ_=>⟨_,bB hk,h⟩⟩
def pK:List en->Int->Nat
 | [],_=>0
 |x::l,c=>if x.client<c then pK l c+1 else 0
theorem R9{x:en}{l:List en}{c:Int}(h:x.client<c):pK (x::l) c=pK l c+1:=by rw[pK,if_pos h]
theorem Sa{x:en}{l:List en}{c:Int}(h: ¬x.client<c):pK (x::l) c=0:=by rw[pK,if_neg h]
theorem Of(l:List en)(c:Int):pK l c<=l.length:=by
 induction l with
 |nil=>exact au _
 |cons x l ih=>
  unfold pK;split
  ·simp only[bo];omega
  ·exact aB _
theorem Og{l:List en}{c:Int}(h: ∃x∈l,x.client=c):pK l c<l.length:=by
 induction l with
 |nil=>obtain⟨x,hx,_⟩:=h;cases hx
 |cons y l ih=>
  unfold pK;split
  ·rename_i hy;obtain⟨x,hx,hc⟩:=h;rcases aV.1 hx with rfl|hx
   ·omega
   ·have:=ih ⟨x,hx,hc⟩;simp only[bo];omega
  ·simp
theorem WX(b d:Bool)(v:Int)(o:Op)(objs:List Int)(l:List en)(hl:l.length<=1000):rz (((),(),(),(),b,(),0,()),((o.client,o.seq,o.kind,o.object,o.old,o.value,()),((),(),()),(false,0,()),((),(),()),(d,v,()),()),objs,l,())=
  some (((),(),(),(),b,(),((pK l o.client:Nat):Int),()),((o.client,o.seq,o.kind,o.object,o.old,o.value,()),((),(),()),(false,0,()),((),(),()),(d,v,()),()),objs,l,()):=by
 have ml:l.length<=maxLen:=by unfold maxLen;omega
 have gC:=lO (B:=m9) l (λk (_:Unit)=>(((),(),(),(),b,(),(k:Int),()),((o.client,o.seq,o.kind,o.object,o.old,o.value,()),((),(),()),(false,0,()),((),(),()),(d,v,()),()),objs,l,())) (λ_ _=>True)
  (λk r _=>(((),(),(),(),b,(),((k+pK r o.client:Nat):Int),()),((o.client,o.seq,o.kind,o.object,o.old,o.value,()),((),(),()),(false,0,()),((),(),()),(d,v,()),()),objs,l,()))
  (λ_ _=>by simp only[m9];rw[ez,if_neg (by omega)];rfl)
  (λk _ x hx _=>by
    have hk:=i9 hx;have c1: (k:Int)< (l.length:Int):=by omega
    have c2: (0:Int)<=(k:Int)/\(k:Int)< (l.length:Int):=by omega
    simp only[m9,ez,eE,if_pos c1,if_pos c2,aw,hx,ae,ei ml hk];by_cases h:x.client<o.client
    ·rw[if_pos h];refine .inl ⟨(),rfl,trivial,?_⟩;rw[pK,if_pos h,show k+(pK (l.drop (k+1)) o.client+1)=k+1+pK (l.drop (k+1)) o.client by omega]
    ·rw[if_neg h];refine .inr ?_;rw[pK,if_neg h];rfl) 0 () (aB _) trivial
 simp only[aK,bM] at gC;exact gC
theorem YW(b d:Bool)(v:Int)(o:Op)(objs:List Int)(l:List en)(hl:l.length<=1000):vI (((),(),(),(),b,(),0,()),((o.client,o.seq,o.kind,o.object,o.old,o.value,()),((),(),()),(false,0,()),((),(),()),(d,v,()),()),objs,l,())=
  some (((),(),(),(),b,(),((pK l o.client:Nat):Int),()),((o.client,o.seq,o.kind,o.object,o.old,o.value,()),((),(),()),(false,0,()),((),(),()),(d,v,()),()),objs,l,()):=by
 rw[<-WX b d v o objs l hl];rfl
def Fk(had:Bool)(l:List en)(s:en):List en:=l.take (pK l s.client)++s::l.drop (bif had then pK l s.client+1 else pK l s.client)
theorem IV{o:Op}(h:fJ o=some (true,())):0<=o.object/\o.object<=2:=by
 unfold fJ at h;simp only[ia,ae] at h;cases h1:ll o.client 0 2 with
 |false=>rw[h1] at h;cases h
 |true=>
  cases h2:ll o.seq 1 99 with
  |false=>rw[h1,h2] at h;cases h
  |true=>
   cases h3:ll o.object 0 2 with
   |false=>rw[h1,h2,h3] at h;cases h
   |true=>exact fe.1 h3
theorem X3(m:eK)(ho:m.objects.length<=1000)(hs:m.sessions.length<=1000):sx m=some (m,())/\nK m=some (m,()):=by
 have h1: (([]:List Int)++m.objects).length*8<=2 ^ 40:=by rw[be];omega
 have h2: (([]:List en)++m.sessions).length*32<=2 ^ 40:=by rw[be];omega
 constructor
 ·unfold sx;rw[fv h1,fv h2];rfl
 ·unfold nK jl qb;rw[fv (by omega),fv (by omega)];rfl
def X4(m:eK)(o:Op)(m':eK):Prop:=m'=m\/ ∃had s x d,js m o.client=some (s,had,())/\x∈m.objects/\m'.sessions=Fk had m.sessions ⟨o.client,o.seq,⟨d,x⟩⟩/\(m'.objects=m.objects\/m'.objects=m.objects.set o.object.toNat o.value)
theorem VY{A B:Option (eK×Result×Bool×Unit)}{n k:Nat}(x:eK)(r:Result)(b:Bool)(h1:A=some (x,r,b,()))(h2:B=some (x,r,b,()))(h3:x.sessions.length<=n)(h4:x.objects.length=k){m:eK}{o:Op}(h5:X4 m o x): ∃x r b,A=some (x,r,b,())/\B=some (x,r,b,())/\x.sessions.length<=n/\x.objects.length=k/\X4 m o x:=⟨x,r,b,h1,h2,h3,h4,h5⟩
theorem YX(l:List en)(z:en)(j:Nat)(hj:j<=l.length)(hl:l.length<=900):ku l (j:Int) [z] =some (l.take j++z::l.drop j,()):=by unfold ku Rl;simp only;rw[fv (by omega),fv (by omega),aw]
theorem UF(l:List en)(z:en)(j:Nat)(hj:j<=l.length): (l.take j++z::l.drop j)[j]? =some z:=by rw[bc (by rw[aR];omega),aR,show j-min j l.length=0 by omega];rfl
theorem UG(l:List en)(z y:en)(j:Nat)(hj:j<=l.length): (l.take j++z::l.drop j).set j y=l.take j++y::l.drop j:=by rw[dM _ _ (by rw[aR];omega),aR,show j-min j l.length=0 by omega];rfl
theorem Oh(l:List en)(z:en)(j:Nat)(hj:j<=l.length): (l.take j++z::l.drop j).length=l.length+1:=by simp only[ax,aR,bo,bf];omega
theorem G2(l:List en)(z:en)(j k:Nat): (l.take j++ [z])++(l.drop k).take (l.length-k)=l.take j++z::l.drop k:=by rw[show (l.drop k).take (l.length-k)=l.drop k from bG (by simp),bn];rfl
theorem UH(l:List en)(z:en)(j:Nat)(hj:j<l.length):l.set j z=l.take j++z::l.drop (j+1):=by rw[List.set_eq_take_append_cons_drop,if_pos hj]
theorem Oi(m:eK)(o:Op)(ho:m.objects.length<=1000)(hs:m.sessions.length<=900): ∃m' r b,na m o=some (m',r,b,())/\rO m o=some (m',r,b,())/\m'.sessions.length<=m.sessions.length+1/\m'.objects.length=m.objects.length/\X4 m o m':=by
 obtain⟨b1,v1,v2,v3⟩:=IU m ho (by omega);obtain⟨b2,o1,o2⟩:=Dc o;obtain⟨s,had,s1,s2,s3⟩:=G1 m o.client (by omega);obtain⟨w1,w2⟩:=X3 m ho (by omega);have hj:=Of m.sessions o.client;unfold na rO;simp only[w1,w2,v1,v2,o1,o2,s1,s2,ae,ej];cases b1 with
 |false=>exact VY m ⟨false,0⟩ false rfl rfl (by omega) rfl (.inl rfl)
 |true=>
 cases b2 with
 |false=>exact VY m ⟨false,0⟩ false rfl rfl (by omega) rfl (.inl rfl)
 |true=>
 have l3:=v3 rfl;have ob:=IV o1;have hlt:o.object.toNat<m.objects.length:=by omega
 have c1:0<=o.object:=ob.1;have c2:0<=o.object/\o.object< (m.objects.length:Int):=by omega
 have e1:=ah hlt;generalize m.objects[o.object.toNat] =x at e1;have hx0:=ap e1;have app: ∀ (m':eK) (d:Bool),(m'.objects=m.objects\/m'.objects=m.objects.set o.object.toNat o.value)->m'.sessions=Fk had m.sessions ⟨o.client,o.seq,⟨d,x⟩⟩->X4 m o m':=λm' d g1 g2=> .inr ⟨had,s,x,d,s1,hx0,g2,g1⟩;have len0: (m.objects.set o.object.toNat o.value).length=m.objects.length:=by simp
 simp only[eI,pE,ez,eE,if_pos c1,if_pos c2,e1,ae,WX _ _ _ o _ m.sessions (by omega),YW _ _ _ o _ m.sessions (by omega),aw,dC,aK,cO,bM,be];have put: ∀d,Fk had m.sessions ⟨o.client,o.seq,⟨d,x⟩⟩=m.sessions.take (pK m.sessions o.client)++(⟨o.client,o.seq,⟨d,x⟩⟩:en)::m.sessions.drop (bif had then pK m.sessions o.client+1 else pK m.sessions o.client):=λ_=>rfl;generalize hP:pK m.sessions o.client=j at*;generalize hL:m.sessions=l at*;have q1:0<=(j:Int)/\(j:Int)<=(l.length:Int)/\(l.length:Int)<=(l.length:Int):=by omega
 have q2:0<=(0:Int)/\0<=(j:Int)/\(j:Int)<=(l.length:Int):=by omega
 have q4: (l.take j).length*32<=2 ^ 40:=by rw[aR];omega
 have q5: ∀z:en,(l.take j++ [z]).length*32<=2 ^ 40:=λz=>by rw[ax,aR,az];omega
 cases had with
 |false=>
  have q:0<=(j:Int)/\(j:Int)< ((l.length+1:Nat):Int):=by omega
  have q6:j+(l.length-j)<=l.length:=by omega
  have q7: (l.length+1)*32<=2 ^ 40:=by omega
  simp only[fg,YX l _ j hj hs,ae,UF l _ j hj,UG l _ _ j hj,Oh l _ j hj,G2,if_pos q,if_pos q1,if_pos q2,if_pos hj,if_pos q4,if_pos (q5 _),if_pos q6,if_pos q7]
  by_cases hk:o.kind=1<;>by_cases hx:x=o.old<;>simp only[if_pos,hk,hx]<;>
   exact⟨_,_,_,rfl,rfl,by rw[Oh l _ j hj];exact au _,by first |exact len0|rfl,app _ _ (by first |exact .inl rfl|exact .inr rfl) (by rw[put];first |rfl| (rw[hx];rfl))⟩
 |true=>
  have hj2:j<l.length:=by rw[<-hP];exact Og (s3 rfl)
  have q:0<=(j:Int)/\(j:Int)< (l.length:Int):=by omega
  have qw:IntKind.wrap .i64 ((j:Int)+1)=((j+1:Nat):Int):=ei (n:=l.length) (by unfold maxLen;omega) hj2;have qa:0<=((j+1:Nat):Int)/\((j+1:Nat):Int)<=(l.length:Int)/\(l.length:Int)<=(l.length:Int):=by omega
  have q6:j+1+(l.length-(j+1))<=l.length:=by omega
  have hl1: ∀z:en,(l.take j++z::l.drop (j+1)).length=l.length:=λz=>by simp only[ax,aR,bo,bf];omega
  have q7:l.length*32<=2 ^ 40:=by omega
  simp only[eI,qw,aw,ae,G2,UH l _ j hj2,hl1,ah hj2,if_pos q,if_pos qa,if_pos q1,if_pos q2,if_pos hj,if_pos q4,if_pos (q5 _),if_pos q6,if_pos q7];by_cases h1:s.seq=o.seq
  ·have h2: ¬s.seq>o.seq:=by omega
   simp only[if_pos h1,if_neg h2];exact⟨m,_,_,rfl,rfl,by rw[hL];omega,rfl,.inl rfl⟩
  ·simp only[if_neg h1];by_cases h2:s.seq>o.seq
   ·simp only[if_pos h2];exact⟨m,_,_,rfl,rfl,by rw[hL];omega,rfl,.inl rfl⟩
   ·simp only[if_neg h2]
    by_cases hk:o.kind=1<;>by_cases hx:x=o.old<;>simp only[hk,hx,if_true,if_false]<;>
     exact⟨_,_,_,rfl,rfl,by rw[hl1];omega,by first |exact len0|rfl,app _ _ (by first |exact .inl rfl|exact .inr rfl) (by rw[put];first |rfl| (rw[hx];rfl))⟩
theorem Fl:oZ=some (⟨[0,0,0],[]⟩,())/\pD=some (⟨[0,0,0],[]⟩,()):=by refine⟨rfl,?_⟩;unfold pD;rw[fv (by decide)];rfl
def UI(o:Op):Bool:=match fJ o with |some (b,_)=>b|none=>false
theorem vK(o:Op):fJ o=some (UI o,()):=by obtain⟨b,h,_⟩:=Dc o;unfold UI;rw[h]
def Sb(l:List eA)(k:Nat):Bool:=match l[k]? with
 |some e=>ll e.epoch 1 20&&(UI e.op&&(decide (k=0)||match l[k-1]? with |some d=> !decide (d.epoch>e.epoch)|none=>false))
 |none=>false
theorem Lb(l:List eA)(hl:l.length<=maxLen):hU l=some (true,())↔l.length<=16/\ ∀k,k<l.length->Sb l k=true:=by
 have gC:=s7 (B:=m8) l.length (λk=>((l,(k:Int),()),(),())) (.inr ((l,(),()),(),())) (λ_=> .inl ((l,false,()),(),())) (λk=> !Sb l k)
  (by simp only[m8];rw[ez,if_neg (by omega)])
  (λk hk=>by
    have c1: (k:Int)< (l.length:Int):=by omega
    have c2: (0:Int)<=(k:Int):=by omega
    simp only[m8,ez,eE,if_pos c1,if_pos c2,aw,ah hk,ae,vK,ia,ei hl hk,ej,Sb];cases ll l[k].epoch 1 20 with
    |false=>rfl
    |true=>
     cases UI l[k].op with
     |false=>rfl
     |true=>
      by_cases h0:0<k
      ·have c3: (k:Int)>0:=by omega
       have c4: (0:Int)<=((k-1:Nat):Int):=by omega
       have c5: ¬k=0:=by omega
       have e2:l[k-1]? =some l[k-1] :=ah (by omega);simp only[eI,if_pos c3,jW h0 (by omega),if_pos c4,aw,e2,ae,decide_eq_false c5,dG,cr,Bool.not_not];by_cases hlt:l[k-1].epoch>l[k].epoch
       ·rw[if_pos hlt,decide_eq_true hlt];rfl
       ·rw[if_neg hlt,decide_eq_false hlt];rfl
      ·have c3: ¬ (k:Int)>0:=by omega
       have c5:k=0:=by omega
       simp only[eI,if_neg c3,decide_eq_true c5];rfl)
 unfold hU;rcases gC with ⟨k1,k2⟩| ⟨k,h0,k1,k2,_⟩
 ·rw[show uz ((l,0,()),(),())=_ from k1];simp only[ae,cH,af,ao,and_true,decide_eq_true_eq];constructor
  ·intro h;exact⟨by omega,λk hk=>by simpa using k2 k hk⟩
  ·intro h;omega
 ·rw[show uz ((l,0,()),(),())=_ from k1];simp only[ae,cQ,af,ao,and_true];constructor
  ·intro h;cases h
  ·rintro⟨_,h⟩
   have:=h k h0;rw[this] at k2;cases k2
theorem Sc{l:List eA}(hl:l.length<=maxLen)(h:hU l=some (true,()))(k:Nat)(hk:k<l.length):UI l[k].op=true:=by have:=((Lb l hl).1 h).2 k hk;unfold Sb at this;rw[ah hk] at this;simp only[al] at this;exact this.2.1
structure VM (m:eK):Prop where
 vlen:m.objects.length=3
 vobj: ∀v∈m.objects,ll v 0 9=true
 vses: ∀x∈m.sessions,ll x.client 0 2=true/\ll x.seq 1 99=true/\ll x.result.value 0 9=true
 vasc:m.sessions.Pairwise λx y=>x.client<y.client
theorem MS{m:eK}{c:Int}{s:en}{b:Bool}(hs:m.sessions.length<=1000)(h:js m c=some (s,b,()))(hb:b=false): ∀x∈m.sessions,x.client≠c:=by
 have ms:m.sessions.length<=maxLen:=by unfold maxLen;omega
 have gC:=s7 (B:=il) m.sessions.length (λk=>((c,(),(),(k:Int),()),((m.objects,m.sessions,()),(0,0,false,0,()),()),())) (.inr (((),(),()),((0,0,false,0,()),()),()))
  (λk=>match m.sessions[k]? with |some x=> .inl (((),true,()),((x.client,x.seq,x.result.done,x.result.value,()),()),())|none=> .inr (((),(),()),((0,0,false,0,()),()),())) (λk=>match m.sessions[k]? with |some x=>x.client==c|none=>false)
  (by simp only[il];rw[ez,if_neg (by omega)])
  (λk hk=>by
    have c1: (k:Int)< (m.sessions.length:Int):=by omega
    have c2: (0:Int)<=(k:Int):=by omega
    simp only[il,ez,eE,if_pos c1,if_pos c2,aw,ah hk,ae,ei ms hk];cases (m.sessions[k].client==c)<;>rfl)
 unfold js at h;rcases gC with ⟨_,k2⟩| ⟨k,hk,k1,_,_⟩
 ·intro x hx e;obtain⟨k,hk,rfl⟩:=aL hx
  have h3: (m.sessions[k].client==c)=false:=by
   have:=k2 k hk
   rwa [ah hk] at this
  rw[e] at h3;simp at h3
 ·rw[ah hk] at k1;rw[show qi ((c,(),(),0,()),((m.objects,m.sessions,()),(0,0,false,0,()),()),())=_ from k1] at h;simp only[ae,cQ,af,ao] at h;rw[<-h.2.1] at hb;cases hb
theorem Lc{had:Bool}{l:List en}{s y:en}(h:y∈Fk had l s):y=s\/y∈l:=by
 unfold Fk at h;rcases aW.1 h with h|h
 ·exact .inr (bO h)
 ·rcases aV.1 h with h|h
  ·exact .inl h
  ·exact .inr (bJ h)
theorem Ld(had:Bool)(s:en): ∀l:List en,l.Pairwise (λx y=>x.client<y.client)->(had=true-> ∃x∈l,x.client=s.client)->(had=false-> ∀x∈l,x.client≠s.client)->(Fk had l s).Pairwise λx y=>x.client<y.client
 | [],_,h1,_=>by
   cases had with
   |true=>obtain⟨x,hx,_⟩:=h1 rfl;cases hx
   |false=>exact cx _ _
 |x::l,h,h1,h2=>by
  obtain⟨hx,hl⟩:=cd.1 h;by_cases hc:x.client<s.client
  ·have e:Fk had (x::l) s=x::Fk had l s:=by
    unfold Fk;rw[R9 hc];cases had<;>rfl
   rw[e];refine cd.2 ⟨λy hy=> ?_,Ld had s l hl (λhh=> ?_) (λhh y hy=>h2 hh y (aO _ hy))⟩
   ·rcases Lc hy with rfl|hy
    ·exact hc
    ·exact hx y hy
   ·obtain⟨y,hy,e⟩:=h1 hh;rcases aV.1 hy with rfl|hy
    ·omega
    ·exact⟨y,hy,e⟩
  ·have e:Fk had (x::l) s=s:: (x::l).drop (bif had then 1 else 0):=by
    unfold Fk;rw[Sa hc];cases had<;>rfl
   rw[e];cases had with
   |true=>
    refine cd.2 ⟨λy hy=> ?_,hl⟩;have:=hx y hy;obtain⟨z,hz,e⟩:=h1 rfl;rcases aV.1 hz with rfl|hz
    ·omega
    ·have:=hx z hz;omega
   |false=>
    refine cd.2 ⟨λy hy=> ?_,h⟩;have h0:=h2 rfl;rcases aV.1 hy with rfl|hy
    ·have:=h0 y aF;omega
    ·have:=hx y hy;have:=h0 x aF;omega
theorem Sd{o:Op}(h:UI o=true):ll o.client 0 2=true/\ll o.seq 1 99=true/\ll o.value 0 9=true:=by
 have h0:fJ o=some (true,()):=by rw[vK,h]
 unfold fJ at h0;simp only[ia,ae] at h0;cases h1:ll o.client 0 2 with
 |false=>rw[h1] at h0;cases h0
 |true=>
  cases h2:ll o.seq 1 99 with
  |false=>rw[h1,h2] at h0;cases h0
  |true=>
   cases h3:ll o.object 0 2 with
   |false=>rw[h1,h2,h3] at h0;cases h0
   |true=>
    cases h4:ll o.value 0 9 with
    |false=>rw[h1,h2,h3,h4] at h0;cases h0
    |true=>exact⟨rfl,rfl,rfl⟩
theorem VM.app{m m':eK}{o:Op}(h:VM m)(hs:m.sessions.length<=900)(ho:UI o=true)(ha:X4 m o m'):VM m':=by
 rcases ha with rfl| ⟨had,s,x,d,h1,h2,h3,h4⟩
 ·exact h
 ·obtain⟨w1,w2,w3⟩:=Sd ho;obtain⟨s',b',t1,_,t3⟩:=G1 m o.client (by omega);rw[h1] at t1
  have hb:had=b':=by have:=Option.some.inj t1;simp only[ao] at this;exact this.2.1
  refine⟨?_,λv hv=> ?_,λy hy=> ?_,?_⟩
  ·rcases h4 with e|e
   ·rw[e];exact h.vlen
   ·rw[e,bz];exact h.vlen
  ·rcases h4 with e|e
   ·rw[e] at hv;exact h.vobj v hv
   ·rw[e] at hv;rcases cf hv with hv|rfl
    ·exact h.vobj v hv
    ·exact w3
  ·rw[h3] at hy;rcases Lc hy with rfl|hy
   ·exact⟨w1,w2,h.vobj x h2⟩
   ·exact h.vses y hy
  ·rw[h3];exact Ld had _ _ h.vasc (λhh=>t3 (hb ▸ hh)) (λhh=>MS (by omega) h1 hh)
theorem PD(l:List eA)(hl:l.length<=maxLen): ∃m b,kj l=some (m,b,())/\qQ l=some (m,b,())/\m.objects.length<=3/\m.sessions.length<=16/\(hU l=some (true,())->b=true/\VM m):=by
 unfold kj qQ;simp only[Fl.1,Fl.2,ae,ej];rcases G0 l hl with ⟨g1,g2,g3⟩| ⟨g1,g2⟩
 ·simp only[g1,g2,ae,eI]
  obtain⟨m,⟨h1,h2,h5⟩,h3,h4⟩:=II (B1:=kC) (B2:=mf) l.length (λk (m:eK)=>((l,(),(),(k:Int),()),(((),(),()),((),(),()),()),m.objects,m.sessions,())) (λk m=>(((),(),l,(l.length:Int),(k:Int),()),(((),(),()),((),(),()),()),m.objects,m.sessions,())) (λk m=>m.objects.length<=3/\m.sessions.length<=k/\VM m)
   (λm=>(((),(),()),(((),(),()),((),(),()),()),m.objects,m.sessions,())) (λm=>(((),(),()),(((),(),()),((),(),()),()),m.objects,m.sessions,()))
   (λm _=>by simp only[kC,mf,ez];exact⟨if_neg (by omega),if_neg (by omega)⟩)
   (λk m hk hm=>by
     have c1: (k:Int)< (l.length:Int):=by omega
     have c2: (0:Int)<=(k:Int):=by omega
     obtain⟨m',r,b,a1,a2,a3,a4,a5⟩:=Oi ⟨m.objects,m.sessions⟩ l[k].op (by show m.objects.length<=1000;omega) (by show m.sessions.length<=900;omega);refine⟨m',?_⟩;simp only[kC,mf,ez,eE,if_pos c1,if_pos c2,aw,ah hk,ae,a1,a2,ei hl hk];exact⟨trivial,trivial,by rw[a4];exact hm.1,aP a3 (Nat.succ_le_succ hm.2.1),VM.app hm.2.2 (by omega) (Sc hl g1 k hk) a5⟩)
   (⟨[0,0,0],[]⟩:eK) ⟨by decide,by decide,⟨rfl,λv hv=>(by simp at hv;subst hv;rfl),λx hx=>(nomatch hx),List.Pairwise.nil⟩⟩
  rw[show yB ((l,(),(),0,()),(((),(),()),((),(),()),()),[0,0,0],[],())=_ from h3,show yQ (((),(),l,(l.length:Int),0,()),(((),(),()),((),(),()),()),[0,0,0],[],())=_ from h4];exact⟨m,true,rfl,rfl,h1,by omega,λ_=>⟨rfl,h5⟩⟩
 ·simp only[g1,g2,ae,fg];exact⟨_,_,rfl,rfl,by decide,by decide,λh=>by cases h⟩
theorem X5(l:List eA)(c q:Int)(hl:l.length<=maxLen): ∃n,jJ l c q=some (n,())/\sY l c q=some (n,())/\(n= -1\/0<=n/\n< (l.length:Int)):=by
 have gC:=mp (B1:=kB) (B2:=ft) l.length (λk=>((l,c,q,(k:Int),()),(),())) (λk=>((l,(c,q,()),(l.length:Int),(k:Int),()),(),())) (.inr (((),()),(),())) (.inr (((),()),(),())) (λk=> .inl (((k:Int),()),(),())) (λk=> .inl (((k:Int),()),(),()))
  (λ_=>True) (λ_=>True)
  (by simp only[kB];rw[ez,if_neg (by omega)])
  (by simp only[ft];rw[ez,if_neg (by omega)])
  (λk hk=>by
    have c1: (k:Int)< (l.length:Int):=by omega
    have c2: (0:Int)<=(k:Int):=by omega
    simp only[kB,ft,tK,ez,pE,eE,if_pos c1,if_pos c2,aw,ah hk,ae,ei hl hk];by_cases h:l[k].op.client=c
    ·simp only[if_pos h,ae,pE];by_cases h':l[k].op.seq=q
     ·simp only[if_pos h'];exact .inr ⟨trivial,trivial,trivial⟩
     ·simp only[if_neg h'];exact .inl ⟨trivial,trivial,trivial⟩
    ·simp only[if_neg h,ae,fg];exact .inl ⟨trivial,trivial,trivial⟩)
 unfold jJ sY gV;rcases gC with ⟨k1,k2,_⟩| ⟨k,hk,k1,k2,_⟩
 ·rw[show zx ((l,c,q,0,()),(),())=_ from k1,show iL ((l,(c,q,()),(l.length:Int),0,()),(),())=_ from k2];exact⟨-1,rfl,rfl,.inl rfl⟩
 ·rw[show zx ((l,c,q,0,()),(),())=_ from k1,show iL ((l,(c,q,()),(l.length:Int),0,()),(),())=_ from k2];exact⟨(k:Int),rfl,rfl,.inr ⟨by omega,by omega⟩⟩
end
section
theorem u9(x:eh)(ok:gD 1048576 x)(id:Int): ∃b,iV x id=some (b,())/\iW x id=some (b,())/\(b=true->ew x=some (true,())/\0<=id/\id<5/\ ∀s,x.servers[id.toNat]? =some s->gb s id=some (true,())):=by
 obtain⟨v,v1,v2⟩:=jo x ok;cases v with
 |false=>
  refine⟨false,?_,?_,nofun⟩
  ·unfold iV;simp only[v1,ae,fg]
  ·unfold iW im;simp only[v2,ae,fg]
 |true=>
  cases hw:ll id 0 4 with
  |false=>
   refine⟨false,?_,?_,nofun⟩
   ·unfold iV;simp only[v1,ia,hw,ae,eI,fg]
   ·unfold iW im;simp only[v2,rG,hw,ae,eI,fg]
  |true=>
   have hid:=fe.1 hw;obtain⟨s,s1,s2,s3⟩:=AM ok (jR ok v1) (a:=id) (by omega);obtain⟨b,b1,b2⟩:=ot s id s2;refine⟨b,?_,?_,λhb=>⟨v1,hid.1,by omega,λs' hs=> ?_⟩⟩
   ·unfold iV;simp only[v1,ia,hw,ae,eI,eE,if_pos hid.1,s1,b1]
   ·unfold iW im;simp only[v2,rG,hw,ae,eI,eE,if_pos hid.1,s1,b2]
   ·rw[s1] at hs;obtain rfl:=Option.some.inj hs;rw[b1,hb]
theorem Se(l:List eA)(hl:l.length<=1048576)(hv:hU l=some (true,())):wQ l=some (((qS l:Nat):Int),l.drop (qS l),()):=by
 unfold wQ xT;have hc:qS l<=l.length:=by unfold qS;omega
 have c1: (0:Int)<=((qS l:Nat):Int)/\((qS l:Nat):Int)<=(l.length:Int)/\(l.length:Int)<=(l.length:Int):=by omega
 have ht: ((l.drop (qS l)).take (l.length-qS l))=l.drop (qS l):=bG (by simp);simp only[hv,ae,bQ,fg,R8 l hl,eE,if_pos c1,aw,ht,(ya (l.drop (qS l)) (by simp;omega)).1]
theorem X6{x:eh}(ok:gD 1048576 x){k:Nat}{t:eu}(ht:gW 1048576 t):gD 1048576 (tM x (x.servers.set k t)):=by
 refine⟨⟨by rw[bz];exact ok.1.1,λs hs=> ?_⟩,ok.2⟩;rcases cf hs with h|rfl
 ·exact ok.1.2 s h
 ·exact ht
theorem Le(x:eh)(ok:gD 1048576 x)(id:Int): ∃n,jt x id=some (n,())/\mg x id=some (n,()):=by
 obtain⟨p,p1,p2,p3⟩:=u9 x ok id;cases p with
 |false=>
  refine⟨0,?_,?_⟩
  ·unfold jt;simp only[p1,ae,da,eI]
  ·unfold mg;simp only[p2,ae,da,eI]
 |true=>
  obtain⟨hv,h0,h5,_⟩:=p3 rfl;have vc:=jR ok hv;obtain⟨s,s1,s2,s3⟩:=AM ok vc ⟨h0,h5⟩;obtain⟨l,l1,l2,l3,l4,_,_⟩:=PC s.config (fu s2.1);have lm:l.length<=maxLen:=by unfold maxLen;omega
  obtain⟨n,_,k1,k2⟩:=II (B1:=jb) (B2:=ke) l.length (λk (b:Int)=>(((),b,(),(k:Int),()),(fx x,()),l,())) (λk b=>(((),b,(),(l.length:Int),(k:Int),()),(fx x,()),l,())) (λ_ _=>True) (λb=>((b,()),(),())) (λb=>((b,()),(),()))
   (λb _=>by simp only[jb,ke,ez];exact⟨if_neg (by omega),if_neg (by omega)⟩)
   (λk b hk _=>by
     have c1: (k:Int)< (l.length:Int):=by omega
     have c2: (0:Int)<=(k:Int)/\(k:Int)< (l.length:Int):=by omega
     have hz:=l4 _ (bB hk);obtain⟨t,t1,_,_⟩:=AM ok vc hz;refine⟨if t.version<b then t.version else b,?_⟩;simp only[jb,ke,fx,ez,eE,if_pos c1,if_pos c2,aw,ah hk,ae,if_pos hz.1,t1,ei lm hk];exact⟨trivial,trivial,trivial⟩)
   2 trivial
  refine⟨n,?_,?_⟩
  ·unfold jt;simp only[p1,s1,l1,eE,if_pos h0,ae,bQ,fg];rw[show vY (((),2,(),0,()),(fx x,()),l,())=_ from k1];rfl
  ·unfold mg;simp only[p2,s1,l2,eE,if_pos h0,ae,bQ,fg];rw[show wi (((),2,(),(l.length:Int),0,()),(fx x,()),l,())=_ from k2];rfl
theorem Sf(x:eh)(ok:gD 1048576 x)(id:Int)(o:Op): ∃S c,fX x id o=some (tM x S,c,())/\kv x id o=some (tM x S,c,())/\gD 1048576 (tM x S)/\S.length=x.servers.length/\(c=0->0<=id/\id<5/\x.servers.length=5):=by
 obtain⟨c1,c2⟩:=jQ x ok;obtain⟨v,v1,v2⟩:=jo x ok
 have out: ∀ {A B:Option (eh×Int×Unit)} (c:Int),A=some (x,c,())->B=some (x,c,())->(c=0->0<=id/\id<5/\x.servers.length=5)-> ∃S c,A=some (tM x S,c,())/\B=some (tM x S,c,())/\gD 1048576 (tM x S)/\S.length=x.servers.length/\(c=0->0<=id/\id<5/\x.servers.length=5):=
  λc h1 h2 h3=>⟨x.servers,c,h1,h2,ok,rfl,h3⟩
 unfold fX kv iW im;cases v with
 |false=>simp only[c1,c2,v1,v2,ae,fg,da,eI];exact out 1 rfl rfl nofun
 |true=>
  cases hw:ll id 0 4 with
  |false=>simp only[c1,c2,v1,v2,ia,rG,hw,ae,fg,da,bQ,eI];exact out 1 rfl rfl nofun
  |true=>
   have hid:=fe.1 hw;have vc:=jR ok v1;obtain⟨s,s1,s2,s3⟩:=AM ok vc (a:=id) (by omega);have fin:0<=id/\id<5/\x.servers.length=5:=⟨hid.1,by omega,vc.len⟩
   obtain⟨b,b1,b2⟩:=Dc o;obtain⟨p,p1,p2⟩:=ot s id s2;have hlog:s.log.length<=16:=(Fh s2 s3).2.2.1;obtain⟨n,n1,n2,n3⟩:=X5 s.log o.client o.seq (eW s2.2.1);simp only[c1,c2,v1,v2,ia,rG,hw,b1,b2,s1,p1,p2,n1,n2,eE,if_pos hid.1,ae,bQ,fg,eI];cases b with
   |false=>exact out 1 rfl rfl nofun
   |true=>
   cases s.up with
   |false=>exact out 2 rfl rfl nofun
   |true=>
   cases p with
   |false=>exact out 3 rfl rfl nofun
   |true=>
   simp only[bQ,fg,ez];by_cases hn:n≥0
   ·have hlt:n.toNat<s.log.length:=by omega
    have hn0:0<=n:=hn;simp only[if_pos hn,if_pos hn0,ah hlt,ae];cases (!((s.log[n.toNat].op.client==o.client)&&((s.log[n.toNat].op.seq==o.seq)&&((s.log[n.toNat].op.kind==o.kind)&&((s.log[n.toNat].op.object==o.object)&&((s.log[n.toNat].op.old==o.old)&&((s.log[n.toNat].op.value==o.value)&&true))))))) with
    |true=>exact out 11 rfl rfl nofun
    |false=>exact out 0 rfl rfl (λ_=>fin)
   ·obtain⟨m,mb,m1,m2,m3,m4,_⟩:=PD s.log (eW s2.2.1);obtain⟨m',r,ab,a1,a2,_⟩:=Oi m o (by omega) (by omega);simp only[if_neg hn,m1,m2,a1,a2,ae];cases ab with
    |false=>exact out 11 rfl rfl nofun
    |true=>
    obtain⟨g,g1,g2⟩:=Le x ok id;have cc:0<=id/\id< (x.servers.length:Int):=by rw[vc.len];omega
    have h56: (s.log++ [(⟨s.epoch,o⟩:eA)]).length*56<=2 ^ 40:=by rw[ax,az];omega
    have hlt: ¬s.log.length<s.log.length:=cU _
    have tail: ∀c:Bool,∃S k,(br c (some (x,5,())) (if 0<=id/\id< (x.servers.length:Int) then (if (s.log++ [(⟨s.epoch,o⟩:eA)]).length*56<=2 ^ 40 then (if 0<=id/\id< (x.servers.length:Int) then some (tM x (x.servers.set id.toNat ⟨true,s.intact,s.version,s.epoch,s.config,s.first,s.log++ [(⟨s.epoch,o⟩:eA)],s.commit,s.learned⟩),(0:Int),()) else none) else none) else none))=some (tM x S,k,())/\gD 1048576 (tM x S)/\S.length=x.servers.length:=by
     intro c;cases c with
     |true=>exact⟨x.servers,5,rfl,ok,rfl⟩
     |false=>rw[fg,if_pos cc,if_pos h56,if_pos cc];exact⟨_,0,rfl,X6 ok ⟨s2.1,by rw[ax,az];omega,s2.2.2⟩,by rw[bz]⟩
    obtain⟨S,k,t1,t2,t3⟩:=tail ((s.log.length:Int)==16);simp only[kD,qt,ae,g1,g2,s1,eE,if_neg hlt,bq,eq_self,if_true,bQ,fg,ez];cases hk: (o.kind==2) with
    |true=>
     simp only[eI];by_cases hg:g<2
     ·simp only[if_pos hg];exact out 6 rfl rfl nofun
     ·simp only[if_neg hg];exact⟨S,k,t1,t1,t2,t3,λ_=>fin⟩
    |false=>simp only[fg];exact⟨S,k,t1,t1,t2,t3,λ_=>fin⟩
end
section
def Tt{α:Type}(Q:α->Prop)(r:Option α):Prop:=∃a,r=some a/\Q a
section
variable {α β σ ε:Type} {Q:α->Prop} {Q':β->Prop}
theorem Tt.ret{a:α}(h:Q a):Tt Q (some a):=⟨a,rfl,h⟩
theorem Tt.bind{r:Option α}{k:α->Option β}(h:Tt Q r)(hk: ∀a,Q a->Tt Q' (k a)):Tt Q' (r.bind k):=by obtain⟨a,rfl,h⟩:=h;exact hk a h
theorem Tt.mono{Q2:α->Prop}{r:Option α}(h:Tt Q r)(hq: ∀a,Q a->Q2 a):Tt Q2 r:=h.imp λ_ h=>⟨h.1,hq _ h.2⟩
theorem Tt.ip{p:Prop}{d:Decidable p}{x y:Option α}(hp:p)(h:Tt Q x):Tt Q (@iteP _ p d x y):=by rw[fv hp];exact h
theorem Tt.br{b:Bool}{x y:Option α}(h1:b=true->Tt Q x)(h2:b=false->Tt Q y):Tt Q (br b x y):=by
 cases b with
 |true=>exact h1 rfl
 |false=>exact h2 rfl
theorem Tt.get{γ:Type}{l:List γ}{i:Nat}{k:γ->Option α}(hi:i<l.length)(h: ∀x,l[i]? =some x->x∈l->Tt Q (k x)):Tt Q ((l[i]?).bind k):=by rw[ah hi];exact h _ (ah hi) (bB hi)
theorem Tt.loop{B:σ->Option (σ⊕ε)}{E:ε->Prop}(I:σ->Prop)(μ:σ->Nat)(h: ∀s,I s->Tt (Sum.elim (λs'=>I s'/\μ s'<μ s) E) (B s)){s:σ}(hs:I s):Tt E (hO B s):=
 tC I μ E (λs hs=>by
  obtain⟨r,h1,h2⟩:=h s hs;cases r with
  |inl s'=>exact .inl ⟨s',h1,h2.1,h2.2⟩
  |inr e=>exact .inr ⟨e,h1,h2⟩) hs
theorem Tt.go{p:Prop}[Decidable p]{x y:Option α}(hp:p)(h:Tt Q x):Tt Q (Go.Proofs.YtkghndikalnipaaGreat.En.br (decide p) x y):=by rw[ez,if_pos hp];exact h
theorem Tt.end{p:Prop}[Decidable p]{x y:Option α}(hp: ¬p)(h:Tt Q y):Tt Q (Go.Proofs.YtkghndikalnipaaGreat.En.br (decide p) x y):=by rw[ez,if_neg hp];exact h
theorem Tt.count{B:σ->Option (σ⊕ε)}{E:ε->Prop}(n:Nat)(m:Nat->β->σ)(J:Nat->β->Prop)(h0: ∀b,J n b->Tt (Sum.elim (λ_=>False) E) (B (m n b)))
  (h1: ∀k b,k<n->J k b->Tt (Sum.elim (λs=> ∃b',s=m (k+1) b'/\J (k+1) b') E) (B (m k b))) (b:β) (hb:J 0 b):Tt E (hO B (m 0 b)):=by
 have go: ∀ (d k:Nat) (b:β),k+d=n->J k b->Tt E (hO B (m k b)):=by
  intro d
  induction d with
  |zero=>
   intro k b hk hb;obtain rfl:k=n:=hk;obtain⟨r,e1,e2⟩:=h0 b hb;cases r with
   |inl s=>exact e2.elim
   |inr e=>exact⟨e,by rw[sk,e1];rfl,e2⟩
  |succ d ih=>
   intro k b hk hb;obtain⟨r,e1,e2⟩:=h1 k b (by omega) hb;cases r with
   |inl s=>obtain⟨b',rfl,hb'⟩:=e2;rw[sk,e1];exact ih (k+1) b' (by omega) hb'
   |inr e=>exact⟨e,by rw[sk,e1];rfl,e2⟩
 exact go n 0 b (aK n) hb
end
abbrev T1{α:Type}(_:α):Prop:=True
theorem qv{l:List Int}(ha:tg l): ∀y∈l,0<=y/\y<5:=by intro y hy;obtain⟨k,hk,rfl⟩:=aL hy;have:=(ha k hk).1;omega
theorem va(c:ey)(h:jh maxLen c):Tt (λy=>y.1.length<=10/\ ∀z∈y.1,0<=z/\z<5) (gF c):=by obtain⟨v,v1,_⟩:=oG c h;unfold gF;rw[v1,ae,ej];refine .br (λe=> ?_) λ_=> .ret ⟨aB _,nofun⟩;subst e;obtain⟨a1,a2,_⟩:=xq h v1;have l1:=a1.len;have l2:=a2.len;obtain⟨r,r1,_,r4,r5⟩:=MN c.replicas c.witnesses (by omega) (by omega);rw[r1];exact .ret ⟨by show r.length<=10;omega,λz hz=>((r4 z).1 hz).elim (qv a1 z) (qv a2 z)⟩
theorem Lf{x:eh}(ok:gD 1048576 x)(vc:VC x)(a b:Int):Tt T1 (jc x.sides a b):=by have h5:=s8 (eW ok.2.1) vc.sides;unfold jc;simp only[vc.sides,ia,ae,eI];refine .br (λha=> .br (λhb=> ?_) λ_=> .ret trivial) λ_=> .ret trivial;have ha:=fe.1 ha;have hb:=fe.1 hb;exact .ip ha.1 (.get (by omega) λ_ _ _=> .ip hb.1 (.get (by omega) λ_ _ _=> .ret trivial))
theorem Tt.srv{α:Type}{Q:α->Prop}{x:eh}(ok:gD 1048576 x)(vc:VC x){a:Int}(ha:0<=a/\a<5){k:eu->Option α}(h: ∀s,x.servers[a.toNat]? =some s->gW 1048576 s->fC s a=some (true,())->Tt Q (k s)):Tt Q (iteP (0<=a) ((x.servers[a.toNat]?).bind k) none):=by obtain⟨s,s1,s2,s3⟩:=AM ok vc ha;refine .ip ha.1 ?_;rw[s1];exact h s s1 s2 s3
theorem Sg{x:eh}(ok:gD 1048576 x)(vc:VC x){a b:Int}(ha:0<=a/\a<5)(hb:0<=b/\b<5):Tt T1 (pS x a b):=by unfold pS;refine .srv ok vc hb λm m1 m2 _=> .bind (Lf ok vc a b) λ_ _=> .br (λ_=> .br (λ_=> .srv ok vc ha λp p1 p2 _=> .br (λ_=> .srv ok vc ha λ_ _ _ _=> .br (λ_=> .srv ok vc ha λq _ _ _=> ?_) λ_=> .ret trivial) λ_=> .ret trivial) λ_=> .ret trivial) λ_=> .ret trivial;rw[(iX m.config q.config (fu m2.1)).1];exact .ret trivial
theorem xx{l:List eA}(h:l.length<=maxLen): ∃b,hU l=some (b,())/\(b=true->l.length<=16):=by
 rcases G0 l h with ⟨h1,_,h2⟩| ⟨h1,_⟩
 ·exact⟨true,h1,λ_=>h2⟩
 ·exact⟨false,h1,nofun⟩
theorem AN{l:List eA}(h:l.length<=1048576):iZ l=some (l,()):=(ya l h).1
theorem VZ(l:List eA)(c q:Int)(hl:l.length<=maxLen):Tt (λy=>y.1= -1\/0<=y.1/\y.1< (l.length:Int)) (jJ l c q):=by
 unfold jJ;refine .bind (.count (B:=kB) (E:=Sum.elim (λy=>0<=y.1.1/\y.1.1< (l.length:Int)) λ_=>True) l.length (λk (_:Unit)=>((l,c,q,(k:Int),()),(),())) (λ_ _=>True) (λ_ _=> ?_) (λk _ hk _=> ?_) () trivial) λy hy=> ?_
 ·unfold kB;simp only[ez];rw[if_neg (by omega)];exact .ret trivial
 ·unfold kB;simp only[ez];rw[if_pos (by omega)];refine .ip (by omega) (.get (by omega) λ_ _ _=> .br (λ_=> .ip (by omega) (.get (by omega) λ_ _ _=> .br (λ_=> .ret ?_) λ_=> .ret ⟨(),by rw[ei hl hk],trivial⟩)) λ_=> .ret ⟨(),by rw[ei hl hk],trivial⟩);exact⟨by show (0:Int)<=k;omega,by show (k:Int)<_;omega⟩
 ·cases y with
  |inl y=>exact .ret (.inr hy)
  |inr y=>exact .ret (.inl rfl)
end
section
theorem zM{l:List eu}(h:l.length<=1048576/\ ∀s∈l,gW 1048576 s){s:eu}(hs:gW 1048576 s)(i:Nat): (l.set i s).length<=1048576/\ ∀s'∈l.set i s,gW 1048576 s':=
 ⟨by rw[bz];exact h.1,λs' hm=>(cf hm).elim (h.2 s') λe=>e ▸ hs⟩
theorem WY(x:eh)(ok:gD 1048576 x)(id:Int): ∃y n,nD x id=some (y,n,())/\gD 1048576 y/\y.servers.length=x.servers.length:=by
 obtain⟨b,b1,_,b2⟩:=IL x id ok;unfold nD;simp only[(jQ x ok).1,b1,ae,ej];cases b with
 |false=>exact⟨x,1,rfl,ok,rfl⟩
 |true=>
  obtain⟨hv,h0,h5⟩:=b2 rfl;obtain⟨s,s1,_⟩:=AM ok (jR ok hv) ⟨h0,h5⟩;have hlt:=i9 s1;have hs:=ok.1.2 s (ap s1);simp only[eI,eE,if_pos h0,s1,ae];rw[if_pos ⟨h0,by omega⟩];cases s.up with
  |false=>exact⟨x,2,rfl,ok,rfl⟩
  |true=>exact⟨_,0,rfl,⟨zM ok.1 (show gW 1048576 ⟨false,s.intact,s.version,s.epoch,s.config,s.first,s.log,s.commit,s.learned⟩ from hs) _,ok.2⟩,bz⟩
theorem Si(x:eh)(ok:gD 1048576 x)(id:Int): ∃y n,lT x id=some (y,n,())/\gD 1048576 y/\y.servers.length=x.servers.length:=by
 obtain⟨b,b1,_,b2⟩:=IL x id ok;unfold lT;simp only[(jQ x ok).1,b1,ae,ej];cases b with
 |false=>exact⟨x,1,rfl,ok,rfl⟩
 |true=>
  obtain⟨hv,h0,h5⟩:=b2 rfl;obtain⟨s,s1,_⟩:=AM ok (jR ok hv) ⟨h0,h5⟩;have hlt:=i9 s1;have hs:=ok.1.2 s (ap s1);simp only[eI,eE,if_pos h0,s1,ae];rw[if_pos ⟨h0,by omega⟩];cases s.up with
  |true=>exact⟨x,1,rfl,ok,rfl⟩
  |false=>exact⟨_,0,rfl,⟨zM ok.1 (show gW 1048576 ⟨true,s.intact,s.version,s.epoch,s.config,s.first,s.log,s.commit,s.learned⟩ from hs) _,ok.2⟩,bz⟩
theorem X7(x:eh)(ok:gD 1048576 x)(id:Int): ∃y n,sM x id=some (y,n,())/\gD 1048576 y/\y.servers.length=x.servers.length:=by
 obtain⟨b,b1,_,b2⟩:=IL x id ok;unfold sM;simp only[(jQ x ok).1,b1,ae,ej];cases b with
 |false=>exact⟨x,1,rfl,ok,rfl⟩
 |true=>obtain⟨hv,h0,h5⟩:=b2 rfl;obtain⟨s,s1,_⟩:=AM ok (jR ok hv) ⟨h0,h5⟩;have hlt:=i9 s1;simp only[eI,eE,if_pos h0,s1,ae,rC];rw[if_pos ⟨h0,by omega⟩];exact⟨_,0,rfl,⟨zM ok.1 ⟨⟨aB _,aB _⟩,aB _,aB _⟩ _,ok.2⟩,bz⟩
theorem Sj(x:eh)(ok:gD 1048576 x)(n:Int): ∃y k,pg x n=some (y,k,())/\gD 1048576 y/\y.servers.length=x.servers.length:=by
 obtain⟨v,v1,_⟩:=jo x ok;unfold pg;simp only[(jQ x ok).1,v1,ia,ae,ej];cases v with
 |false=>exact⟨x,1,rfl,ok,rfl⟩
 |true=>
  simp only[eI];cases ll n 0 3 with
  |false=>exact⟨x,1,rfl,ok,rfl⟩
  |true=>exact⟨_,0,rfl,ok,rfl⟩
theorem X8(x:eh)(ok:gD 1048576 x)(a b:Int): ∃y k,pf x a b=some (y,k,())/\gD 1048576 y/\y.servers.length=x.servers.length:=by
 obtain⟨v,v1,_⟩:=jo x ok;obtain⟨u,u1,_⟩:=AJ x.sides (eW ok.2.1)
 have hm: ∃l t,sN x.sides a b=some (l,t,())/\l.length=x.sides.length:=by
  unfold sN;simp only[be,eE,u1,ia,ae,ej];rw[if_pos (show x.sides.length*8<=2 ^ 40 by have:=ok.2.1;omega)];cases u with
  |false=>exact⟨_,_,rfl,rfl⟩
  |true=>
   simp only[eI];cases hw:ll a 0 4 with
   |false=>exact⟨_,_,rfl,rfl⟩
   |true=>
    simp only[eI];cases ll b 0 3 with
    |false=>exact⟨_,_,rfl,rfl⟩
    |true=>have hw:=fe.1 hw;have hl:=s8 (eW ok.2.1) u1;simp only[eI];rw[if_pos ⟨hw.1,by omega⟩,ah (by omega)];exact⟨_,_,rfl,bz⟩
 obtain⟨l,t,l1,l2⟩:=hm;unfold pf;simp only[(jQ x ok).1,v1,l1,ae,ej];cases v with
 |false=>exact⟨x,1,rfl,ok,rfl⟩
 |true=>
  cases t with
  |false=>exact⟨x,1,rfl,ok,rfl⟩
  |true=>exact⟨_,0,rfl,⟨ok.1,by show l.length<=1048576;rw[l2];exact ok.2.1,ok.2.2⟩,rfl⟩
theorem Lg(x:eh)(ok:gD 1048576 x)(id:Int): ∃n:Int,oB x id=some (n,())/\(n=0->ew x=some (true,())/\0<=id/\id<5):=by
 obtain⟨v,v1,_⟩:=jo x ok;unfold oB;simp only[v1,ia,ae,ej];cases v with
 |false=>exact⟨1,rfl,λh=>absurd h (by decide)⟩
 |true=>
  simp only[eI];cases hw:ll id 0 4 with
  |false=>exact⟨1,rfl,λh=>absurd h (by decide)⟩
  |true=>
   have hw:=fe.1 hw;obtain⟨s,s1,_⟩:=AM ok (jR ok v1) ⟨hw.1,by omega⟩;simp only[eI,eE,if_pos hw.1,s1,ae];cases s.up with
   |false=>exact⟨2,rfl,λh=>absurd h (by decide)⟩
   |true=>exact⟨0,rfl,λ_=>⟨trivial,hw.1,by omega⟩⟩
end
section
theorem tn{k n:Nat}(h:k<n): (k:Int).toNat<n:=h
theorem Lh(m:eK)(ho:m.objects.length<=1000)(hs:m.sessions.length<=1000):Tt (λy=>y.1=true->m.objects.length=3) (ik m):=by
 have mo:m.objects.length<=maxLen:=by unfold maxLen;omega
 have ms:m.sessions.length<=maxLen:=by unfold maxLen;omega
 unfold ik;refine .bind (.count (B:=ic) (E:=Sum.elim (λy=>y.1.2=(false,())) λy=>y.2.1=((m.objects,m.sessions,()),())) m.objects.length (λk (_:Unit)=>(((),(k:Int),()),((m.objects,m.sessions,()),()),())) (λ_ _=>True) (λ_ _=> .end (aZ _) (.ret rfl)) (λk _ hk _=> .go (aH.2 hk) (.ip (ay k) (.get (tn hk) λx _ _=> ?_))) () trivial) λy hy=> ?_
 ·rw[ia,ae,ej];exact .br (λ_=> .ret ⟨(),by rw[ei mo hk],trivial⟩) λ_=> .ret rfl
 cases y with
 |inl y=>exact .ret (by rw[show y.1.2=_ from hy];nofun)
 |inr y=>
  show Tt _ ((lD (((),0,()),y.2.1,())).bind _);rw[show y.2.1=_ from hy];refine .bind (.count (B:=ig) (E:=Sum.elim (λy=>y.1.2=(false,())) λy=>y.2.1=((m.objects,m.sessions,()),())) m.sessions.length (λk (_:Unit)=>(((),(k:Int),()),((m.objects,m.sessions,()),()),())) (λ_ _=>True) (λ_ _=> .end (aZ _) (.ret rfl)) (λk _ hk _=> .go (aH.2 hk) (.ip (ay k) (.get (tn hk) λx _ _=> ?_))) () trivial) λy hy=> ?_
  ·simp only[ia,ae,ej]
   have hw: (k:Int)>0->IntKind.wrap .i64 ((k:Int)-1)=(k:Int)-1:=λh=>by unfold maxLen at ms;exact fm (by omega) (by omega)
   refine .br (λ_=> .br (λ_=> .br (λ_=> .br (λh=> ?_) λ_=> .ret ⟨(),by rw[ei ms hk],trivial⟩) λ_=> .ret rfl) λ_=> .ret rfl) λ_=> .ret rfl;have h:=of_decide_eq_true h;rw[hw h];exact .ip (by omega) (.get (by omega) λ_ _ _=> .br (λ_=> .ret rfl) λ_=> .ret ⟨(),by rw[ei ms hk],trivial⟩)
  cases y with
  |inl y=>exact .ret (by rw[show y.1.2=_ from hy];nofun)
  |inr y=>show Tt _ (some (((y.2.1.1.1.length:Int)==3),()));rw[show y.2.1=_ from hy];exact .ret λh=>by have : (m.objects.length:Int)=3:=eq_of_beq h;omega
theorem Sk(m:eK)(c:Int)(hs:m.sessions.length<=1000):Tt (λy=>y.2.1=true-> ∃x∈m.sessions,x.client=c) (js m c):=by
 have ms:m.sessions.length<=maxLen:=by unfold maxLen;omega
 unfold js;refine .bind (.count (B:=il) (E:=Sum.elim (λy=> ∃x∈m.sessions,x.client=c) λ_=>True) m.sessions.length (λk (_:Unit)=>((c,(),(),(k:Int),()),((m.objects,m.sessions,()),(0,0,false,0,()),()),())) (λ_ _=>True) (λ_ _=> .end (aZ _) (.ret trivial)) (λk _ hk _=> .go (aH.2 hk) (.ip (ay k) (.get (tn hk) λx _ hx=> .br (λe=> .ip (ay k) (.get (tn hk) λ_ _ _=> .ret ⟨x,hx,eq_of_beq e⟩)) λ_=> .ret ⟨(),by rw[ei ms hk],trivial⟩))) () trivial) λy hy=> ?_;cases y with
 |inl y=>exact .ret λ_=>hy
 |inr y=>exact .ret nofun
theorem MT(m:eK)(o:Op)(ho:m.objects.length<=1000)(hs:m.sessions.length<=900):Tt (λy=>y.1.sessions.length<=m.sessions.length+1/\y.1.objects.length=m.objects.length) (na m o):=by
 obtain⟨⟨b,_⟩,v1,v2⟩:=Lh m ho (by omega);unfold na
 have cp:sx m=some (m,()):=by unfold sx;simp only[be];rw[fv (by omega),fv (by omega)]
 rw[cp,ae,v1,ae,ej,vK];refine .br (λe=> ?_) λ_=> .ret ⟨ci _,rfl⟩;have h3:=v2 e;rw[ae,ej];refine .br (λeo=> .bind (Sk m o.client (by omega)) λy hy=> ?_) λ_=> .ret ⟨ci _,rfl⟩;have hob:=IV (show fJ o=some (true,()) by rw[vK];rw[show UI o=true from eo]);have hle:=Of m.sessions o.client;have hlt:y.2.1=true->pK m.sessions o.client<m.sessions.length:=λh=>Og (hy h);have hw:IntKind.wrap .i64 (((pK m.sessions o.client:Nat):Int)+1)=((pK m.sessions o.client:Nat):Int)+1:=fm (by omega) (by omega);generalize hp:pK m.sessions o.client=p at hle hlt hw
 have ln: ∀ (k:Nat) (z:en),k<=m.sessions.length+1->p<=k->(m.sessions.take p++ [z] ++(m.sessions.drop k).take (m.sessions.length-k)).length=p+1+(m.sessions.length-k):=λk z h1 h2=>by simp only[ax,aR,bf,az];omega
 have g0:0<=(p:Int):=ay p;have g1: (p:Int)<=(m.sessions.length:Int):=Int.ofNat_le.2 hle;have g3:0<=(p:Int)+1:=by omega
 have g2:y.2.1=true->(p:Int)+1<=(m.sessions.length:Int):=λh=>by have:=hlt h;omega
 have l1: (m.sessions.take p).length<=900:=by rw[aR];omega
 extract_lets+lift j44 j45
 have h44:Tt (λy=>y.1.sessions.length<=m.sessions.length+1/\y.1.objects.length=m.objects.length) j44:=by
  unfold j44;refine .ip hob.1 (.get (by show o.object.toNat<_;omega) λx _ _=> .br (λ_=> .ip (by show 0<=o.object/\o.object< (m.objects.length:Int);omega) (.get (by show o.object.toNat<m.objects.length;omega) λ_ _ _=> ?_)) λ_=> .br (λ_=> .ip (by show 0<=o.object/\o.object< (m.objects.length:Int);omega) (.get (by show o.object.toNat<m.objects.length;omega) λ_ _ _=> ?_)) λ_=> ?_)
  all_goals
   show Tt _ ((rz (((),(),(),(),y.2.1,(),0,()),((o.client,o.seq,o.kind,o.object,o.old,o.value,()),((),(),()),(false,0,()),((),(),()),(_,_,()),()),_,m.sessions,())).bind _);rw[WX _ _ _ _ _ _ (by omega),hp,ae];simp only[hw,be,aK,bM,aw,show (0:Int).toNat=0 from rfl,cO,show ((p:Int)+1).toNat=p+1 from rfl];refine .ip ⟨g0,g1,bU _⟩ (.br (λe=> ?_) λ_=> ?_)
   ·have:=hlt e;refine .ip ⟨g3,g2 e,bU _⟩ (.ip ⟨bU _,g0,g1⟩ (.ip hle (.ip (by omega) (.ip (by rw[ax,az];omega) (.ip (by omega) (.ip (by rw[ln _ _ (by omega) (by omega)];omega) (.ret ⟨?_,by first |rfl|exact bz⟩)))))));show List.length _<=_;rw[ln _ _ (by omega) (by omega)];omega
   ·refine .ip ⟨bU _,g0,g1⟩ (.ip hle (.ip (by omega) (.ip (by rw[ax,az];omega) (.ip (by omega) (.ip (by rw[ln _ _ (by omega) (by omega)];omega) (.ret ⟨?_,by first |rfl|exact bz⟩))))));show List.length _<=_;rw[ln _ _ (by omega) (by omega)];omega
 have h45:Tt (λy=>y.1.sessions.length<=m.sessions.length+1/\y.1.objects.length=m.objects.length) j45:=.br (λ_=> .br (λ_=> .ret ⟨ci _,rfl⟩) λ_=>h44) λ_=>h44;exact .br (λ_=> .br (λ_=> .ret ⟨ci _,rfl⟩) λ_=>h45) λ_=>h45
theorem IW(l:List eA)(hl:l.length<=maxLen):Tt (λy=>y.1.objects.length<=3/\y.1.sessions.length<=16) (kj l):=by obtain⟨b,b1,b2⟩:=xx hl;unfold kj oZ;rw[ae,b1,ae,ej];refine .br (λe=> ?_) λ_=> .ret ⟨aB _,aB _⟩;have h16:=b2 e;refine .bind (.count (B:=kC) (E:=λy=>y.2.2.1.length<=3/\y.2.2.2.1.length<=16) l.length (λk (b:List Int×List en)=>((l,(),(),(k:Int),()),(((),(),()),((),(),()),()),b.1,b.2,())) (λk b=>b.1.length<=3/\b.2.length<=k) (λb hb=> .end (aZ _) (.ret ⟨hb.1,aP hb.2 h16⟩)) (λk b hk hb=> .go (aH.2 hk) (.ip (ay k) (.get (tn hk) λx _ _=> .bind (MT ⟨b.1,b.2⟩ x.op (aP hb.1 (by omega)) (aP hb.2 (by omega))) λy hy=> .ret ⟨(y.1.objects,y.1.sessions),by rw[ei hl hk],by rw[hy.2];exact hb.1,aP hy.1 (Nat.succ_le_succ hb.2)⟩))) ([0,0,0],[]) ⟨au _,au _⟩) λy hy=> .ret hy
theorem Oj(l:List eA)(i:Int)(hl:l.length<=maxLen):Tt T1 (pT l i):=by obtain⟨b,b1,b2⟩:=xx hl;unfold pT;rw[b1,ae,ej];refine .br (λe=> ?_) λ_=> .ret trivial;have h16:=b2 e;rw[fm (n:=(l.length:Int)-1) (by omega) (by omega),ia,ae,ej];refine .br (λh=> ?_) λ_=> .ret trivial;have h:=fe.1 h;refine .ip (by omega) (.bind (IW _ ?_) λy hy=> .ip h.1 (.get (by omega) λx _ _=> .bind (MT _ _ (by omega) (by omega)) λz _=> .ret trivial));refine aP ?_ hl;rw[aR,bf];omega
theorem zN(s:eu)(h:gW 1048576 s)(hf:0<=s.first/\s.first<=16/\s.log.length<=16):Tt (λy=>y.1.length<=16) (gf s):=by
 unfold gf;rw[fm (n:=s.first+(s.log.length:Int)) (by omega) (by omega)];simp only[ia,ae,ej];refine .br (λh1=> ?_) λ_=> .ret (aB _);have h1:=fe.1 h1;refine .br (λ_=> .ret (aB _)) λ_=> ?_;rw[fm (n:=s.commit-s.first) (by omega) (by omega)]
 have hlen: ((s.log.drop (0:Int).toNat).take ((s.commit-s.first).toNat-(0:Int).toNat)).length<=16:=by rw[aR,bf];omega
 refine .ip (by omega) ?_;rw[AN (by omega)];exact .ret hlen
theorem X9(m:eK)(i:Int)(ho:m.objects.length<=1000)(hs:m.sessions.length<=1000):Tt T1 (o5 m i):=by obtain⟨⟨b,_⟩,b1,b2⟩:=Lh m ho hs;unfold o5;rw[b1,ae,ej];refine .br (λe=> ?_) λ_=> .ret trivial;have h3:=b2 e;rw[ia,ae,ej];refine .br (λh=> ?_) λ_=> .ret trivial;have h:=fe.1 h;exact .ip h.1 (.get (by omega) λ_ _ _=> .ret trivial)
theorem IX{s:eu}{id:Int}(h:gW 1048576 s)(hv:fC s id=some (true,())):0<=s.first/\s.first<=16/\s.log.length<=16:=by obtain⟨h1,h2,h3,_⟩:=Fh h hv;exact⟨h1,h2,h3⟩
theorem WZ(s:eu)(i:Int)(h:gW 1048576 s)(hf:0<=s.first/\s.first<=16/\s.log.length<=16):Tt T1 (sD s i):=by unfold sD;exact .bind (zN s h hf) λy hy=> .bind (IW _ (by unfold maxLen;omega)) λz hz=> .bind (X9 _ _ (by omega) (by omega)) λ_ _=> .ret trivial
theorem W3(l:fH)(a b c:Int):Tt T1 (o4 l a b c):=by obtain⟨v,v1,_⟩:=xY l;unfold o4;rw[v1,ae,ia,ae];exact .br (λ_=> .br (λ_=> .br (λ_=> .br (λ_=> .br (λ_=> .ret trivial) λ_=> .ret trivial) λ_=> .ret trivial) λ_=> .ret trivial) λ_=> .ret trivial) λ_=> .ret trivial
theorem Sl(x:eh)(ok:gD 1048576 x)(id:Int):Tt T1 (kV x id):=by obtain⟨b,b1,_,b2⟩:=u9 x ok id;unfold kV;rw[b1,ae];refine .br (λe=> ?_) λ_=> .ret trivial;obtain⟨hv,h0,h5,_⟩:=b2 e;exact .srv ok (jR ok hv) ⟨h0,h5⟩ λs _ _ _=> .bind (W3 _ _ _ _) λ_ _=> .ret trivial
theorem MU(x:eh)(ok:gD 1048576 x)(id i:Int):Tt T1 (qE x id i):=by obtain⟨n,n1,n2⟩:=Lg x ok id;unfold qE;rw[n1,ae,ej];refine .br (λe=> ?_) λ_=> .ret trivial;obtain⟨hv,h0,h5⟩:=n2 (eq_of_beq e);have vc:=jR ok hv;rw[ia,ae,ej];refine .br (λ_=> .srv ok vc ⟨h0,h5⟩ λs _ s2 _=> ?_) λ_=> .ret trivial;obtain⟨b,b1,_⟩:=ot s id s2;rw[b1,ae,ej];refine .br (λ_=> .bind (Sl x ok id) λy _=> ?_) λ_=> .ret trivial;rw[ej];exact .br (λ_=> .srv ok vc ⟨h0,h5⟩ λs _ s2 s3=> .bind (WZ s i s2 (IX s2 s3)) λ_ _=> .ret trivial) λ_=> .ret trivial
end
section
def Kp(x y:eh):Prop:=gD 1048576 y/\y.servers.length=x.servers.length
theorem Kp.self{x:eh}(ok:gD 1048576 x):Kp x x:=⟨ok,rfl⟩
theorem Kp.trans{x y z:eh}(h:Kp x y)(k:Kp y z):Kp x z:=⟨k.1,k.2.trans h.2⟩
theorem Kp.srvs{x y:eh}(h:Kp x y){S:List eu}(hl:S.length=y.servers.length)(hs: ∀s∈S,gW 1048576 s):Kp x ⟨y.now,S,y.sides,y.master,y.masterUp,y.lease,y.places⟩:=
 ⟨⟨⟨by rw[hl];exact h.1.1.1,hs⟩,h.1.2⟩,hl.trans h.2⟩
theorem Kp.set{x y:eh}(h:Kp x y){s:eu}(hs:gW 1048576 s)(i:Nat):Kp x ⟨y.now,y.servers.set i s,y.sides,y.master,y.masterUp,y.lease,y.places⟩:=
 h.srvs bz (zM h.1.1 hs i).2
theorem Tt.at{α:Type}{Q:α->Prop}{l:List eu}(h5:l.length=5){a:Int}(ha:0<=a/\a<5){k:eu->Option α}(h: ∀s,l[a.toNat]? =some s->s∈l->Tt Q (k s)):Tt Q (iteP (0<=a/\a< (l.length:Int)) ((l[a.toNat]?).bind k) none):=
 .ip (by rw[h5];exact ha) (.get (by omega) h)
theorem W4(x:eh)(ok:gD 1048576 x)(id:Int):Tt T1 (jt x id):=by obtain⟨b,b1,_,b2⟩:=u9 x ok id;unfold jt;rw[b1,ae,ej];refine .br (λe=> ?_) λ_=> .ret trivial;obtain⟨hv,h0,h5,_⟩:=b2 e;have vc:=jR ok hv;refine .srv ok vc ⟨h0,h5⟩ λs _ s2 _=> .bind (va _ (fu s2.1)) λy hy=> .bind (.count (B:=jb) (E:=λ_=>True) y.1.length (λk (b:Int)=>(((),b,(),(k:Int),()),(fx x,()),y.1,())) (λ_ _=>True) (λ_ _=> .end (aZ _) (.ret trivial)) (λk b hk _=> .go (aH.2 hk) (.ip ⟨ay k,aH.2 hk⟩ (.get (tn hk) λz _ hz=> .srv ok vc (hy.2 z hz) λt _ _ _=> .ret ⟨_,by rw[ei (by have:=hy.1;unfold maxLen;omega) hk],trivial⟩))) 2 trivial) λ_ _=> .ret trivial
theorem UJ(x:eh)(ok:gD 1048576 x)(id:Int)(o:Op):Tt (λy=>Kp x y.1/\(y.2.1=0->y.1.servers.length=5/\0<=id/\id<5)) (fX x id o):=by
 obtain⟨v,v1,_⟩:=jo x ok;unfold fX;rw[(jQ x ok).1,ae,v1,ae,ej];have bad: ∀n:Int,n≠0->Tt (λy:eh×Int×Unit=>Kp x y.1/\(y.2.1=0->y.1.servers.length=5/\0<=id/\id<5)) (some (x,n,())):=λn hn=> .ret ⟨.self ok,λh=>absurd h hn⟩;refine .br (λe=> ?_) λ_=>bad 1 (by decide);subst e;have vc:=jR ok v1;rw[ia,ae,ej];refine .br (λh=> ?_) λ_=>bad 1 (by decide);have h:=fe.1 h;have hid:0<=id/\id<5:=by omega
 rw[vK,ae,ej];refine .br (λ_=> .srv ok vc hid λs s1 s2 s3=> ?_) λ_=>bad 1 (by decide);rw[ej];refine .br (λ_=> ?_) λ_=>bad 2 (by decide);obtain⟨b,b1,_⟩:=ot s id s2;rw[b1,ae,ej];refine .br (λ_=> .bind (VZ s.log _ _ (eW s2.2.1)) λy hy=> ?_) λ_=>bad 3 (by decide);have good: ∀n:Int,Tt (λy:eh×Int×Unit=>Kp x y.1/\(y.2.1=0->y.1.servers.length=5/\0<=id/\id<5)) (some (x,n,())):=λn=> .ret ⟨.self ok,λ_=>⟨vc.len,hid⟩⟩
 extract_lets+lift j17 j18
 have h17:Tt (λy=>Kp x y.1/\(y.2.1=0->y.1.servers.length=5/\0<=id/\id<5)) j17:=by
  unfold j17;refine .at vc.len hid λs' e' hs'=> ?_;show Tt _ ((x.servers[id.toNat]?).bind _);rw[e',ae];have hs:=ok.1.2 s' hs';have hs3:=hs.2.1;obtain rfl:s'=s:=by rw[s1] at e';exact (Option.some.inj e').symm
  have hl:=(IX s2 s3).2.2;refine .ip rfl ?_;have e1: ∀X Y:Option (eh×Int×Unit),iteP (s'.log.length<s'.log.length) X Y=Y:=λX Y=>by rw[eE,if_neg (cU _)]
  rw[e1]
  have hl2: (s'.log.take s'.log.length++([(⟨s'.epoch,o⟩:eA)]:List eA)).length<=17:=by rw[ax,aR,az];omega
  refine .ip (by omega) (.ip (by show 0<=id/\id< (x.servers.length:Int);rw[vc.len];exact hid) (.ip rfl (.ret ⟨(Kp.self ok).set (s:=⟨s'.up,s'.intact,s'.version,s'.epoch,s'.config,s'.first,s'.log.take s'.log.length++ [⟨s'.epoch,o⟩],s'.commit,s'.learned⟩) ⟨hs.1,aP hl2 (by omega),hs.2.2⟩ _,λ_=>⟨by show (x.servers.set _ _).length=5;rw[bz];exact vc.len,hid⟩⟩)))
 have h18:Tt (λy=>Kp x y.1/\(y.2.1=0->y.1.servers.length=5/\0<=id/\id<5)) j18:=by unfold j18;refine .bind (IW s.log (eW s2.2.1)) λm hm=> .bind (MT m.1 o (by omega) (by omega)) λz _=> ?_;rw[ej];refine .br (λ_=> .bind (Q:=T1) (by unfold kD;exact .ret trivial) λw _=> ?_) λ_=>good 11;exact .br (λ_=> .bind (W4 x ok id) λ_ _=> .br (λ_=>good 6) λ_=> .br (λ_=>good 5) λ_=>h17) λ_=> .br (λ_=>good 5) λ_=>h17
 refine .br (λh=> .ip (of_decide_eq_true h) (.get ?_ λe _ _=> ?_)) λ_=> .br (λ_=>good 0) λ_=>h18
 ·have h:=of_decide_eq_true h;omega
 ·rw[ej];exact .br (λ_=> .br (λ_=>good 0) λ_=>h18) λ_=>good 11
theorem Ya(x:eh)(ok:gD 1048576 x)(id m:Int):Tt (λy=>Kp x y.1/\(y.2.1=true->0<=m/\m<5)) (mG x id m):=by
 obtain⟨b,b1,_,b2⟩:=u9 x ok id;have bad:Tt (λy:eh×Bool×Unit=>Kp x y.1/\(y.2.1=true->0<=m/\m<5)) (some (x,false,())):=.ret ⟨.self ok,nofun⟩;unfold mG;rw[(jQ x ok).1,ae,b1,ae,ej];refine .br (λe=> ?_) λ_=>bad;obtain⟨hv,h0,h5,hp⟩:=b2 e;have vc:=jR ok hv;refine .srv ok vc ⟨h0,h5⟩ λs s1 s2 s3=> .bind (va _ (fu s2.1)) λy hy=> ?_;rw[(gP y.1 m (by have:=hy.1;unfold maxLen;omega)).1,ae,ej];refine .br (λhm=> ?_) λ_=>bad;have hm:=hy.2 m (of_decide_eq_true hm);refine .bind (Sg ok vc ⟨h0,h5⟩ hm) λz _=> ?_;rw[ej];refine .br (λ_=> .srv ok vc ⟨h0,h5⟩ λt t1 t2 t3=> .srv ok vc ⟨h0,h5⟩ λu _ u2 _=> ?_) λ_=>bad;obtain⟨n,n1,_⟩:=zL u.config m (fu u2.1);rw[n1,ae];have five: ∀ (i:Nat) (s:eu),(x.servers.set i s).length=5:=λi s=>by rw[bz];exact vc.len
 refine .br (λ_=> ?_) λ_=> ?_
 ·rw[Se t.log t2.2.1 (Fh t2 t3).2.2.2.2.2.1,ae];refine .ip (by show 0<=m/\m< (x.servers.length:Int);rw[vc.len];exact hm) (.at vc.len hm λw _ hw=> ?_);have hw:=ok.1.2 w hw;refine .get (by rw[five];omega) λw' _ hw'=> .ret ⟨.srvs (.self ok) (by rw[bz,bz]) λs hs=> ?_,λ_=>hm⟩;have all:=(zM ok.1 (s:=⟨w.up,w.intact,w.version,w.epoch,w.config,((qS t.log:Nat):Int),w.log,w.commit,w.learned⟩) hw m.toNat)
  have hw':=all.2 w' hw';exact (zM all (s:=⟨w'.up,w'.intact,w'.version,w'.epoch,w'.config,w'.first,t.log.drop (qS t.log),w'.commit,w'.learned⟩) ⟨hw'.1,by show List.length _<=_;rw[bf];have:=t2.2.1;omega,hw'.2.2⟩ m.toNat).2 s hs
 ·rw[AN t2.2.1,ae];exact .at vc.len hm λw _ hw=> .ret ⟨(Kp.self ok).set (s:=⟨w.up,w.intact,w.version,w.epoch,w.config,w.first,t.log,w.commit,w.learned⟩) ⟨(ok.1.2 w hw).1,t2.2.1,(ok.1.2 w hw).2.2⟩ _,λ_=>hm⟩
theorem MV{l:List eu}(h:l.length=5/\ ∀s∈l,gW 1048576 s){s:eu}(hs:gW 1048576 s)(i:Nat): (l.set i s).length=5/\ ∀t∈l.set i s,gW 1048576 t:=⟨by rw[bz];exact h.1,λt ht=>(cf ht).elim (h.2 t) λe=>e ▸ hs⟩
abbrev fz:Int×Unit×Unit×Unit×Int×Int×Int×Int×Int×Unit×Unit:=(0,(),(),(),0,0,0,0,0,(),())
abbrev fc(x:eh):Int×Unit×Unit×Unit×Int×Int×Int×Int×Int×Unit×Unit:=(x.now,(),(),(),x.master.activated,x.masterUp,x.lease.epoch,x.lease.holder,x.lease.ends,(),())
theorem Ok(x:eh)(ok:gD 1048576 x)(id:Int):Tt (λy=>Kp x y.1) (jY x id):=by
 obtain⟨b,b1,_,b2⟩:=u9 x ok id;unfold jY;rw[(jQ x ok).1,ae,b1,ae,ej];refine .br (λe=> ?_) λ_=> .ret (.self ok);obtain⟨hv,h0,h5,hp⟩:=b2 e;have vc:=jR ok hv;refine .srv ok vc ⟨h0,h5⟩ λs s1 s2 s3=> .bind (va _ (fu s2.1)) λy hy=> ?_;have hl:y.1.length<=maxLen:=by have:=hy.1;unfold maxLen;omega
 refine .bind (.count (B:=mq) (E:=λe=> ∃ (c:eh) (a:Bool),Kp x c/\e=((id,(),(),(),a,()),(fz,fc c,()),y.1,c.servers,c.sides,c.master.configs,c.places,())) y.1.length (λk (b:eh×Bool)=>((id,(),(),(),b.2,(k:Int),()),(fz,fc b.1,()),y.1,b.1.servers,b.1.sides,b.1.master.configs,b.1.places,())) (λ_ b=>Kp x b.1) (λb hb=> .end (aZ _) (.ret ⟨b.1,b.2,hb,rfl⟩)) (λk b hk hb=> .go (aH.2 hk) (.ip ⟨ay k,aH.2 hk⟩ (.get (tn hk) λz _ hz=> .bind (Ya b.1 hb.1 id z) λw hw=> .br (λ_=> .ret ⟨(w.1,w.2.1),by rw[ei hl hk],hb.trans hw.1⟩) λ_=> .ret ⟨(w.1,false),by rw[ei hl hk],hb.trans hw.1⟩))) (x,true) (.self ok)) ?_
 rintro _ ⟨c,a,hc,rfl⟩
 refine .bind (.count (B:=lE) (E:=λe=> ∃ (c:eh) (a:Bool),Kp x c/\e=(((),(),a,()),(fz,fc c,()),c.servers,c.sides,c.master.configs,c.places,())) y.1.length (λk (b:List eu)=>((id,(),(),(),a,(k:Int),()),(fz,fc c,()),y.1,b,c.sides,c.master.configs,c.places,())) (λ_ b=>b.length=5/\ ∀s∈b,gW 1048576 s) (λb hb=> .end (aZ _) (.ret ⟨⟨c.now,b,c.sides,c.master,c.masterUp,c.lease,c.places⟩,a,hc.srvs (by rw[hb.1,hc.2,vc.len]) hb.2,rfl⟩)) (λk b hk hb=> .go (aH.2 hk) (.br (λ_=> .ip ⟨ay k,aH.2 hk⟩ (.get (tn hk) λz _ hz=> .at hb.1 ⟨h0,h5⟩ λp _ _=> .at hb.1 (hy.2 z hz) λq _ hq=> .ret ⟨b.set z.toNat ⟨q.up,q.intact,q.version,q.epoch,q.config,q.first,q.log,((p.log.length:Nat):Int),q.learned⟩,by rw[ei hl hk],MV hb (s:=⟨q.up,q.intact,q.version,q.epoch,q.config,q.first,q.log,((p.log.length:Nat):Int),q.learned⟩) (hb.2 q hq) _⟩)) λ_=> .ret ⟨⟨c.now,b,c.sides,c.master,c.masterUp,c.lease,c.places⟩,a,hc.srvs (by rw[hb.1,hc.2,vc.len]) hb.2,rfl⟩)) c.servers ⟨hc.2.trans vc.len,hc.1.1.2⟩) ?_
 rintro _ ⟨d,a',hd,rfl⟩
 exact .ret hd
theorem UK(x:eh)(ok:gD 1048576 x)(id:Int)(o:Op):Tt (λy=>Kp x y.1) (sC x id o):=by
 unfold sC;refine .bind (UJ x ok id o) λy hy=> ?_;rw[ej];refine .br (λe=> ?_) λ_=> .ret hy.1;obtain⟨h5,hid⟩:=hy.2 (eq_of_beq e)
 have same: ∀ {α:Type} {Q:α->Prop} {l:List eu} {k:eu->eu->Option α},l.length=5->(∀s∈l,gW 1048576 s)->(∀s,gW 1048576 s->Tt Q (k s s))->Tt Q (iteP (0<=id/\id< (l.length:Int)) ((l[id.toNat]?).bind λa=>(l[id.toNat]?).bind λb=>k a b) none):=λh5 hs h=> .at h5 hid λs e1 e2=>by rw[e1,ae];exact h s (hs s e2)
 have PL: ∀s:eu,(s.log.drop 0).take s.log.length=s.log:=λs=>by rw[bM,bq]
 refine same h5 hy.1.1.1.2 λs hs=> .ip (by omega) ?_;rw[PL];refine .bind (VZ _ _ _ (eW hs.2.1)) λi _=> .at h5 hid λt _ _=> .br (λ_=> .bind (Ok y.1 hy.1.1 id) λz hz=> ?_) λ_=>same h5 hy.1.1.1.2 λs hs=> .ip (by omega) ?_
 ·rw[ej];refine .br (λ_=>same (hz.2.trans h5) hz.1.1.2 λs hs=> .ip (by omega) ?_) λ_=> .ret (hy.1.trans hz);rw[PL];exact .bind (Oj _ _ (eW hs.2.1)) λ_ _=> .ret (hy.1.trans hz)
 ·rw[PL];exact .bind (Oj _ _ (eW hs.2.1)) λ_ _=> .ret hy.1
end
section
theorem qe(x:eh)(ok:gD 1048576 x):Tt (λy=>y.1=true->VC x) (ew x):=by obtain⟨v,v1,_⟩:=jo x ok;exact⟨(v,()),v1,λe=>jR ok (by rw[v1,show v=true from e])⟩
theorem Ol(x:eh)(ok:gD 1048576 x)(e:Int): ∃c b,jI x.master e=some (c,b,())/\jh maxLen c/\(VC x->c.replicas.length<=5/\c.witnesses.length<=5/\(∀z∈c.replicas,0<=z/\z<5)/\(∀z∈c.witnesses,0<=z/\z<5)/\(b=true->eN c=some (true,())/\0<=c.primary/\c.primary<5)/\tg c.replicas):=by
 obtain⟨c,b,h1,_,h2⟩:=Fg x.master e ok.2.2.1;refine⟨c,b,h1,h2,λvc=> ?_⟩;obtain⟨c',b',g1,_,g2,_,g3,g4⟩:=Fi x.master e ok.2.2.1 vc.ml;rw[h1] at g1;obtain⟨rfl,rfl⟩:c=c'/\b=b':=by simpa using g1
 cases b with
 |false=>rw[g4 rfl];exact⟨aB _,aB _,nofun,nofun,nofun,λk hk=>by simp at hk⟩
 |true=>obtain⟨a1,a2,a3,_⟩:=xq g2 (g3 rfl).1;exact⟨a1.len,a2.len,qv a1,qv a2,λ_=>⟨(g3 rfl).1,qv a1 _ a3⟩,a1⟩
theorem MW(x:eh)(ok:gD 1048576 x): ∃c b,gg x.master=some (c,b,())/\jh maxLen c/\(VC x->c.replicas.length<=5/\c.witnesses.length<=5/\(∀z∈c.replicas,0<=z/\z<5)/\(∀z∈c.witnesses,0<=z/\z<5)/\(b=true->eN c=some (true,())/\0<=c.primary/\c.primary<5)/\tg c.replicas):=by obtain⟨c,b,h1,h2⟩:=Ol x ok x.master.activated;exact⟨c,b,by unfold gg;rw[h1];rfl,h2⟩
theorem Li(s:eu)(e:Int)(h:gW 1048576 s):Tt (λy=>gW 1048576 y.1) (km s e):=by unfold km;rw[(Dd s h).1,ae,ia,ae,ej];exact .br (λ_=> .br (λ_=> .ret h) λ_=> .br (λ_=> .ret h) λ_=> .ret h) λ_=> .ret h
theorem Yb(x:eh)(ok:gD 1048576 x)(id e:Int):Tt (λy=>Kp x y.1) (nC x id e):=by
 obtain⟨c,b,c1,c2,c3⟩:=MW x ok;unfold nC;rw[(jQ x ok).1,ae,c1,ae];refine .bind (qe x ok) λv hv=> ?_;rw[ej];refine .br (λh=> ?_) λ_=> .ret (.self ok);have vc:=hv h;rw[ej];refine .br (λ_=> ?_) λ_=> .ret (.self ok);rw[ia,ae,ej];refine .br (λ_=> .bind (va c c2) λm hm=> ?_) λ_=> .ret (.self ok);have hl:m.1.length<=maxLen:=by have:=hm.1;unfold maxLen;omega
 refine .bind (.count (B:=nV) (E:=λe=> ∃S:List eu,(S.length=5/\ ∀s∈S,gW 1048576 s)/\e=(((),(),()),(fz,fc x,()),S,x.sides,x.master.configs,x.places,())) m.1.length (λk (S:List eu)=>((id,e,(),(),(),(),(k:Int),()),(fx x,fz,fc x,()),m.1,S,x.sides,x.master.configs,x.places,())) (λ_ S=>S.length=5/\ ∀s∈S,gW 1048576 s) (λS hS=> .end (aZ _) (.ret ⟨S,hS,rfl⟩)) (λk S hk hS=> .go (aH.2 hk) (.ip ⟨ay k,aH.2 hk⟩ (.get (tn hk) λz hz' hz=> .srv ok vc (hm.2 z hz) λs _ _ _=> .br (λ_=> .ip ⟨ay k,aH.2 hk⟩ (.get (tn hk) λz2 _ hz2=> .bind (Lf ok vc id z2) λ_ _=> .br (λ_=> .ip ⟨ay k,aH.2 hk⟩ (.get (tn hk) λz3 _ hz3=> .ip ⟨ay k,aH.2 hk⟩ (.get (tn hk) λz4 _ hz4=> .srv ok vc (hm.2 z4 hz4) λt _ t2 _=> .bind (Li t e t2) λu hu=> .at hS.1 (hm.2 z3 hz3) λ_ _ _=> .ret ⟨S.set z3.toNat u.1,by rw[ei hl hk],MV hS hu _⟩))) λ_=> .ret ⟨S,by rw[ei hl hk],hS⟩)) λ_=> .ret ⟨S,by rw[ei hl hk],hS⟩))) x.servers ⟨vc.len,ok.1.2⟩) ?_
 rintro _ ⟨S,hS,rfl⟩
 exact .ret ((Kp.self ok).srvs (by rw[hS.1,vc.len]) hS.2)
section
variable {x:eh} (ok:gD 1048576 x) (vc:VC x) (id:Int)
include ok vc
theorem So:Tt (λy=>y.1.length<=5/\ ∀z∈y.1,0<=z/\z<5) (pa x id):=by
 obtain⟨c,d,c1,c2,c3⟩:=MW x ok;obtain⟨r5,_,inr,_⟩:=c3 vc;have rm:c.replicas.length<=maxLen:=by unfold maxLen;omega
 unfold pa;rw[c1,ae];refine .bind (.count (B:=o9) (E:=λe=>e.2.2.1.length<=5/\ ∀z∈e.2.2.1,0<=z/\z<5) c.replicas.length (λk (b:List Int)=>((id,(),(),(),d,(k:Int),()),(fx x,(c.epoch,c.primary,(),(),()),()),b,c.replicas,c.witnesses,())) (λk b=>b.length<=k/\ ∀z∈b,0<=z/\z<5) (λb hb=> .end (aZ _) (.ret ⟨aP hb.1 r5,hb.2⟩)) (λk b hk hb=> ?_) [] ⟨au _,nofun⟩) λy hy=> .ret hy;have ex:b.length<=5/\ ∀z∈b,0<=z/\z<5:=⟨by omega,hb.2⟩
 have st:b.length<=k+1/\ ∀z∈b,0<=z/\z<5:=⟨by omega,hb.2⟩
 refine .go (aH.2 hk) (.br (λ_=> .bind (qe x ok) λ_ _=> .br (λ_=> ?_) λ_=> .ret ex) λ_=> .ret ex);rw[ia,ae];refine .br (λ_=> .ip ⟨ay k,aH.2 hk⟩ (.get (tn hk) λz _ hz=> .srv ok vc (inr z hz) λs _ _ _=> .br (λ_=> .br (λ_=> .ip ⟨ay k,aH.2 hk⟩ (.get (tn hk) λz2 _ hz2=> .bind (Lf ok vc id z2) λ_ _=> .br (λ_=> .ip ⟨ay k,aH.2 hk⟩ (.get (tn hk) λz3 _ hz3=> .ip ?_ (.ret ⟨b++ [z3],by rw[ei rm hk],?_⟩))) λ_=> .ret ⟨b,by rw[ei rm hk],st⟩)) λ_=> .ret ⟨b,by rw[ei rm hk],st⟩) λ_=> .ret ⟨b,by rw[ei rm hk],st⟩)) λ_=> .ret ex
 ·show (b++ [z3]).length*8<=2 ^ 40;rw[ax,az];omega
 ·exact⟨by rw[ax,az];omega,λy hy=>(aW.1 hy).elim (hb.2 y) λh=>by rw[aD.1 h];exact inr z3 hz3⟩
theorem Yc:Tt (λy=>y.1= -1\/0<=y.1/\y.1<5) (pc x id):=by
 unfold pc;refine .bind (So ok vc id) λl hl=> ?_;have lm:l.1.length<=maxLen:=by have:=hl.1;unfold maxLen;omega
 refine .bind (.count (B:=pb) (E:=λe=>e.1.1= -1\/0<=e.1.1/\e.1.1<5) l.1.length (λk (b:Int)=>(((),b,(),(k:Int),()),(fx x,()),l.1,())) (λ_ b=>b= -1\/0<=b/\b<5) (λb hb=> .end (aZ _) (.ret hb)) (λk b hk hb=> ?_) (-1) (.inl rfl)) λy hy=> .ret hy;refine .go (aH.2 hk) (.br (λ_=> .ip ⟨ay k,aH.2 hk⟩ (.get (tn hk) λz _ hz=> .ret ⟨z,by rw[ei lm hk],.inr (hl.2 z hz)⟩)) λhn=> .ip ⟨ay k,aH.2 hk⟩ (.get (tn hk) λz _ hz=> .srv ok vc (hl.2 z hz) λs _ _ _=> .srv ok vc (a:=b) ?_ λt _ _ _=> .br (λ_=> .ip ⟨ay k,aH.2 hk⟩ (.get (tn hk) λz2 _ hz2=> .ret ⟨z2,by rw[ei lm hk],.inr (hl.2 z2 hz2)⟩)) λ_=> .ret ⟨b,by rw[ei lm hk],hb⟩));have hn: ¬b<0:=of_decide_eq_false hn;omega
omit ok vc in
theorem PE(f:Int)(l:List eA)(hl:l.length<=maxLen):Tt (λy=>y.1=true->0<=f/\l.length<=3) (uL f l):=by obtain⟨b,b1,b2⟩:=xx hl;unfold uL;rw[b1,ae];refine .br (λ_=> .br (λh=> ?_) λ_=> .ret nofun) λ_=> .ret nofun;have h: (l.length:Int)<=3:=of_decide_eq_true h;rw[ia,ae];refine .br (λw=> ?_) λ_=> .ret nofun;have w:=fe.1 w;exact .br (λ_=> .ret λ_=>⟨w.1,by omega⟩) λ_=> .ret λ_=>⟨w.1,by omega⟩
omit ok vc in
theorem Yd(a:List eA)(f:Int)(t:List eA)(ha:a.length<=1048576)(ht:t.length<=1048576):Tt (λy=>y.1.length<=19) (sK a f t):=by
 obtain⟨b,b1,b2⟩:=xx (eW ha);unfold sK;rw[b1,ae,ej];refine .br (λe=> ?_) λ_=> .ret (aB _);have h16:=b2 e;refine .bind (PE f t (eW ht)) λg hg=> ?_;rw[ej];refine .br (λe=> ?_) λ_=> .ret (aB _);obtain⟨f0,t3⟩:=hg e;refine .br (λ_=> .ret (aB _)) λhn=> ?_;have hn: ¬f>(a.length:Int):=of_decide_eq_false hn;obtain⟨n,n1,n2,n3,_⟩:=IT ((a.drop f.toNat).take ((a.length:Int).toNat-f.toNat)) t (aP (by rw[aR,bf];omega) (eW ha));refine .ip (by omega) ?_;rw[n1,ae,fm (n:=(a.length:Int)-f) (by omega) (by omega)];refine .br (λ_=> .ret (aB _)) λ_=> ?_;rw[AN ha,ae]
 have hl: (a++((t.drop (n:Int).toNat).take ((t.length:Int).toNat-(n:Int).toNat))).length<=19:=by rw[ax,aR,bf];omega
 refine .ip (by omega) (.ip (aP (bg 56 hl) (by omega)) ?_);obtain⟨d,d1,_⟩:=xx (l:=a++((t.drop (n:Int).toNat).take ((t.length:Int).toNat-(n:Int).toNat))) (by unfold maxLen;omega);rw[show hU _=_ from d1,ae,ej];exact .br (λ_=> .ret hl) λ_=> .ret (aB _)
omit ok vc in
theorem Ye(s:eu)(id:Int)(h:gW 1048576 s)(hf:0<=s.first/\s.first<=16/\s.log.length<=16):Tt (λy=>y.1.length<=1048576) (uK s id):=by obtain⟨n,n1,_⟩:=zL s.config id (fu h.1);unfold uK;rw[n1,ae,AN h.2.2,ae];have gC:Tt (λy:List eA×Unit=>y.1.length<=1048576) ((gf s).bind λy3=>br (decide ((y3.1.length:Int)>(s.learned.length:Int))) (some (y3.1,())) (some (s.learned,()))):=.bind (zN s h hf) λy hy=> .br (λ_=> .ret (by show y.1.length<=_;omega)) λ_=> .ret h.2.2;exact .br (λ_=>gC) λ_=> .br (λ_=>gC) λ_=> .ret h.2.2
theorem W5{c:ey}{w:eu}(hw:gW 1048576 w)(j:Int)(d:Bool)(b:List eA×Bool)(hb:b.1.length<=19):Tt (λe=> ∃r:List eA×Bool,r.1.length<=19/\e=((id,(),(),r.2,(),d,j,()),(fx x,(c.epoch,c.primary,(),(),()),()),r.1,c.replicas,c.witnesses,())) (v6 ((id,(),(),b.2,(),d,j,(),0,()),(fx x,(c.epoch,c.primary,(),(),()),YV w,()),b.1,c.replicas,c.witnesses,())):=by
 refine .count (B:=nW) (E:=λe=> ∃r:List eA×Bool,r.1.length<=19/\e=((id,(),(),r.2,(),d,j,()),(fx x,(c.epoch,c.primary,(),(),()),()),r.1,c.replicas,c.witnesses,())) 5 (λk (b:List eA×Bool)=>((id,(),(),b.2,(),d,j,(),(k:Int),()),(fx x,(c.epoch,c.primary,(),(),()),YV w,()),b.1,c.replicas,c.witnesses,())) (λ_ b=>b.1.length<=19) (λb hb=> .end (aZ _) (.ret ⟨b,hb,rfl⟩)) (λk b hk hb=> ?_) b hb;have hkk:0<=(k:Int)/\(k:Int)<5:=⟨ay k,aH.2 hk⟩
 have sw:=ei (n:=5) (by decide) hk;refine .go hkk.2 (.srv ok vc hkk λs _ _ _=> ?_);dsimp only;rw[sw,ej];refine .br (λ_=> .bind (Lf ok vc id k) λy _=> ?_) λ_=> .ret ⟨b,rfl,hb⟩;rw[ej];refine .br (λ_=> .srv ok vc hkk λt _ t2 t3=> .bind (Ye t k t2 (IX t2 t3)) λy hy=> .bind (Yd y.1 w.first w.log hy hw.2.1) λz hz=> .br (λ_=> ?_) λ_=> .ret ⟨b,rfl,hb⟩) λ_=> .ret ⟨b,rfl,hb⟩;rw[ej];exact .br (λ_=> .br (λ_=> .ret ⟨(z.1,true),rfl,hz⟩) λ_=> .ret ⟨b,rfl,hb⟩) λ_=> .ret ⟨(z.1,true),rfl,hz⟩
theorem Sq:Tt (λy=>y.1.length<=19) (pe x id):=by
 obtain⟨c,d,c1,c2,c3⟩:=MW x ok;obtain⟨_,r5,_,inw,_⟩:=c3 vc;have rm:c.witnesses.length<=maxLen:=by unfold maxLen;omega
 unfold pe;rw[c1,ae];refine .bind (.count (B:=pd) (E:=λe=>e.2.2.1.length<=19) c.witnesses.length (λk (b:List eA×Bool)=>((id,(),(),b.2,(),d,(k:Int),()),(fx x,(c.epoch,c.primary,(),(),()),()),b.1,c.replicas,c.witnesses,())) (λ_ b=>b.1.length<=19) (λb hb=> .end (aZ _) (.ret hb)) (λk b hk hb=> ?_) ([],false) (aB _)) λy hy=> .ret hy;refine .go (aH.2 hk) (.br (λ_=> .bind (qe x ok) λ_ _=> .br (λ_=> ?_) λ_=> .ret hb) λ_=> .ret hb);rw[ia,ae];refine .br (λ_=> .ip ⟨ay k,aH.2 hk⟩ (.get (tn hk) λz _ hz=> .srv ok vc (inw z hz) λs _ s2 _=> ?_)) λ_=> .ret hb;have sw:=ei rm hk;rw[ej];refine .br (λ_=> ?_) λ_=> .ret ⟨b,by rw[sw],hb⟩;rw[ej];refine .br (λ_=> .ip ⟨ay k,aH.2 hk⟩ (.get (tn hk) λz2 _ _=> .bind (Lf ok vc id z2) λy _=> ?_)) λ_=> .ret ⟨b,by rw[sw],hb⟩;rw[ej];refine .br (λ_=> .bind (W5 ok vc id (c:=c) s2 k d b hb) ?_) λ_=> .ret ⟨b,by rw[sw],hb⟩
 rintro _ ⟨r,hr,rfl⟩
 exact .ret ⟨r,by rw[<-sw],hr⟩
theorem UL:Tt (λy=>y.1.length<=1048576) (qG x id):=by unfold qG;refine .bind (qe x ok) λv _=> ?_;rw[ej];refine .br (λ_=> ?_) λ_=> .ret (aB _);rw[ia,ae,ej];refine .br (λ_=> .br (λ_=> .ret (aB _)) λ_=> .bind (Yc ok vc id) λn hn=> .br (λh=> ?_) λ_=> .bind (Sq ok vc id) λy hy=> .ret (by show y.1.length<=_;omega)) λ_=> .ret (aB _);have h:n.1≥0:=of_decide_eq_true h;refine .srv ok vc (by omega) λs _ s2 _=> ?_;rw[AN s2.2.1];exact .ret s2.2.1
end
theorem De(l:List eA)(hl:l.length<=maxLen):Tt T1 (jK l):=by unfold jK;refine .bind (.count (B:=nf) (E:=λ_=>True) l.length (λk (_:Unit)=>((l,(k:Int),()),(),())) (λ_ _=>True) (λ_ _=> .end (aZ _) (.ret trivial)) (λk _ hk _=> .go (aH.2 hk) (.ip (ay k) (.get (tn hk) λe _ _=> .bind (Q:=T1) (by unfold kD;exact .ret trivial) λ_ _=> .br (λ_=> .ret trivial) λ_=> .ret ⟨(),by rw[ei hl hk],trivial⟩))) () trivial) λy _=> ?_;cases y<;>exact .ret trivial
theorem Lj(s:eu)(c:ey)(id:Int)(l:List eA)(hs:gW 1048576 s)(hc:jh 1048576 c)(hl:l.length<=1048576):Tt (λy=>gW 1048576 y.1) (j3 s c id l):=by
 obtain⟨n,n1,_⟩:=zL c id (fu hc);obtain⟨b,b1,_⟩:=xx (eW hl);obtain⟨e,e1,_⟩:=xZ l (eW hl);unfold j3;simp only[n1,b1,e1,(Dd s hs).1,(x0 c hc).1,AN hl,ia,ae,ej,R8 l hl];have hk:qS l<=l.length:=Nat.sub_le _ _
 have hl2: ((l.drop (qS l)).take ((l.length:Int).toNat-qS l)).length<=1048576:=by rw[aR,bf];omega
 refine .br (λ_=> .ret hs) λ_=> .br (λ_=> .br (λ_=> .br (λ_=> .br (λ_=> .ret hs) λ_=> .br (λ_=> .bind (De l (eW hl)) λ_ _=> .br (λ_=> .ret hs) λ_=> ?_) λ_=> ?_) λ_=> .ret hs) λ_=> .ret hs) λ_=> .ret hs
 all_goals
  exact .br (λ_=> .ip (by omega) (.bind (Q:=λy=>y.1.length<=1048576) ⟨_,AN hl2,hl2⟩ λy hy=> .ret ⟨hc,hy,aB _⟩)) λ_=> .ret ⟨hc,hl,aB _⟩
theorem Fm(m:eC)(h:tf 1048576 m)(e:Int):Tt (λy=>tf 1048576 y.1/\y.1.configs.length=m.configs.length) (jz m e):=by obtain⟨b,b1,_⟩:=masterLog m (np h);unfold jz;rw[(IK m h).1,ae,b1,ae,ej];refine .br (λ_=> ?_) λ_=> .ret ⟨h,rfl⟩;rw[ej];exact .br (λ_=> .br (λ_=> .ret ⟨h,rfl⟩) λ_=> .ret ⟨h,rfl⟩) λ_=> .ret ⟨h,rfl⟩
theorem BQ(x:eh)(ok:gD 1048576 x):Tt (λy=>Kp x y.1) (of x):=by
 obtain⟨c,b,c1,c2,c3⟩:=Ol x ok (x.master.configs.length:Int);unfold of rB;rw[(jQ x ok).1,ae,c1,ae,ae];refine .bind (qe x ok) λv hv=> ?_;rw[ej];refine .br (λh=> ?_) λ_=> .ret (.self ok);have vc:=hv h;rw[ej];refine .br (λhb=> .br (λ_=> .ret (.self ok)) λ_=> .br (λ_=> .ret (.self ok)) λ_=> ?_) λ_=> .ret (.self ok);obtain⟨r5,w5,_,_,hp,_⟩:=c3 vc;have hp:=(hp hb).2;have hc:jh 1048576 c:=⟨by omega,by omega⟩
 have s5:=s8 (eW ok.2.1) vc.sides;refine .srv ok vc hp λs _ _ _=> ?_;rw[ej];refine .br (λ_=> .ip hp.1 (.get (by show c.primary.toNat<x.sides.length;omega) λsd _ _=> ?_)) λ_=> .ret (.self ok);rw[ej];refine .br (λ_=> ?_) λ_=> .ret (.self ok);obtain⟨o,o1,_⟩:=CA x.lease x.now;rw[o1,ae,ej];refine .br (λ_=> .bind (Yb x ok c.primary c.epoch) λy hy=> .bind (UL ok vc c.primary) λl hl=> ?_) λ_=> .ret (.self ok);rw[ej];refine .br (λ_=> .bind (va c c2) λm hm=> ?_) λ_=> .ret hy;have ml:m.1.length<=maxLen:=by have:=hm.1;unfold maxLen;omega
 have hyS:y.1.servers.length=5/\ ∀s∈y.1.servers,gW 1048576 s:=⟨hy.2.trans vc.len,hy.1.1.2⟩
 refine .bind (.count (B:=qk) (E:=Sum.elim (λe=> ∃n:Int,e=(((),(),n,(),(),(),(),()),(fx x,fc y.1,(fc y.1,(c.epoch,c.primary,(),(),()),())),l.1,m.1,y.1.servers,y.1.sides,y.1.master.configs,y.1.places,c.replicas,c.witnesses,())) λe=>e.2=((fx x,fz,fc y.1,(c.epoch,c.primary,(),(),()),()),l.1,m.1,y.1.servers,y.1.sides,y.1.master.configs,y.1.places,c.replicas,c.witnesses,())) m.1.length (λk (_:Unit)=>(((),(),(),(),(),(),(k:Int),()),(fx x,fz,fc y.1,(c.epoch,c.primary,(),(),()),()),l.1,m.1,y.1.servers,y.1.sides,y.1.master.configs,y.1.places,c.replicas,c.witnesses,())) (λ_ _=>True) (λ_ _=> .end (aZ _) (.ret rfl)) (λk _ hk _=> ?_) () trivial) λe he=> ?_
 ·refine .go (aH.2 hk) (.ip ⟨ay k,aH.2 hk⟩ (.get (tn hk) λz _ hz=> .srv ok vc (hm.2 z hz) λs _ _ _=> ?_));rw[ej];refine .br (λ_=> .ip ⟨ay k,aH.2 hk⟩ (.get (tn hk) λz2 _ hz2=> .ip (hm.2 z2 hz2).1 (.get (by have:=hm.2 z2 hz2;show z2.toNat<x.sides.length;omega) λw _ _=> ?_))) λ_=> .ret ⟨_,rfl⟩;rw[ej];exact .br (λ_=> .ret ⟨(),by rw[ei ml hk],trivial⟩) λ_=> .ret ⟨_,rfl⟩
 cases e with
 |inl e=>obtain⟨n,rfl⟩:=he;exact .ret hy
 |inr e=>
  show Tt _ ((yH (((),(),(),(),(),(),0,()),e.2)).bind _);rw[show e.2=_ from he];refine .bind (.count (B:=qm) (E:=Sum.elim (λe=> ∃n:Int,e=(((),(),n,(),(),(),(),()),(fx x,fc y.1,(fc y.1,(c.epoch,c.primary,(),(),()),())),l.1,m.1,y.1.servers,y.1.sides,y.1.master.configs,y.1.places,c.replicas,c.witnesses,())) λe=>e.2=((fx x,fz,fc y.1,(c.epoch,c.primary,(),(),()),()),l.1,m.1,y.1.servers,y.1.sides,y.1.master.configs,y.1.places,c.replicas,c.witnesses,())) m.1.length (λk (_:Unit)=>(((),(),(),(),(),(),(k:Int),()),(fx x,fz,fc y.1,(c.epoch,c.primary,(),(),()),()),l.1,m.1,y.1.servers,y.1.sides,y.1.master.configs,y.1.places,c.replicas,c.witnesses,())) (λ_ _=>True) (λ_ _=> .end (aZ _) (.ret rfl)) (λk _ hk _=> .go (aH.2 hk) (.ip ⟨ay k,aH.2 hk⟩ (.get (tn hk) λz _ hz=> .srv ok vc (hm.2 z hz) λs _ _ _=> .br (λ_=> .bind (De l.1 (eW hl)) λ_ _=> .br (λ_=> .ret ⟨_,rfl⟩) λ_=> .ret ⟨(),by rw[ei ml hk],trivial⟩) λ_=> .ret ⟨(),by rw[ei ml hk],trivial⟩))) () trivial) λe he=> ?_;cases e with
  |inl e=>obtain⟨n,rfl⟩:=he;exact .ret hy
  |inr e=>
   show Tt _ ((yJ (((),(),(),(),(),(),0,()),e.2)).bind _);rw[show e.2=_ from he];refine .bind (.count (B:=qn) (E:=λe=> ∃S:List eu,(S.length=5/\ ∀s∈S,gW 1048576 s)/\e=(((),(),(),(),()),(fx x,fz,fc y.1,(c.epoch,c.primary,(),(),()),()),S,y.1.sides,y.1.master.configs,y.1.places,c.replicas,c.witnesses,())) m.1.length (λk (S:List eu)=>(((),(),(),(),(),(),(k:Int),()),(fx x,fz,fc y.1,(c.epoch,c.primary,(),(),()),()),l.1,m.1,S,y.1.sides,y.1.master.configs,y.1.places,c.replicas,c.witnesses,())) (λ_ S=>S.length=5/\ ∀s∈S,gW 1048576 s) (λS hS=> .end (aZ _) (.ret ⟨S,hS,rfl⟩)) (λk S hk hS=> ?_) y.1.servers hyS) ?_
   ·refine .go (aH.2 hk) (.ip ⟨ay k,aH.2 hk⟩ (.get (tn hk) λz _ hz=> .ip ⟨ay k,aH.2 hk⟩ (.get (tn hk) λz2 _ hz2=> .at hS.1 (hm.2 z2 hz2) λs e' hs=> .ip ⟨ay k,aH.2 hk⟩ (.get (tn hk) λz3 _ _=> ?_))));dsimp only;simp only[e',ae,bM,bq,aK];refine .ip (au _) (.ip (au _) (.ip (au _) (.ip (au _) (.bind (Lj s c z3 l.1 (hS.2 s hs) hc hl) λu hu=> .at hS.1 (hm.2 z hz) λ_ _ _=> .ret ⟨S.set z.toNat u.1,by rw[ei ml hk],MV hS hu _⟩))))
   ·rintro _ ⟨S,hS,rfl⟩
    refine .bind (Fm x.master ok.2.2.1 c.epoch) λw hw=> .ret ?_;exact⟨⟨⟨by show S.length<=_;rw[hS.1];decide,hS.2⟩,hy.1.2.1,hw.1,hy.1.2.2.2⟩,by show S.length=_;rw[hS.1,vc.len]⟩
end
end Go.Proofs.YtkghndikalnipaaGreat.En
