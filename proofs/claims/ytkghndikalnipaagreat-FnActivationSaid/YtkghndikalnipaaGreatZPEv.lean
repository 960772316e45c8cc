/- Plain laws. -/
import Derived.Test.YtkghndikalnipaaGreatZBX
set_option linter.unusedSimpArgs false
set_option linter.unusedVariables false
namespace Go.Proofs.YtkghndikalnipaaGreat.En
open Go
section
def Gh[dL](c:qO):Prop:=∃l,ly c.b=some l/\l.length<=maxLen/\(∀m∈l,0<=m/\m<=255)/\0<=c.i/\c.i<=c.b.n
def Dn[dL]{α:Type}(Q:α->Prop)(r:Option (List qO×α)):Prop:=∃c a,r=some ([c],a)/\Gh c/\Q a
section
variable [dL] {α β:Type} {Q:α->Prop} {Q':β->Prop}
theorem Dn.ret{c:qO}{a:α}(hc:Gh c)(h:Q a):Dn Q (some ([c],a)):=⟨c,a,rfl,hc,h⟩
theorem Dn.bind{r:Option (List qO×α)}{k:List qO×α->Option (List qO×β)}(h:Dn Q r)(hk: ∀c a,Gh c->Q a->Dn Q' (k ([c],a))):Dn Q' (r.bind k):=by obtain⟨c,a,rfl,h1,h2⟩:=h;exact hk c a h1 h2
theorem Dn.mono{Q2:α->Prop}{r:Option (List qO×α)}(h:Dn Q r)(hq: ∀a,Q a->Q2 a):Dn Q2 r:=by obtain⟨c,a,h1,h2,h3⟩:=h;exact⟨c,a,h1,h2,hq a h3⟩
theorem Dn.iteP{p:Prop}[Decidable p]{x y:Option (List qO×α)}(hp:p)(h:Dn Q x):Dn Q (iteP p x y):=by rw[jo hp];exact h
theorem Dn.br{b:Bool}{x y:Option (List qO×α)}(h1:b=true->Dn Q x)(h2:b=false->Dn Q y):Dn Q (br b x y):=by
 cases b with
 |true=>exact h1 rfl
 |false=>exact h2 rfl
theorem Dn.get{γ:Type}{l:List γ}{i:Nat}{k:γ->Option (List qO×α)}(hi:i<l.length)(h: ∀x∈l,Dn Q (k x)):Dn Q ((l[i]?).bind k):=by rw[an hi];exact h _ (dq hi)
end
theorem Xb(x:Int):0<=bits .and .i64 x 255/\bits .and .i64 x 255<=255:=by
 have h: (BitVec.ofInt 64 x&&& BitVec.ofInt 64 255).toNat<=255:=by rw[BitVec.toNat_and];exact Nat.and_le_right
 show 0<=IntKind.wrap .i64 _/\IntKind.wrap .i64 _<=255;have e:IntKind.wrap .i64 ((BitVec.ofInt 64 x&&& BitVec.ofInt 64 255).toNat:Int)=((BitVec.ofInt 64 x&&& BitVec.ofInt 64 255).toNat:Int):=of (by omega) (by omega);have e2:bits .and .i64 x 255=IntKind.wrap .i64 ((BitVec.ofInt 64 x&&& BitVec.ofInt 64 255).toNat:Int):=rfl;rw[<-e2] at e;constructor
 ·show 0<=bits .and .i64 x 255;omega
 ·show bits .and .i64 x 255<=255;omega
theorem Zo{x n:Int}(hx:0<=x)(hn:0<n):0<=x.tmod n/\x.tmod n<n:=⟨Int.tmod_nonneg _ hx,Int.tmod_lt_of_pos _ hn⟩
section
variable [dL]
theorem abd{x:Hd}{l:List Int}(h:ly x=some l)(hl:l.length<=maxLen)(hb: ∀m∈l,0<=m/\m<=255):Dn (λ_:Unit=>True) (Uc x):=by unfold Uc D5;rw[h];exact⟨_,(),rfl,⟨l,h,hl,hb,c9 _,EG _⟩,trivial⟩
theorem RM{c:qO}(h:Gh c):Dn (λy:Int×Unit=>0<=y.1/\y.1<=255) (O0 [c]):=by
 obtain⟨l,h1,h2,h3,h4,h5⟩:=h;show Dn _ ((DF c).map λy=>([y.1],y.2,()));unfold DF;have hlen:=(B4 h1).1;by_cases hi:c.i< (c.b.n:Int)
 ·rw[if_pos hi,if_pos h4,h1,ak,an (by omega)];refine⟨_,_,rfl,⟨l,h1,h2,h3,?_,?_⟩,Xb _⟩
  ·show 0<=RowKit.wrap64 (c.i+1);unfold RowKit.wrap64;simp only[maxLen] at h2;omega
  ·show RowKit.wrap64 (c.i+1)<=c.b.n;unfold RowKit.wrap64;simp only[maxLen] at h2;omega
 ·rw[if_neg hi];exact⟨_,_,rfl,⟨l,h1,h2,h3,h4,h5⟩,Xb _⟩
theorem G6{c:qO}(h:Gh c)(n:Int):Dn (λy:Int×Unit=>0<=y.1/\(y.1<n\/n<=0/\y.1=0)) (Fh [c] n):=by
 unfold Fh;refine .br (λhn=> .ret h ⟨c9 _,.inr ⟨of_decide_eq_true hn,rfl⟩⟩) λhn=> ?_;have hn:=of_decide_eq_false hn;refine .br (λ_=> .bind (RM h) λc1 y h1 hy=> .iteP rfl ?_) λ_=> .bind (RM h) λc1 y h1 hy=> .iteP rfl (.bind (RM h1) λc2 y2 h2 hy2=> .iteP rfl (.bind (RM h2) λc3 y3 h3 hy3=> .iteP rfl (.bind (RM h3) λc4 y4 h4 hy4=> .iteP rfl ?_)))
 ·rw[Da (by omega)];have:=Zo hy.1 (show 0<n by omega);exact .ret h1 ⟨this.1,.inl this.2⟩
 ·rw[Da (by omega)];simp only;rw[of (n:=y.1*16777216) (by omega) (by omega),of (n:=y2.1*65536) (by omega) (by omega),of (n:=y3.1*256) (by omega) (by omega),of (n:=y.1*16777216+y2.1*65536) (by omega) (by omega),of (n:=y.1*16777216+y2.1*65536+y3.1*256) (by omega) (by omega),of (n:=y.1*16777216+y2.1*65536+y3.1*256+y4.1) (by omega) (by omega)];have:=Zo (show 0<=y.1*16777216+y2.1*65536+y3.1*256+y4.1 by omega) (show 0<n by omega);exact .ret h4 ⟨this.1,.inl this.2⟩
theorem K8{c:qO}(h:Gh c){n:Int}(hn:0<n):Dn (λy:Int×Unit=>0<=y.1/\y.1<n) (Fh [c] n):=(G6 h n).mono λy hy=>⟨hy.1,by omega⟩
theorem IR{c:qO}(h:Gh c)(n:Int):Dn (λ_:Bool×Unit=>True) (Gz [c] n):=by unfold Gz;exact .bind (G6 h n) λc1 y h1 hy=> .iteP rfl (.ret h1 trivial)
theorem HZ{c:qO}(h:Gh c){l:List Int}(hl:l≠ []):Dn (λy:Int×Unit=>y.1∈l) (Fu [c] l):=by unfold Fu;have h0:0<l.length:=List.length_pos_iff.2 hl;refine .bind (K8 h (show 0< (l.length:Int) by omega)) λc1 y h1 hy=> .iteP rfl (.iteP hy.1 (.get (by show y.1.toNat<l.length;have:=hy.1;have:=hy.2;omega) λx hx=> .ret h1 hx))
theorem XM{c:qO}(h:Gh c):Dn (λ_:Op×Unit=>True) (OG [c]):=by
 unfold OG
 repeat first |exact .ret (by assumption) trivial|refine .iteP rfl ?_|refine .br (λ_=> ?_) λ_=> ?_|refine .bind (G6 (by assumption) _) λ_ _ _ _=> ?_|refine .bind (IR (by assumption) _) λ_ _ _ _=> ?_|refine .bind (HZ (by assumption) (by simp)) λ_ _ _ _=> ?_
theorem aaF{c:qO}(h:Gh c):Dn (λ_:vz×Unit=>True) (Qd [c]):=by
 unfold Qd;dsimp only
 repeat first |exact .ret (by assumption) trivial|refine .iteP rfl ?_|refine .br (λ_=> ?_) λ_=> ?_|refine .bind (G6 (by assumption) _) λ_ _ _ _=> ?_|refine .bind (IR (by assumption) _) λ_ _ _ _=> ?_|refine .bind (HZ (by assumption) (by simp)) λ_ _ _ _=> ?_
theorem aak{c:qO}(h:Gh c):Dn (λ_:xx×Unit=>True) (NZ [c]):=by
 unfold NZ;dsimp only
 repeat first |exact .ret (by assumption) trivial|refine .iteP rfl ?_|refine .br (λ_=> ?_) λ_=> ?_|refine .bind (G6 (by assumption) _) λ_ _ _ _=> ?_|refine .bind (IR (by assumption) _) λ_ _ _ _=> ?_|refine .bind (HZ (by assumption) (by simp)) λ_ _ _ _=> ?_|refine .bind (XM (by assumption)) λ_ _ _ _=> ?_
def Ro{σ ε:Type}(I:σ->Prop)(E:ε->Prop)(r:Option (σ⊕ε)):Prop:=(∃s,r=some (.inl s)/\I s)\/ ∃e,r=some (.inr e)/\E e
section
variable {σ ε α:Type} {I:σ->Prop} {E:ε->Prop} {Q:α->Prop}
omit [dL] in
theorem Ro.again{s:σ}(h:I s):Ro I E (some (.inl s)):=.inl ⟨s,rfl,h⟩
omit [dL] in
theorem Ro.done{e:ε}(h:E e):Ro I E (some (.inr e)):=.inr ⟨e,rfl,h⟩
omit [dL] in
theorem Ro.iteP{p:Prop}[Decidable p]{x y:Option (σ⊕ε)}(hp:p)(h:Ro I E x):Ro I E (iteP p x y):=by rw[jo hp];exact h
omit [dL] in
theorem Ro.br{b:Bool}{x y:Option (σ⊕ε)}(h1:b=true->Ro I E x)(h2:b=false->Ro I E y):Ro I E (br b x y):=by
 cases b with
 |true=>exact h1 rfl
 |false=>exact h2 rfl
theorem Ro.draw{r:Option (List qO×α)}{k:List qO×α->Option (σ⊕ε)}(h:Dn Q r)(hk: ∀c a,Gh c->Q a->Ro I E (k ([c],a))):Ro I E (r.bind k):=by obtain⟨c,a,rfl,h1,h2⟩:=h;exact hk c a h1 h2
omit [dL] in
theorem WQ{B:σ->Option (σ⊕ε)}(μ:σ->Nat)(h: ∀s,I s->Ro (λs'=>I s'/\μ s'<μ s) E (B s)){s:σ}(hs:I s): ∃e,md B s=some e/\E e:=
 AF I μ E (λs hs=>(h s hs).imp (λ⟨s',a,b,c⟩=>⟨s',a,b,c⟩) id) hs
end
theorem Xd{c:qO}(h:Gh c){n:Int}(h0:0<=n){evs:List xx}{M:Nat}(hM:evs.length+n.toNat<=M)(hM2:M<=1000):Dn (λy:List xx×Unit=>y.1.length<=M) ((MP (((),(),n,()),(()),[c],evs,())).bind λe=>some e.2.2):=by
 unfold MP
 obtain⟨⟨_,_,l,ps,_⟩,h1,c2,rfl,h2,h3⟩:=WQ (B:=KH) (I:=λs=> ∃c,s.2.2.1= [c] /\Gh c/\0<=s.1.2.2.1/\s.2.2.2.1.length+s.1.2.2.1.toNat<=M) (E:=λe=> ∃c,e.2.2.1= [c] /\Gh c/\e.2.2.2.1.length<=M) (λs=>s.1.2.2.1.toNat) (by
  rintro⟨⟨_,_,k,_⟩,_,l,ps,_⟩ ⟨c,rfl,hc,h0,h1⟩
  simp only at h0 h1;unfold KH;refine .br (λhk=> ?_) λhk=> .done ⟨c,rfl,hc,by show ps.length<=M;omega⟩;have hk:k>0:=of_decide_eq_true hk;have e:IntKind.wrap .i64 (k-1)=k-1:=of (by omega) (by omega)
  have fm: ∀ (c:qO) (x:xx),Gh c->Ro (λs': (Unit×Unit×Int×Unit)×Unit×List qO×List xx×Unit=>(∃c,s'.2.2.1= [c] /\Gh c/\0<=s'.1.2.2.1/\s'.2.2.2.1.length+s'.1.2.2.1.toNat<=M)/\s'.1.2.2.1.toNat<k.toNat) (λe: (Unit×Unit)×Unit×List qO×List xx×Unit=> ∃c,e.2.2.1= [c] /\Gh c/\e.2.2.2.1.length<=M) (iteP ((ps++ [x]).length*80<=2 ^ 40) (some (.inl (((),(),IntKind.wrap .i64 (k-1),()),(()),[c],ps++ [x],()))) none):=λc x hc=>by refine .iteP (by simp only[be,cn];omega) (.again ?_);simp only[e];exact⟨⟨c,rfl,hc,by omega,by simp only[be,cn];omega⟩,by omega⟩
  refine .draw (aak hc) λc1 _ h1 _=> .iteP rfl (.br (λ_=> .draw (IR h1 _) λc2 _ h2 _=> .iteP rfl (.br (λ_=> .draw (HZ h2 (by simp)) λc3 _ h3 _=> .iteP rfl (fm _ _ h3)) λ_=>fm _ _ h2)) λ_=>fm _ _ h1)) (s:=(((),(),n,()),(()),[c],evs,())) ⟨c,rfl,h,h0,hM⟩
 rw[h1];exact⟨c2,_,rfl,h2,h3⟩
theorem Zx{c:qO}(h:Gh c){n:Int}(h0:0<=n)(hn:n<=100):Dn (λy:List xx×Unit=>y.1.length<=200) (M1 [c] n):=by
 unfold M1;rw[of (n:=n+1) (by omega) (by omega)];refine .bind (G6 h _) λc1 _ h1 _=> .iteP rfl (.bind (G6 h1 _) λc2 _ h2 _=> .iteP rfl (.bind (IR h2 _) λc3 _ h3 _=> .iteP rfl (.br (λ_=> ?_) λ_=> ?_)))
 ·exact .bind (K8 h3 (by omega)) λc4 y h4 hy=> .iteP rfl (Xd h4 hy.1 (by have:=hy.2;simp only[bD,bX];omega) (by omega))
 ·exact .bind (K8 h3 (by omega)) λc4 y h4 hy=> .iteP rfl (Xd h4 hy.1 (by have:=hy.2;simp only[bD,bX];omega) (by omega))
theorem abn{c:qO}(h:Gh c):Dn (λy:List Int×Unit=>y.1.length=5) (NW [c]):=by
 unfold NW Sb
 obtain⟨⟨_,_,l,ps,_⟩,h1,c2,rfl,h2,h3⟩:=WQ (B:=Lr) (I:=λs=> ∃c,s.2.2.1= [c] /\Gh c/\0<=s.1.2.2.1/\s.1.2.2.1<=5/\(s.2.2.2.1.length:Int)=s.1.2.2.1) (E:=λe=> ∃c,e.2.2.1= [c] /\Gh c/\e.2.2.2.1.length=5) (λs=>(5-s.1.2.2.1).toNat) (by
  rintro⟨⟨_,_,k,_⟩,_,l,ps,_⟩ ⟨c,rfl,hc,h0,h1,h2⟩
  simp only at h0 h1 h2;unfold Lr;refine .br (λhk=> ?_) λhk=> .done ⟨c,rfl,hc,by have : ¬k<5:=of_decide_eq_false hk;show ps.length=5;omega⟩;have hk:k<5:=of_decide_eq_true hk;refine .draw (HZ hc (by simp)) λc1 _ h1 _=> .iteP rfl (.iteP (by simp only[be,cn];omega) (.again ?_));simp only;rw[of (n:=k+1) (by omega) (by omega)];exact⟨⟨c1,rfl,h1,by omega,by omega,by simp only[be,cn];omega⟩,by omega⟩) (s:=(((),(),0,()),(()),[c],([]:List Int),())) ⟨c,rfl,h,c9 _,by simp,by simp⟩
 rw[h1];exact⟨c2,_,rfl,h2,h3⟩
theorem aaG{c:qO}(h:Gh c):Dn (λy:List sf×Unit=>y.1.length<=6) (QZ [c]):=by
 unfold QZ;refine .bind (K8 h (by decide)) λc0 y0 hc0 hy0=> .iteP rfl ?_;unfold Wd
 obtain⟨⟨_,_,l,ps,_⟩,h1,c2,rfl,h2,h3⟩:=WQ (B:=OU) (I:=λs=> ∃c,s.2.2.1= [c] /\Gh c/\0<=s.1.2.2.2.1/\s.2.2.2.1.length+s.1.2.2.2.1.toNat<=6) (E:=λe=> ∃c,e.2.2.1= [c] /\Gh c/\e.2.2.2.1.length<=6) (λs=>s.1.2.2.2.1.toNat) (by
  rintro⟨⟨_,_,g,k,_⟩,_,l,ps,_⟩ ⟨c,rfl,hc,h0,h1⟩
  simp only at h0 h1;unfold OU;refine .br (λhk=> ?_) λhk=> .done ⟨c,rfl,hc,by show ps.length<=6;omega⟩;have hk:k>0:=of_decide_eq_true hk;have e:IntKind.wrap .i64 (k-1)=k-1:=of (by omega) (by omega);refine .draw (IR hc _) λc1 _ h1 _=> .iteP rfl (.br (λ_=> .draw (XM h1) λc2 _ h2 _=> .iteP rfl (.iteP (by simp only[be,cn];omega) (.again ?_))) λ_=> .draw (XM h1) λc2 _ h2 _=> .iteP rfl (.iteP (by simp only[be,cn];omega) (.again ?_)))
  all_goals
   simp only[e];exact⟨⟨c2,rfl,h2,by omega,by simp only[be,cn];omega⟩,by omega⟩) (s:=(((),(),1,y0.1,()),(()),[c0],([]:List sf),())) ⟨c0,rfl,hc0,hy0.1,by have:=hy0.2;simp;omega⟩
 rw[h1];exact⟨c2,_,rfl,h2,h3⟩
theorem abe{c:qO}(h:Gh c):Dn (λ_:Op×Unit=>True) (RT [c]):=by
 unfold RT;refine .bind (XM h) λ_ _ _ _=> ?_
 repeat first |exact .ret (by assumption) trivial|refine .iteP rfl ?_|refine .br (λ_=> ?_) λ_=> ?_|refine .bind (G6 (by assumption) _) λ_ _ _ _=> ?_|refine .bind (IR (by assumption) _) λ_ _ _ _=> ?_|refine .bind (HZ (by assumption) (by simp)) λ_ _ _ _=> ?_
theorem ZM{c:qO}(h:Gh c):Dn (λy:List sf×Unit=>y.1.length<=17) (RU [c]):=by
 unfold RU;refine .bind (aaG h) λc1 y h1 hy=> .iteP rfl (.bind (G6 h1 _) λc2 _ h2 _=> .iteP rfl (.br (λ_=> ?_) λ_=> .br (λ_=> ?_) λ_=> .ret h2 (by show y.1.length<=17;omega)))
 ·refine .bind (HZ h2 (by simp)) λc3 _ h3 _=> .iteP rfl (.bind (abe h3) λc4 z h4 _=> .iteP rfl ?_);have e: ∀x:sf,(y.1++ [x]).length<=17:=λx=>by simp only[be,cn];omega
  exact .iteP (ba (bg _ (e _)) (by decide)) (.ret h4 (e _))
 ·unfold Wc
  obtain⟨⟨_,_,l,ps,_⟩,h1,c2,rfl,h2,h3⟩:=WQ (B:=NJ) (I:=λs=> ∃c,s.2.2.1= [c] /\Gh c/\s.2.2.2.1.length<=17) (E:=λe=> ∃c,e.2.2.1= [c] /\Gh c/\e.2.2.2.1.length<=17) (λs=>17-s.2.2.2.1.length) (by
   rintro⟨⟨_,_,_⟩,_,l,ps,_⟩ ⟨c,rfl,hc,h0⟩
   simp only at h0;unfold NJ;refine .br (λhk=> ?_) λhk=> .done ⟨c,rfl,hc,h0⟩;have hk: (ps.length:Int)<17:=of_decide_eq_true hk;refine .draw (XM hc) λc1 _ h1 _=> .iteP rfl (.iteP (by simp only[be,cn];omega) (.again ?_));exact⟨⟨c1,rfl,h1,by simp only[be,cn];omega⟩,by simp only[be,cn];omega⟩) (s:=(((),(),()),(()),[c2],y.1,())) ⟨c2,rfl,h2,by show y.1.length<=17;omega⟩
  show Dn _ ((md NJ (((),(),()),(()),[_],y.1,())).bind _);rw[h1];exact⟨c2,_,rfl,h2,h3⟩
end
end
section
def GA(M:Nat)(c:om):Prop:=c.replicas.length<=M/\c.witnesses.length<=M
def FN(M:Nat)(s:qQ):Prop:=GA M s.config/\s.log.length<=M/\s.learned.length<=M
def Mx(M:Nat)(m:kB):Prop:=m.configs.length<=M/\ ∀c∈m.configs,GA M c
def FF(M:Nat)(c:qN):Prop:=(c.servers.length<=M/\ ∀s∈c.servers,FN M s)/\c.sides.length<=M/\Mx M c.master/\c.places.length<=M
theorem Fl{n:Nat}(h:n<=1048576):n<=maxLen:=by unfold maxLen;omega
end
section
theorem Io{ρ:Type}(a b:Int)(x y:ρ):br (a==b) x y=if a=b then x else y:=by rw[BP];by_cases h:a=b<;>simp[h]
theorem Fg{ρ:Type}(b:Bool)(x y:ρ):br (!b) x y=br b y x:=by cases b<;>rfl
def HP(x a b:Int):Bool:=decide (a<=x)&&decide (x<=b)
theorem FZ(x a b:Int):Fo x a b=some (HP x a b,()):=by unfold Fo HP;rw[jZ];split<;>rename_i h<;>simp[h]
theorem Kz(x a b:Int):Fs x a b=some (HP x a b,()):=by unfold Fs HP;rw[jZ];split<;>rename_i h<;>simp[h]
theorem Fj{x a b:Int}:HP x a b=true↔a<=x/\x<=b:=by simp[HP]
def Oo(l:List Int):Prop:=∀k (h:k<l.length),(0<=l[k] /\l[k] <=4)/\ ∀_:0<k,l[k-1]'(by omega)<l[k]
theorem Pz(l:List Int)(hl:l.length<=maxLen): (GG l=some (true,())/\HX l=some (true,())/\Oo l)\/(GG l=some (false,())/\HX l=some (false,())):=by
 have fm:=DJ (B1:=Ha) (B2:=G9) l.length (λk=>((l,(k:Int),()),(),())) (λk=>((l,l,(l.length:Int),(k:Int),()),(),())) (.inr (((),()),(),())) (.inr (((),()),(),())) (λ_=> .inl ((false,()),(),())) (λ_=> .inl ((false,()),(),()))
  (λk=> ∀h:k<l.length,(0<=l[k] /\l[k] <=4)/\ ∀_:0<k,l[k-1]'(by omega)<l[k]) (λ_=>True)
  (by simp only[Ha];rw[jZ,if_neg (by omega)])
  (by simp only[G9];rw[jZ,if_neg (by omega)])
  (λk hk=>by
    have c1: (k:Int)< (l.length:Int):=by omega
    have c2: (0:Int)<=(k:Int):=by omega
    have e1:l[k]? =some l[k] :=an hk;simp only[Ha,G9,jZ,C9,if_pos c1,if_pos c2,cO,e1,ak,FZ,Kz];cases hw:HP l[k] 0 4 with
    |false=>exact .inr ⟨rfl,rfl,trivial⟩
    |true=>
     simp only[dk,CU];have hw:=Fj.1 hw;by_cases h0:0<k
     ·have c3: (k:Int)>0:=by omega
      have c4: (0:Int)<=((k-1:Nat):Int):=by omega
      have e2:l[k-1]? =some l[k-1] :=an (by omega);simp only[if_pos c3,CQ h0 (by omega),if_pos c4,cO,e2,ak];by_cases hlt:l[k-1]<l[k]
      ·rw[if_neg (by omega),if_neg (by omega),kT hl hk];exact .inl ⟨rfl,rfl,λ_=>⟨hw,λ_=>hlt⟩⟩
      ·rw[if_pos (by omega),if_pos (by omega)];exact .inr ⟨rfl,rfl,trivial⟩
     ·rw[if_neg (by omega),if_neg (by omega),kT hl hk];exact .inl ⟨rfl,rfl,λ_=>⟨hw,λh=>absurd h h0⟩⟩)
 unfold GG HX;rcases fm with ⟨k1,k2,k3⟩| ⟨k,_,k1,k2,_⟩
 ·rw[show LR ((l,0,()),(),())=_ from k1,show LQ ((l,l,(l.length:Int),0,()),(),())=_ from k2];exact .inl ⟨rfl,rfl,λk hk=>k3 k hk hk⟩
 ·rw[show LR ((l,0,()),(),())=_ from k1,show LQ ((l,l,(l.length:Int),0,()),(),())=_ from k2];exact .inr ⟨rfl,rfl⟩
theorem Oo.lt{l:List Int}(h:Oo l): ∀ (d i:Nat) (h2:i+d+1<l.length),l[i]'(by omega)<l[i+d+1] :=by
 intro d
 induction d with
 |zero=>intro i h2;exact (h (i+1) h2).2 (by omega)
 |succ d ih=>intro i h2;have h1:=ih i (by omega);have h3:=(h (i+d+1+1) h2).2 (by omega);exact Int.lt_trans h1 h3
theorem Oo.pair{l:List Int}(h:Oo l):l.Pairwise (· < ·):=by rw[EK];intro i j hi hj hij;have:=h.lt (j-i-1) i (by omega);simpa [show i+(j-i-1)+1=j by omega] using this
theorem Oo.len{l:List Int}(h:Oo l):l.length<=5:=by
 have ge: ∀k (hk:k<l.length),(k:Int)<=l[k] :=by
  intro k
  induction k with
  |zero=>intro hk;exact (h 0 hk).1.1
  |succ k ih=>intro hk;have h1:=ih (by omega);have h2:=(h (k+1) hk).2 (by omega);simp only[bP] at h2;omega
 rcases cU 5 l.length with hlt|hge
 ·have h1:=ge 5 hlt;have h2:=(h 5 hlt).1.2;omega
 ·exact hge
theorem FI(l:List Int)(x:Int)(hl:l.length<=maxLen):F1 l x=some (decide (x∈l),())/\IH l x=some (decide (x∈l),()):=by
 have fm:=DJ (B1:=JO) (B2:=I8) l.length (λk=>((l,x,(k:Int),()),(),())) (λk=>((l,x,(l.length:Int),(k:Int),()),(),())) (.inr (((),()),(),())) (.inr (((),()),(),())) (λ_=> .inl ((true,()),(),())) (λk=> .inl (((k:Int),()),(),()))
  (λk=>l[k]? ≠some x) (λk=>l[k]? =some x)
  (by simp only[JO];rw[jZ,if_neg (by omega)])
  (by simp only[I8];rw[jZ,if_neg (by omega)])
  (λk hk=>by
    have c1: (k:Int)< (l.length:Int):=by omega
    have c2: (0:Int)<=(k:Int):=by omega
    have e1:l[k]? =some l[k] :=an hk;simp only[JO,I8,jZ,C9,if_pos c1,if_pos c2,cO,e1,ak,kT hl hk,Io];by_cases he:l[k] =x
    ·rw[if_pos he,if_pos he.symm,he];exact .inr ⟨rfl,rfl,rfl⟩
    ·rw[if_neg he,if_neg (λh=>he h.symm)];exact .inl ⟨rfl,rfl,λh=>he (Option.some.inj h)⟩)
 unfold F1 IH K4 Nz;rcases fm with ⟨k1,k2,k3⟩| ⟨k,hk,k1,k2,k3⟩
 ·rw[show OL ((l,x,0,()),(),())=_ from k1,show N9 ((l,x,(l.length:Int),0,()),(),())=_ from k2]
  have hn:x∉l:=λh=>by obtain⟨k,hk,he⟩:=aQ h;exact k3 k hk (by rw[an hk,he])
  rw[decide_eq_false hn];exact⟨rfl,rfl⟩
 ·rw[show OL ((l,x,0,()),(),())=_ from k1,show N9 ((l,x,(l.length:Int),0,()),(),())=_ from k2];rw[decide_eq_true (ay k3)];refine⟨rfl,?_⟩;simp only[ak,EO];rw[decide_eq_true (by omega)]
end
section
theorem JB{n:Nat}(h:n<=1048576):n*8<=2 ^ 40:=by
 have : (2:Nat) ^ 40=1099511627776:=by decide
 omega
theorem WV(l:List Int)(x:Int)(hl:l.length<=1000)(h: ∀y∈l,y<x):I2 l x=some (l++ [x],()):=by
 have hm:l.length<=maxLen:=by unfold maxLen;omega
 have fm:=tC (B:=Kt) l (λk (_:Unit)=>((l,x,(k:Int),()),(),())) (λ_ _=>True) (λk r _=>((l,x,((k+r.length:Nat):Int),()),(),()))
  (λb hb=>by simp only[Kt];rw[jZ,if_neg (by omega)];rfl)
  (λk b y hy hb=>by
    have hk:=yw hy;have c1: (k:Int)< (l.length:Int):=by omega
    have c2: (0:Int)<=(k:Int):=by omega
    refine .inl ⟨(),?_,trivial,?_⟩
    ·simp only[Kt,jZ,C9,if_pos c1,if_pos c2,cO,hy,ak,if_pos (h y (ay hy)),kT hm hk]
    ·rw[bD,show k+((l.drop (k+1)).length+1)=k+1+(l.drop (k+1)).length by omega])
  0 () (bH _) trivial
 unfold I2;rw[show SK ((l,x,0,()),(),())=_ from fm];simp only[ak,cF,aM];have c0: ¬ ((l.length:Int)< (l.length:Int)):=by omega
 have d1: (0:Int)<=0/\(0:Int)<=(l.length:Int)/\(l.length:Int)<=(l.length:Int):=by omega
 have d2: (0:Int)<=(l.length:Int)/\(l.length:Int)<=(l.length:Int)/\(l.length:Int)<=(l.length:Int):=by omega
 simp only[jZ,if_neg c0,C9,if_pos d1,if_pos d2,cO,Fc,cF,EW,de,dE,bI,EJ,bK];rw[if_pos (JB (by omega)),if_pos (JB (by simp;omega))];exact if_pos (JB (by simp;omega))
theorem Sv(a b:List Int)(ha:Oo a)(hb:b.length<=maxLen):HT a b=some (a.filter λx=>decide (x∈b),()):=by
 have hl:=ha.len;have hm:a.length<=maxLen:=by unfold maxLen;omega
 have hp:=ha.pair
 have fm:=tC (B:=HI) a (λk (out:List Int)=>((a,b,(),(k:Int),()),(),(out,()))) (λk out=>out=(a.take k).filter λx=>decide (x∈b)) (λk r out=>(((),()),(),(out++r.filter λx=>decide (x∈b),())))
  (λout hb=>by simp only[HI];rw[jZ,if_neg (by omega)];simp)
  (λk out x hx hout=>by
    have hk:=yw hx;have c1: (k:Int)< (a.length:Int):=by omega
    have c2: (0:Int)<=(k:Int):=by omega
    have hxe:a[k] =x:=by rw[an hk] at hx;exact Option.some.inj hx
    simp only[HI,jZ,C9,if_pos c1,if_pos c2,cO,hx,ak,(FI b x hb).1,kT hm hk];by_cases hin:x∈b
    ·have hlt: ∀y∈out,y<x:=by
      intro y hy;rw[hout,EZ] at hy;obtain⟨i,hi,he⟩:=aQ hy.1;have hi':i<k:=by simp at hi;omega
      rw[E0] at he;rw[<-he,<-hxe];exact EK.1 hp i k (by omega) hk hi'
     have hol:out.length<=1000:=by rw[hout];have:=Fd (λx=>decide (x∈b)) (a.take k);simp at this;omega
     simp only[if_pos hin,WV out x hol hlt,ak];refine .inl ⟨out++ [x],rfl,?_,?_⟩
     ·rw[hout,EM,hx,EP];simp[hin]
     ·simp[hin]
    ·simp only[if_neg hin];refine .inl ⟨out,rfl,?_,?_⟩
     ·rw[hout,EM,hx,EP];simp[hin]
     ·simp[hin])
  0 [] (bH _) rfl
 unfold HT;rw[show Ox ((a,b,(),0,()),(),([],()))=_ from fm];rfl
theorem Uj{n:Nat}(hn:n<=5): ∃m,Qa (IntKind.wrap .u64 (n:Int))=some (m,()):=by
 have :n=0\/n=1\/n=2\/n=3\/n=4\/n=5:=by omega
 rcases this with rfl|rfl|rfl|rfl|rfl|rfl
 ·exact⟨0,by kernel_rfl⟩
 ·exact⟨1,by kernel_rfl⟩
 ·exact⟨2,by kernel_rfl⟩
 ·exact⟨2,by kernel_rfl⟩
 ·exact⟨3,by kernel_rfl⟩
 ·exact⟨3,by kernel_rfl⟩
theorem ZB(l:List Int)(ha:Oo l):FD l 0 (l.length:Int)=some (l,()):=by
 have hl:=ha.len;have hm:l.length<=maxLen:=by unfold maxLen;omega
 have inner: ∀k (hk:k<l.length),0<k->Gu (((),0,(l.length:Int),(k:Int),(k:Int),()),(),(l,()))=some (((),0,(l.length:Int),(k:Int),()),(),(l,())):=by
  intro k hk h0;refine me ?_;have c1: (k:Int)>0:=by omega
  have c2: (0:Int)<=(k:Int)/\(k:Int)< (l.length:Int):=by omega
  have c3: (0:Int)<=((k-1:Nat):Int)/\((k-1:Nat):Int)< (l.length:Int):=by omega
  have e1:l[k]? =some l[k] :=an hk;have e2:l[k-1]? =some l[k-1] :=an (by omega);have hlt:=(ha k hk).2 h0
  have less:Jt l[k] l[k-1] =some (false,()):=by unfold Jt JQ;simp only[beq_self_eq_true,dk,ak,CU];rw[decide_eq_false (by omega)]
  simp only[Fz,jZ,C9,if_pos c1,if_pos c2,CQ h0 (by omega),if_pos c3,cO,e1,e2,ak,less,CU]
 have outer:=AF (B:=Fp) (λs=> ∃k:Nat,0<k/\s=(((),0,(l.length:Int),(k:Int),()),(),(l,()))) (λs=>l.length-s.1.2.2.2.1.toNat) (λe=>e=((()),(),(l,())))
  (λs hs=>by
    obtain⟨k,h0,rfl⟩:=hs;by_cases hk:k<l.length
    ·have c1: (k:Int)< (l.length:Int):=by omega
     refine .inl ⟨(((),0,(l.length:Int),((k+1:Nat):Int),()),(),(l,())),?_,⟨k+1,by omega,rfl⟩,?_⟩
     ·simp only[Fp,jZ,if_pos c1,inner k hk h0,ak,kT hm hk]
     ·simp only[cO];omega
    ·have c1: ¬ (k:Int)< (l.length:Int):=by omega
     exact .inr ⟨_,by simp only[Fp,jZ,if_neg c1],rfl⟩)
  (s:=(((),0,(l.length:Int),((1:Nat):Int),()),(),(l,()))) ⟨1,by omega,rfl⟩
 obtain⟨e,h1,rfl⟩:=outer;unfold FD;rw[show IntKind.wrap .i64 ((0:Int)+1)=((1:Nat):Int) from by rw[of (by omega) (by omega)];rfl,show Gt (((),0,(l.length:Int),((1:Nat):Int),()),(),(l,()))=_ from h1];rfl
theorem abp(l:List Int)(ha:Oo l):Ij l=some (l,()):=by
 have hl:=ha.len;obtain⟨m,hm⟩:=Uj hl
 have hp:F6 l 0 (l.length:Int) m=some (l,()):=by
  unfold F6
  have :Il (((),0,(l.length:Int),m,true,true,()),(),(l,()))=some ((()),(),(l,())):=by refine me ?_;simp only[Gx];rw[of (by omega) (by omega),jZ,if_pos (by omega),ZB l ha,ak,jo rfl]
  rw[this];rfl
 unfold Ij;simp only[hm,ak,hp];exact jo trivial _ _
theorem Xc(l:List Int)(ha:Oo l):Hg l=some (l,()):=by
 have hl:=ha.len;have hm:l.length<=maxLen:=by unfold maxLen;omega
 unfold Hg;rw[jZ];split
 ·rfl
 ·have fm:=AF (B:=FW) (λs=> ∃k:Nat,0<k/\k<=l.length/\s=(((),(k:Int),()),(),(l,()))) (λs=>l.length-s.1.2.1.toNat) (λe=>e= .inr (((),(),()),(),(l,())))
   (λs hs=>by
     obtain⟨k,h0,hkl,rfl⟩:=hs;by_cases hk:k<l.length
     ·have c1: (k:Int)< (l.length:Int):=by omega
      have c2: (0:Int)<=(k:Int)/\(k:Int)< (l.length:Int):=by omega
      have c3: (0:Int)<=((k-1:Nat):Int)/\((k-1:Nat):Int)< (l.length:Int):=by omega
      have e1:l[k]? =some l[k] :=an hk;have e2:l[k-1]? =some l[k-1] :=an (by omega);have hlt:=(ha k hk).2 h0;refine .inl ⟨(((),((k+1:Nat):Int),()),(),(l,())),?_,⟨k+1,by omega,by omega,rfl⟩,?_⟩
      ·simp only[FW,jZ,C9,if_pos c1,if_pos c2,CQ h0 (by omega),if_pos c3,cO,e1,e2,ak,Io,kT hm hk];rw[if_neg (by omega)]
      ·simp only[cO];omega
     ·have c1: ¬ (k:Int)< (l.length:Int):=by omega
      exact .inr ⟨_,by simp only[FW,jZ,if_neg c1],rfl⟩)
   (s:=(((),((1:Nat):Int),()),(),(l,()))) ⟨1,by omega,by omega,rfl⟩
  obtain⟨e,h1,rfl⟩:=fm;rw[show KG (((),1,()),(),(l,()))=_ from h1];rfl
theorem Zt(l:List Int)(ha:Oo l):Jm l=some (l,()):=by have hl:=ha.len;unfold Jm Jy;rw[jo (JB (by omega)),ak,abp l ha,ak,jo rfl,Xc l ha];rfl
end
section
theorem O9{σ ε:Type}{B:σ->Option (σ⊕ε)}(n:Nat)(m:Nat->σ)(t:ε)(f:Nat->ε)(p:Nat->Bool)(h0:B (m n)=some (.inr t))(h: ∀k,k<n->B (m k)=some (if p k=true then .inr (f k) else .inl (m (k+1)))):
  (md B (m 0)=some t/\ ∀k,k<n->p k=false)\/ ∃k,k<n/\md B (m 0)=some (f k)/\p k=true/\ ∀j,j<k->p j=false:=by
 have fm: ∀d j,j+d=n->(md B (m j)=some t/\ ∀k,j<=k->k<n->p k=false)\/ ∃k,k<n/\md B (m j)=some (f k)/\p k=true/\ ∀i,j<=i->i<k->p i=false:=by
  intro d
  induction d with
  |zero=>
   intro j hj;have :j=n:=by omega
   subst this;exact .inl ⟨me h0,λk a b=>by omega⟩
  |succ d ih=>
   intro j hj;have h1:=h j (by omega);cases hp:p j with
   |true=>rw[hp,if_pos rfl] at h1;exact .inr ⟨j,by omega,me h1,hp,λi a b=>by omega⟩
   |false=>
    rw[hp,if_neg (by simp)] at h1;rw[tD h1];rcases ih (j+1) (by omega) with ⟨k1,k2⟩| ⟨k,k0,k1,k2,k3⟩
    ·refine .inl ⟨k1,λk a b=> ?_⟩;rcases Nat.eq_or_lt_of_le a with rfl|a
     ·exact hp
     ·exact k2 k a b
    ·refine .inr ⟨k,k0,k1,k2,λi a b=> ?_⟩;rcases Nat.eq_or_lt_of_le a with rfl|a
     ·exact hp
     ·exact k3 i a b
 rcases fm n 0 (by omega) with ⟨a,b⟩| ⟨k,a,b,c,d⟩
 ·exact .inl ⟨a,λk hk=>b k (bH _) hk⟩
 ·exact .inr ⟨k,a,b,c,λj hj=>d j (bH _) hj⟩
theorem ND{σ1 ε1 σ2 ε2 β:Type}{B1:σ1->Option (σ1⊕ε1)}{B2:σ2->Option (σ2⊕ε2)}(n:Nat)(m1:Nat->β->σ1)(m2:Nat->β->σ2)(J:Nat->β->Prop)(E1:β->ε1)(E2:β->ε2)
  (h0: ∀b,J n b->B1 (m1 n b)=some (.inr (E1 b))/\B2 (m2 n b)=some (.inr (E2 b)))
  (h1: ∀k b,k<n->J k b-> ∃b',B1 (m1 k b)=some (.inl (m1 (k+1) b'))/\B2 (m2 k b)=some (.inl (m2 (k+1) b'))/\J (k+1) b')
  (b:β) (hb:J 0 b): ∃b',J n b'/\md B1 (m1 0 b)=some (E1 b')/\md B2 (m2 0 b)=some (E2 b'):=by
 have go: ∀ (d k:Nat) (b:β),k+d=n->J k b-> ∃b',J n b'/\md B1 (m1 k b)=some (E1 b')/\md B2 (m2 k b)=some (E2 b'):=by
  intro d
  induction d with
  |zero=>
   intro k b hk hj;have :k=n:=by omega
   subst this;exact⟨b,hj,me (h0 b hj).1,me (h0 b hj).2⟩
  |succ d ih=>intro k b hk hj;obtain⟨b',p1,p2,p3⟩:=h1 k b (by omega) hj;obtain⟨c,q1,q2,q3⟩:=ih (k+1) b' (by omega) p3;exact⟨c,q1,by rw[tD p1];exact q2,by rw[tD p2];exact q3⟩
 exact go n 0 b (by omega) hb
theorem S8{l:List Int}{p:Int->Bool}(h: ∀x∈l,p x=true):l.filter p=l:=List.filter_eq_self.2 h
theorem X3(a b:List Int)(ha:a.length<=1000)(hb:b.length<=maxLen):FE a b=some (a.filter λx=> !decide (x∈b),()):=by
 have hm:a.length<=maxLen:=by unfold maxLen;omega
 have hm':a.length<=9223372036854775807:=hm
 have has: ∀x,Hj x b=some (decide (x∈b),()):=by intro x;unfold Hj;rw[(FI b x hb).2];rfl
 have find:=O9 (B:=Fy) a.length (λk=>((a,(b,()),(a.length:Int),(k:Int),()),(),())) (.inr (((),()),(),())) (λk=> .inl (((k:Int),()),(),())) (λk=>match a[k]? with |some x=>decide (x∈b)|none=>false)
  (by simp only[Fy];rw[jZ,if_neg (by omega)])
  (λk hk=>by
    have c1: (k:Int)< (a.length:Int):=by omega
    have c2: (0:Int)<=(k:Int):=by omega
    simp only[Fy,jZ,C9,if_pos c1,if_pos c2,cO,an hk,ak,has,kT hm hk];by_cases hin:a[k] ∈b<;>simp[hin])
 unfold FE Gg;rcases find with ⟨k1,k2⟩| ⟨i,hi,k1,k2,k3⟩
 ·rw[show GL ((a,(b,()),(a.length:Int),0,()),(),())=_ from k1];simp only[ak,ET,beq_self_eq_true,DE];rw[S8 λx hx=> ?_];obtain⟨k,hk,rfl⟩:=aQ hx;have:=k2 k hk;rw[an hk] at this;simpa using this
 ·rw[show GL ((a,(b,()),(a.length:Int),0,()),(),())=_ from k1]
  have hne: ((i:Int)== -1)=false:=by simp only[beq_eq_false_iff_ne,ne_eq];omega
  simp only[ak,EO,hne,CU,kT hm hi];rw[an hi] at k2
  have loop:=AF (B:=Ft) (λs=> ∃ (i j:Nat) (v:List Int),s=(((),(b,()),(i:Int),(j:Int),()),(),(v,()))/\i<=j/\j<=a.length/\v.length=a.length/\v.take i=(a.take j).filter (λx=> !decide (x∈b))/\v.drop j=a.drop j) (λs=>a.length-s.1.2.2.2.1.toNat)
   (λe=> ∃ (i:Nat) (v:List Int),e=(((),(i:Int),()),(),(v,()))/\i<=a.length/\v.length=a.length/\v.take i=a.filter (λx=> !decide (x∈b)))
   (λs hs=>by
     obtain⟨i,j,v,rfl,hij,hj,hv,ht,hd⟩:=hs;by_cases hlt:j<a.length
     ·have c1: (j:Int)< (v.length:Int):=by omega
      have c2: (0:Int)<=(j:Int)/\(j:Int)< (v.length:Int):=by omega
      have c3: (0:Int)<=(i:Int)/\(i:Int)< (v.length:Int):=by omega
      have e1:v[j]? =some a[j] :=by have:=congrArg (λl:List Int=>l[0]?) hd;simpa [bn,an hlt] using this
      have e2:v[i]? =some (v[i]'(by omega)):=an _;have hta:a.take (j+1)=a.take j++ [a[j]] :=by rw[EM,an hlt];rfl
      have hdd:v.drop (j+1)=a.drop (j+1):=by have:=congrArg (List.drop 1) hd;simpa [cw,b8] using this
      left;simp only[Ft,jZ,C9,if_pos c1,if_pos c2,cO,e1,ak,has,if_pos c3,e2,kT hm hlt,Fg,kT hm (show i<a.length by omega)];by_cases hin:a[j] ∈b
      ·rw[if_pos hin];refine⟨_,rfl,⟨i,j+1,v,rfl,by omega,by omega,hv,?_,hdd⟩,?_⟩
       ·rw[ht,hta,EP];simp[hin]
       ·simp only[cO];omega
      ·rw[if_neg hin];refine⟨_,rfl,⟨i+1,j+1,v.set i a[j],rfl,by omega,by omega,by simp[hv],?_,?_⟩,?_⟩
       ·rw[qi _ (by omega),ht,hta,EP];simp[hin]
       ·rw[List.drop_set_of_lt (by omega),hdd]
       ·simp only[cO];omega
     ·have :j=a.length:=by omega
      subst this;right;refine⟨_,by simp only[Ft];rw[jZ,if_neg (by omega)],⟨i,v,rfl,hij,hv,?_⟩⟩;rw[ht,EJ])
   (s:=(((),(b,()),(i:Int),((i+1:Nat):Int),()),(),(a,()))) ⟨i,i+1,a,rfl,by omega,by omega,rfl,by
     have hta:a.take (i+1)=a.take i++ [a[i]] :=by rw[EM,an hi];rfl
     rw[hta,EP,S8 (l:=a.take i) λx hx=> ?_]
     ·simp only[decide_eq_true_eq] at k2;simp[k2]
     ·obtain⟨j,hj,rfl⟩:=aQ hx;have hj':j<i:=by simp at hj;omega
      have:=k3 j hj';rw[an (by omega)] at this;rw[E0];simpa using this,rfl⟩
  obtain⟨e,h1,i',v,rfl,h2,h3,h4⟩:=loop;rw[show Hn (((),(b,()),(i:Int),((i+1:Nat):Int),()),(),(a,()))=_ from h1];have d1: (0:Int)<=(i':Int)/\(i':Int)<=(v.length:Int)/\(v.length:Int)<=((v.length:Nat):Int):=by omega
  have d2:i'+(v.length-i')<=v.length:=by omega
  have d3: (0:Int)<=0/\(0:Int)<=(i':Int)/\(i':Int)<=((v.length:Nat):Int):=by omega
  simp only[ak,cO,Fc,aM,EW,C9,if_pos d1,if_pos d2,if_pos d3];rw[if_pos ⟨trivial,by simp;omega⟩];rw[aY,List.take_append_of_le_length (by simp;omega),List.take_take,Nat.min_self,h4]
theorem Xg(a b:List Int)(ha:Oo a)(hb:b.length<=maxLen):Ie a b=some (a.filter λx=> !decide (x∈b),()):=by have hl:=ha.len;unfold Ie;rw[Zt a ha,ak,X3 a b (by omega) hb];rfl
theorem abM(a b:List Int)(ha:Oo a)(hb:b.length<=maxLen):JD a b=some (a.filter λx=>decide (x∈b),()):=by
 have hl:=ha.len;unfold JD;rw[Xg a b ha hb];simp only[ak]
 rw[Xg a (a.filter λx=> !decide (x∈b)) ha (by have:=Fd (λx=> !decide (x∈b)) a;unfold maxLen;omega)]
 simp only[ak]
 congr 2
 apply List.filter_congr;intro x hx;simp[EZ,hx]
theorem HH(c:om)(h:GA maxLen c):Ef (Fk c) (G0 c):=by
 unfold Fk G0;simp only[FZ,Kz,ak];cases HP c.epoch 1 20 with
 |false=>exact⟨_,rfl,rfl⟩
 |true=>
  rcases Pz c.replicas h.1 with ⟨a1,a2,a3⟩| ⟨a1,a2⟩
  ·rcases Pz c.witnesses h.2 with ⟨b1,b2,b3⟩| ⟨b1,b2⟩
   ·simp only[a1,a2,b1,b2,ak,DE,(FI c.replicas c.primary h.1).1,(FI c.replicas c.primary h.1).2,Sv _ _ a3 h.2,abM _ _ a3 h.2];cases decide (c.primary∈c.replicas)<;>exact⟨_,rfl,rfl⟩
   ·simp only[a1,a2,b1,b2,ak,DE,CU];exact⟨_,rfl,rfl⟩
  ·simp only[a1,a2,ak,DE,CU];exact⟨_,rfl,rfl⟩
end
section
theorem NL(l:List Int)(hl:l.length<=maxLen):Ef (HS l) (K9 l):=by
 have fm:=DJ (B1:=Kr) (B2:=FQ) l.length (λk=>((l,(k:Int),()),(),())) (λk=>((l,(),(l.length:Int),(k:Int),()),(),())) (.inr ((l,(),()),(),())) (.inr (((),()),(),())) (λ_=> .inl ((l,false,()),(),())) (λk=> .inl (((k:Int),()),(),()))
  (λ_=>True) (λ_=>True)
  (by simp only[Kr];rw[jZ,if_neg (by omega)])
  (by simp only[FQ];rw[jZ,if_neg (by omega)])
  (λk hk=>by
    have c1: (k:Int)< (l.length:Int):=by omega
    have c2: (0:Int)<=(k:Int):=by omega
    simp only[Kr,FQ,jZ,C9,if_pos c1,if_pos c2,cO,an hk,ak,MH,FZ,Kz,kT hl hk];cases HP l[k] 0 3 with
    |false=>exact .inr ⟨rfl,rfl,trivial⟩
    |true=>exact .inl ⟨rfl,rfl,trivial⟩)
 unfold HS K9 Gq GQ;rcases fm with ⟨k1,k2,_⟩| ⟨k,_,k1,k2,_⟩
 ·rw[show PQ ((l,0,()),(),())=_ from k1,show Hs ((l,(),(l.length:Int),0,()),(),())=_ from k2];simp only[ak,ET];cases ((l.length:Int)==5)<;>exact⟨_,rfl,rfl⟩
 ·rw[show PQ ((l,0,()),(),())=_ from k1,show Hs ((l,(),(l.length:Int),0,()),(),())=_ from k2];simp only[ak,EO];rw[decide_eq_true (by omega)];cases ((l.length:Int)==5)<;>exact⟨_,rfl,rfl⟩
theorem masterLog(m:kB)(h:Mx maxLen m): ∃b,Fv m=some (b,())/\H2 m=some (b,()):=by
 obtain⟨hl,hc⟩:=h
 have fm:=DJ (B1:=FX) (B2:=Ip) m.configs.length (λk=>(((),(k:Int),()),((m.configs,m.activated,()),()),())) (λk=>(((),m.configs,(m.configs.length:Int),(k:Int),()),((m.configs,m.activated,()),()),())) (.inr (((),(),()),((m.configs,m.activated,()),()),())) (.inr (((),(),()),((m.configs,m.activated,()),()),())) (λ_=> .inl (((),false,()),((m.configs,m.activated,()),()),())) (λ_=> .inl (((),false,()),((m.configs,m.activated,()),()),()))
  (λ_=>True) (λ_=>True)
  (by simp only[FX];rw[jZ,if_neg (by omega)])
  (by simp only[Ip];rw[jZ,if_neg (by omega)])
  (λk hk=>by
    have c1: (k:Int)< (m.configs.length:Int):=by omega
    have c2: (0:Int)<=(k:Int):=by omega
    obtain⟨b,v1,v2⟩:=HH m.configs[k] (hc _ (dq hk));simp only[FX,Ip,jZ,C9,if_pos c1,if_pos c2,cO,an hk,ak,v1,v2,kT hl hk,Fg];cases b with
    |false=>exact .inr ⟨rfl,rfl,trivial⟩
    |true=>
     cases (m.configs[k].epoch==((k+1:Nat):Int)) with
     |false=>exact .inr ⟨rfl,rfl,trivial⟩
     |true=>exact .inl ⟨rfl,rfl,trivial⟩)
 unfold Fv H2;rcases fm with ⟨k1,k2,_⟩| ⟨k,_,k1,k2,_⟩
 ·rw[show JL (((),0,()),((m.configs,m.activated,()),()),())=_ from k1,show Nd (((),m.configs,(m.configs.length:Int),0,()),((m.configs,m.activated,()),()),())=_ from k2];simp only[ak,ET,FZ,Kz];exact⟨_,rfl,rfl⟩
 ·rw[show JL (((),0,()),((m.configs,m.activated,()),()),())=_ from k1,show Nd (((),m.configs,(m.configs.length:Int),0,()),((m.configs,m.activated,()),()),())=_ from k2];exact⟨_,rfl,rfl⟩
theorem PH(x:vz):Ef (HL x) (HK x):=by unfold HL HK;simp only[FZ,Kz,ak];cases ((x.epoch==0)&&((x.holder==0)&&((x.ends==0)&&true)))<;>cases HP x.epoch 1 20<;>cases HP x.holder 0 4<;>exact⟨_,rfl,rfl⟩
theorem NH(l:List vB)(hl:l.length<=maxLen):Ef (F0 l) (Lf l):=by
 have fm:=DJ (B1:=IT) (B2:=FC) l.length (λk=>((l,(k:Int),()),(),())) (λk=>((l,(),(l.length:Int),(k:Int),()),(),())) (.inr ((l,(),()),(),())) (.inr (((),()),(),())) (λ_=> .inl ((l,false,()),(),())) (λk=> .inl (((k:Int),()),(),()))
  (λ_=>True) (λ_=>True)
  (by simp only[IT];rw[jZ,if_neg (by omega)])
  (by simp only[FC];rw[jZ,if_neg (by omega)])
  (λk hk=>by
    have c1: (k:Int)< (l.length:Int):=by omega
    have c2: (0:Int)<=(k:Int):=by omega
    simp only[IT,FC,jZ,C9,if_pos c1,if_pos c2,cO,an hk,ak,Ls,FZ,Kz,kT hl hk];cases HP l[k].rack 0 9 with
    |false=>exact .inr ⟨rfl,rfl,trivial⟩
    |true=>
     cases HP l[k].capacity 0 9 with
     |false=>exact .inr ⟨rfl,rfl,trivial⟩
     |true=>
      cases HP l[k].load 0 99 with
      |false=>exact .inr ⟨rfl,rfl,trivial⟩
      |true=>exact .inl ⟨rfl,rfl,trivial⟩)
 unfold F0 Lf Gd Gs;rcases fm with ⟨k1,k2,_⟩| ⟨k,_,k1,k2,_⟩
 ·rw[show OK ((l,0,()),(),())=_ from k1,show G5 ((l,(),(l.length:Int),0,()),(),())=_ from k2];simp only[ak,ET];cases ((l.length:Int)==5)<;>exact⟨_,rfl,rfl⟩
 ·rw[show OK ((l,0,()),(),())=_ from k1,show G5 ((l,(),(l.length:Int),0,()),(),())=_ from k2];simp only[ak,EO];rw[decide_eq_true (by omega)];cases ((l.length:Int)==5)<;>exact⟨_,rfl,rfl⟩
theorem Zp(x:Op):Ef (F2 x) (Li x):=by unfold F2 Li;simp only[FZ,Kz,ak];cases HP x.client 0 2<;>cases HP x.seq 1 99<;>cases HP x.object 0 2<;>cases HP x.value 0 9<;>cases (x.kind==1)<;>cases (x.kind==2)<;>cases (x.old==0)<;>exact⟨_,rfl,rfl⟩
theorem isLog(l:List sf)(hl:l.length<=maxLen): (F9 l=some (true,())/\JY l=some (true,())/\l.length<=16)\/(F9 l=some (false,())/\JY l=some (false,())):=by
 have fm:=DJ (B1:=Ks) (B2:=NI) l.length (λk=>((l,(k:Int),()),(),())) (λk=>((l,l,(l.length:Int),(k:Int),()),(),())) (.inr ((l,(),()),(),())) (.inr ((l,(),()),(),())) (λ_=> .inl ((l,false,()),(),())) (λ_=> .inl ((l,false,()),(),()))
  (λ_=>True) (λ_=>True)
  (by simp only[Ks];rw[jZ,if_neg (by omega)])
  (by simp only[NI];rw[jZ,if_neg (by omega)])
  (λk hk=>by
    have c1: (k:Int)< (l.length:Int):=by omega
    have c2: (0:Int)<=(k:Int):=by omega
    obtain⟨b,v1,v2⟩:=Zp l[k].op;simp only[Ks,NI,jZ,C9,if_pos c1,if_pos c2,cO,an hk,ak,v1,v2,FZ,Kz,kT hl hk,Fg];cases HP l[k].epoch 1 20 with
    |false=>exact .inr ⟨rfl,rfl,trivial⟩
    |true=>
     simp only[DE];by_cases h0:0<k
     ·have c3: (k:Int)>0:=by omega
      have c4: (0:Int)<=((k-1:Nat):Int):=by omega
      have e2:l[k-1]? =some l[k-1] :=an (by omega);simp only[if_pos c3,CQ h0 (by omega),if_pos c4,cO,e2,ak];by_cases hlt:l[k].epoch<l[k-1].epoch
      ·rw[if_pos hlt,if_pos (show l[k-1].epoch>l[k].epoch from hlt)];cases b<;>exact .inr ⟨rfl,rfl,trivial⟩
      ·rw[if_neg hlt,if_neg (show ¬l[k-1].epoch>l[k].epoch from hlt)];cases b with
       |false=>exact .inr ⟨rfl,rfl,trivial⟩
       |true=>exact .inl ⟨rfl,rfl,trivial⟩
     ·have c3: ¬ (k:Int)>0:=by omega
      simp only[if_neg c3];cases b with
      |false=>exact .inr ⟨rfl,rfl,trivial⟩
      |true=>exact .inl ⟨rfl,rfl,trivial⟩)
 unfold F9 JY;rcases fm with ⟨k1,k2,_⟩| ⟨k,_,k1,k2,_⟩
 ·rw[show Pa ((l,0,()),(),())=_ from k1,show SJ ((l,l,(l.length:Int),0,()),(),())=_ from k2];simp only[ak,ET];by_cases h: (l.length:Int)<=16
  ·rw[decide_eq_true h];exact .inl ⟨rfl,rfl,by omega⟩
  ·rw[decide_eq_false h];exact .inr ⟨rfl,rfl⟩
 ·rw[show Pa ((l,0,()),(),())=_ from k1,show SJ ((l,l,(l.length:Int),0,()),(),())=_ from k2];exact .inr ⟨rfl,rfl⟩
theorem Nw(a b:List Int)(ha:a.length<=maxLen):Je a b=some (decide (a=b),())/\Ja a b=some (decide (a=b),()):=by
 unfold Je Ja Jz;by_cases hlen:a.length=b.length
 ·have hbe: (!((a.length:Int)==(b.length:Int)))=false:=by simp[hlen]
  have fm:=DJ (B1:=H7) (B2:=Ih) a.length (λk=>((a,b,(k:Int),()),(),())) (λk=>((a,b,(a.length:Int),(k:Int),()),(),())) (.inr (((),()),(),())) (.inr (((),()),(),())) (λ_=> .inl ((false,()),(),())) (λ_=> .inl ((false,()),(),()))
   (λk=>a[k]? =b[k]?) (λk=>a[k]? ≠b[k]?)
   (by simp only[H7];rw[jZ,if_neg (by omega)])
   (by simp only[Ih];rw[jZ,if_neg (by omega)])
   (λk hk=>by
     have c1: (k:Int)< (a.length:Int):=by omega
     have c2: (0:Int)<=(k:Int):=by omega
     simp only[H7,Ih,jZ,C9,if_pos c1,if_pos c2,cO,an hk,an (show k<b.length by omega),ak,kT ha hk,Fg,Io];by_cases he:a[k] =b[k]'(by omega)
     ·simp only[if_pos he];exact .inl ⟨trivial,trivial,by rw[he]⟩
     ·simp only[if_neg he];exact .inr ⟨trivial,trivial,λh=>he (Option.some.inj h)⟩)
  rw[hbe,CU,CU];rcases fm with ⟨k1,k2,k3⟩| ⟨k,hk,k1,k2,k3⟩
  ·rw[show Ms ((a,b,0,()),(),())=_ from k1,show N8 ((a,b,(a.length:Int),0,()),(),())=_ from k2]
   have :a=b:=bE λk=>by
    rcases cU k a.length with h|h
    ·exact k3 k h
    ·rw[cz h,cz (by omega)]
   rw[decide_eq_true this];exact⟨rfl,rfl⟩
  ·rw[show Ms ((a,b,0,()),(),())=_ from k1,show N8 ((a,b,(a.length:Int),0,()),(),())=_ from k2];have :a≠b:=λh=>k3 (by rw[h]);rw[decide_eq_false this];exact⟨rfl,rfl⟩
 ·have hbe: (!((a.length:Int)==(b.length:Int)))=true:=by
   simp only[bT,beq_eq_false_iff_ne,ne_eq];omega
  rw[hbe,DE,DE,decide_eq_false (λh=>hlen (by rw[h]))];exact⟨rfl,rfl⟩
theorem GD(a b:om)(ha:GA maxLen a):Hf a b=some (decide (a=b),())/\Gi a b=some (decide (a=b),()):=by unfold Hf Gi;simp only[(Nw a.replicas b.replicas ha.1).1,(Nw a.replicas b.replicas ha.1).2,(Nw a.witnesses b.witnesses ha.2).1,(Nw a.witnesses b.witnesses ha.2).2,ak,Io,jZ];obtain⟨a1,a2,a3,a4⟩:=a;obtain⟨b1,b2,b3,b4⟩:=b;simp only[om.mk.injEq];by_cases h1:a1=b1<;>by_cases h2:a2=b2<;>by_cases h3:a3=b3<;>by_cases h4:a4=b4<;>simp[h1,h2,h3,h4]
theorem KB(l:List sf)(hl:l.length<=maxLen): ∃n,Iz l=some (n,())/\J6 l=some (n,()):=by
 unfold Iz J6;rcases bu l.length with h|h
 ·have : ((l.length:Int)==0)=true:=by simp[h]
  rw[this];exact⟨_,rfl,rfl⟩
 ·have : ((l.length:Int)==0)=false:=by
   simp only[beq_eq_false_iff_ne,ne_eq];omega
  rw[this,CU,CQ h hl,jo (by omega),cO,an (show l.length-1<l.length by omega)];exact⟨_,rfl,rfl⟩
theorem OT(c:om)(x:Int)(h:GA maxLen c): ∃n,F8 c x=some (n,())/\Lu c x=some (n,())/\(n=0\/n=1\/n=2\/n=3):=by unfold F8 Lu;obtain⟨b,v1,v2⟩:=HH c h;simp only[v1,v2,ak,(FI c.replicas x h.1).1,(FI c.replicas x h.1).2,(FI c.witnesses x h.2).1,(FI c.witnesses x h.2).2];cases b<;>cases (x==c.primary)<;>cases decide (x∈c.replicas)<;>cases decide (x∈c.witnesses)<;>exact⟨_,rfl,rfl,by decide⟩
end
section
theorem Fr{c:om}(h:GA 1048576 c):GA maxLen c:=⟨Fl h.1,Fl h.2⟩
theorem GS{m:kB}(h:Mx 1048576 m):Mx maxLen m:=⟨Fl h.1,λc hc=>Fr (h.2 c hc)⟩
theorem MN(c:om)(h:GA maxLen c):JS c=some (decide (c=⟨0,0,[],[]⟩),()):=by unfold JS;rw[(GD c _ h).1];rfl
theorem OF(s:qQ)(id:Int)(h:FN 1048576 s):Ef (Fi s id) (Iv s id):=by
 have hc:=Fr h.1;unfold Fi Iv;simp only[FZ,Kz,ak,Fg];cases HP s.version 1 2 with
 |false=>exact⟨_,rfl,rfl⟩
 |true=>
 cases HP s.epoch 0 20 with
 |false=>exact⟨_,rfl,rfl⟩
 |true=>
 rcases isLog s.log (Fl h.2.1) with ⟨a1,a2,a3⟩| ⟨a1,a2⟩
 case inr=>simp only[a1,a2,ak,DE,CU];exact⟨_,rfl,rfl⟩
 rcases isLog s.learned (Fl h.2.2) with ⟨b1,b2,b3⟩| ⟨b1,b2⟩
 case inr=>simp only[a1,a2,b1,b2,ak,DE,CU];exact⟨_,rfl,rfl⟩
 simp only[a1,a2,b1,b2,ak,DE];cases hw:HP s.first 0 16 with
 |false=>exact⟨_,rfl,rfl⟩
 |true=>
 have hf:=Fj.1 hw;rw[of (n:=s.first+(s.log.length:Int)) (by omega) (by omega)];by_cases h16:s.first+(s.log.length:Int)<=16
 case neg=>
  have e1:HP (s.first+(s.log.length:Int)) 0 16=false:=by unfold HP;simp;omega
  simp only[e1,DE,CU,jZ,if_pos (show s.first+(s.log.length:Int)>16 by omega)];exact⟨_,rfl,rfl⟩
 have e1:HP (s.first+(s.log.length:Int)) 0 16=true:=Fj.2 ⟨by omega,h16⟩;simp only[e1,DE,jZ,if_neg (show ¬s.first+(s.log.length:Int)>16 by omega),MN s.config hc,(GD s.config ⟨0,0,[],[]⟩ hc).2,ak];cases HP s.commit 0 (s.first+(s.log.length:Int)) with
 |false=>exact⟨_,rfl,rfl⟩
 |true=>
 simp only[DE];by_cases hz:s.config=⟨0,0,[],[]⟩
 ·simp only[if_pos hz];cases (s.first==0)<;>cases (s.commit==0)<;>cases ((s.log.length:Int)==0)<;>exact⟨_,rfl,rfl⟩
 ·simp only[if_neg hz];cases s.intact with
  |false=>exact⟨_,rfl,rfl⟩
  |true=>
  simp only[DE];by_cases he:s.epoch<s.config.epoch
  ·simp only[if_pos he];exact⟨_,rfl,rfl⟩
  ·simp only[if_neg he];obtain⟨n,n1,n2⟩:=KB s.log (Fl h.2.1);simp only[n1,n2,ak];by_cases hn:n>s.config.epoch
   ·simp only[if_pos hn];exact⟨_,rfl,rfl⟩
   ·simp only[if_neg hn];obtain⟨r,r1,r2,r3⟩:=OT s.config id hc;simp only[r1,r2,ak];rcases r3 with rfl|rfl|rfl|rfl
    ·exact⟨_,rfl,rfl⟩
    ·exact⟨_,rfl,rfl⟩
    ·exact⟨_,rfl,rfl⟩
    ·have ht:NP s.first s.log=some (decide ((s.log.length:Int)<=3)&&((s.first==0)||((s.log.length:Int)==3)),()):=by
      unfold NP;simp only[a2,Kz,ak,DE,jZ];rw[of (by omega) (by omega),show HP s.first 0 (16-(s.log.length:Int))=true from Fj.2 ⟨by omega,by omega⟩];by_cases h3: (s.log.length:Int)<=3
      ·rw[if_pos h3,decide_eq_true h3];cases (s.first==0)<;>cases ((s.log.length:Int)==3)<;>rfl
      ·rw[if_neg h3,decide_eq_false h3];rfl
     rw[ht];by_cases h3: (s.log.length:Int)<=3
     ·rw[if_pos h3,decide_eq_true h3];cases (s.first==0)<;>cases ((s.log.length:Int)==3)<;>exact⟨_,rfl,rfl⟩
     ·rw[if_neg h3,decide_eq_false h3];exact⟨_,rfl,rfl⟩
theorem MQ(m:kB)(e:Int)(h:Mx 1048576 m): ∃c b,G4 m e=some (c,b,())/\Ju m e=some (c,b,())/\GA maxLen c:=by
 obtain⟨b,m1,m2⟩:=masterLog m (GS h);have zero:GA maxLen ⟨0,0,[],[]⟩:=⟨bH _,bH _⟩
 have hl:=h.1;unfold G4 Ju;simp only[m1,m2,FZ,Kz,ak,Fg];cases b with
 |false=>exact⟨_,_,rfl,rfl,zero⟩
 |true=>
  cases hw:HP e 1 (m.configs.length:Int) with
  |false=>exact⟨_,_,rfl,rfl,zero⟩
  |true=>
   have hw:=Fj.1 hw;simp only[DE];rw[of (n:=e-1) (by omega) (by omega)];have hlt: (e-1).toNat<m.configs.length:=by omega
   have hk:=h.2 _ (dq hlt)
   have copy: ∀c:om,GA 1048576 c->Ii c=some (c,())/\GF c=some (c,()):=by intro c hc;unfold Ii GF;simp only[bK];rw[jo (JB hc.1),jo (JB hc.2)];exact⟨rfl,rfl⟩
   rw[jo (by omega),jo (by omega),an hlt];simp only[ak,(copy _ hk).1,(copy _ hk).2];exact⟨_,_,rfl,rfl,Fr hk⟩
theorem FR(x:qN)(h:FF 1048576 x):Ef (Ff x) (G7 x):=by
 obtain⟨⟨hs1,hs2⟩,hsd,hml,hpl⟩:=h;have hm:=Fl hs1
 have fm:=DJ (B1:=Fn) (B2:=Hv) x.servers.length (λk=>(((),(k:Int),()),((x.now,x.servers,x.sides,x.master.configs,x.master.activated,x.masterUp,x.lease.epoch,x.lease.holder,x.lease.ends,x.places,()),()),())) (λk=>(((),x.servers,(x.servers.length:Int),(k:Int),()),((x.now,x.servers,x.sides,x.master.configs,x.master.activated,x.masterUp,x.lease.epoch,x.lease.holder,x.lease.ends,x.places,()),()),())) (.inr (((),()),(),())) (.inr (((),()),(),())) (λ_=> .inl ((false,()),(),())) (λ_=> .inl ((false,()),(),()))
  (λ_=>True) (λ_=>True)
  (by simp only[Fn];rw[jZ,if_neg (by omega)])
  (by simp only[Hv];rw[jZ,if_neg (by omega)])
  (λk hk=>by
    have c1: (k:Int)< (x.servers.length:Int):=by omega
    have c2: (0:Int)<=(k:Int):=by omega
    have hsk:=hs2 _ (dq hk);obtain⟨b,v1,v2⟩:=OF x.servers[k] (k:Int) hsk;obtain⟨n,n1,n2⟩:=KB x.servers[k].learned (Fl hsk.2.2);obtain⟨c,d,d1,d2,d3⟩:=MQ x.master x.servers[k].config.epoch hml;have hcfg:=Fr hsk.1
    simp only[Fn,Hv,jZ,C9,if_pos c1,if_pos c2,cO,an hk,ak,v1,v2,n1,n2,kT hm hk,Fg,
     show (⟨x.master.configs,x.master.activated⟩:kB)=x.master from rfl,d1,d2,MN _ hcfg,(GD _ (⟨0,0,[],[]⟩:om) hcfg).2,(GD c x.servers[k].config d3).1,(GD c x.servers[k].config d3).2]
    cases b with
    |false=>exact .inr ⟨rfl,rfl,trivial⟩
    |true=>
     simp only[DE];by_cases h1:x.servers[k].epoch>(x.master.configs.length:Int)
     ·simp only[if_pos h1];exact .inr ⟨trivial,trivial,trivial⟩
     ·simp only[if_neg h1];by_cases h2:n>x.master.activated
      ·simp only[if_pos h2];exact .inr ⟨trivial,trivial,trivial⟩
      ·simp only[if_neg h2];by_cases h3:x.servers[k].config=⟨0,0,[],[]⟩
       ·simp only[if_pos h3];exact .inl ⟨trivial,trivial,trivial⟩
       ·simp only[if_neg h3];cases d with
        |false=>exact .inr ⟨rfl,rfl,trivial⟩
        |true=>
         simp only[DE];by_cases h4:c=x.servers[k].config
         ·simp only[if_pos h4];by_cases h5:x.servers[k].config.epoch>x.master.activated
          ·simp only[if_pos h5];exact .inr ⟨trivial,trivial,trivial⟩
          ·simp only[if_neg h5];exact .inl ⟨trivial,trivial,trivial⟩
         ·simp only[if_neg h4];exact .inr ⟨trivial,trivial,trivial⟩)
 unfold Ff G7;obtain⟨b1,a1,a2⟩:=NL x.sides (Fl hsd);obtain⟨b2,m1,m2⟩:=masterLog x.master (GS hml);obtain⟨b3,l1,l2⟩:=PH x.lease;obtain⟨b4,p1,p2⟩:=NH x.places (Fl hpl);simp only[FZ,Kz,a1,a2,m1,m2,l1,l2,p1,p2,ak,Fg,jZ];cases HP x.now 0 999 with
 |false=>exact⟨_,rfl,rfl⟩
 |true=>
 cases ((x.servers.length:Int)==5) with
 |false=>exact⟨_,rfl,rfl⟩
 |true=>
 cases b1 with
 |false=>exact⟨_,rfl,rfl⟩
 |true=>
 cases b2 with
 |false=>exact⟨_,rfl,rfl⟩
 |true=>
 cases HP x.masterUp 0 3 with
 |false=>cases b3<;>cases b4<;>exact⟨_,rfl,rfl⟩
 |true=>
 cases b3 with
 |false=>exact⟨_,rfl,rfl⟩
 |true=>
 cases b4 with
 |false=>exact⟨_,rfl,rfl⟩
 |true=>
 simp only[DE];by_cases h1:x.lease.epoch>x.master.activated
 ·simp only[if_pos h1];exact⟨_,rfl,rfl⟩
 ·simp only[if_neg h1];rcases fm with ⟨k1,k2,_⟩| ⟨k,_,k1,k2,_⟩
  ·rw[show HA (((),0,()),((x.now,x.servers,x.sides,x.master.configs,x.master.activated,x.masterUp,x.lease.epoch,x.lease.holder,x.lease.ends,x.places,()),()),())=_ from k1,show La (((),x.servers,(x.servers.length:Int),0,()),((x.now,x.servers,x.sides,x.master.configs,x.master.activated,x.masterUp,x.lease.epoch,x.lease.holder,x.lease.ends,x.places,()),()),())=_ from k2];exact⟨_,rfl,rfl⟩
  ·rw[show HA (((),0,()),((x.now,x.servers,x.sides,x.master.configs,x.master.activated,x.masterUp,x.lease.epoch,x.lease.holder,x.lease.ends,x.places,()),()),())=_ from k1,show La (((),x.servers,(x.servers.length:Int),0,()),((x.now,x.servers,x.sides,x.master.configs,x.master.activated,x.masterUp,x.lease.epoch,x.lease.holder,x.lease.ends,x.places,()),()),())=_ from k2];exact⟨_,rfl,rfl⟩
end
section
theorem HV{c:om}(h:GA maxLen c)(hv:Fk c=some (true,())):Oo c.replicas/\Oo c.witnesses/\c.primary∈c.replicas/\1<=c.epoch/\c.epoch<=20/\ ∀x∈c.replicas,x∉c.witnesses:=by
 unfold Fk at hv;simp only[FZ,ak] at hv;cases hw:HP c.epoch 1 20 with
 |false=>rw[hw] at hv;cases hv
 |true=>
  rw[hw] at hv;rcases Pz c.replicas h.1 with ⟨a1,a2,a3⟩| ⟨a1,a2⟩
  ·rcases Pz c.witnesses h.2 with ⟨b1,b2,b3⟩| ⟨b1,b2⟩
   ·simp only[a1,b1,ak,DE,(FI c.replicas c.primary h.1).1,Sv _ _ a3 h.2,jZ] at hv;by_cases hp:c.primary∈c.replicas
    ·rw[if_pos hp] at hv;refine⟨a3,b3,hp,(Fj.1 hw).1,(Fj.1 hw).2,λx hx hxw=> ?_⟩
     have hz: ((((c.replicas.filter λx=>decide (x∈c.witnesses)).length:Nat):Int)==0)=true:=by simpa using hv
     have hz: (c.replicas.filter λx=>decide (x∈c.witnesses)).length=0:=by simp only[beq_iff_eq] at hz;omega
     have:=bh hz;have hm:x∈c.replicas.filter λx=>decide (x∈c.witnesses):=by simp[EZ,hx,hxw]
     rw[this] at hm;cases hm
    ·rw[if_neg hp] at hv;cases hv
   ·simp only[a1,b1,ak,DE,CU] at hv;cases hv
  ·simp only[a1,ak,DE,CU] at hv;cases hv
theorem OB{m:kB}(h:Mx maxLen m)(hv:Fv m=some (true,())): (∀k (hk:k<m.configs.length),Fk m.configs[k] =some (true,())/\m.configs[k].epoch=(k:Int)+1)/\0<=m.activated/\m.activated<=(m.configs.length:Int):=by
 obtain⟨hl,hc⟩:=h
 have fm:=DJ (B1:=FX) (B2:=FX) m.configs.length (λk=>(((),(k:Int),()),((m.configs,m.activated,()),()),())) (λk=>(((),(k:Int),()),((m.configs,m.activated,()),()),())) (.inr (((),(),()),((m.configs,m.activated,()),()),())) (.inr (((),(),()),((m.configs,m.activated,()),()),())) (λ_=> .inl (((),false,()),((m.configs,m.activated,()),()),())) (λ_=> .inl (((),false,()),((m.configs,m.activated,()),()),()))
  (λk=> ∀hk:k<m.configs.length,Fk m.configs[k] =some (true,())/\m.configs[k].epoch=(k:Int)+1) (λ_=>True)
  (by simp only[FX];rw[jZ,if_neg (by omega)])
  (by simp only[FX];rw[jZ,if_neg (by omega)])
  (λk hk=>by
    have c1: (k:Int)< (m.configs.length:Int):=by omega
    have c2: (0:Int)<=(k:Int):=by omega
    obtain⟨b,v1,v2⟩:=HH m.configs[k] (hc _ (dq hk))
    have step:FX (((),(k:Int),()),((m.configs,m.activated,()),()),())=br b (br (m.configs[k].epoch==((k+1:Nat):Int)) (some (.inl (((),((k+1:Nat):Int),()),((m.configs,m.activated,()),()),()))) (some (.inr (.inl (((),false,()),((m.configs,m.activated,()),()),()))))) (some (.inr (.inl (((),false,()),((m.configs,m.activated,()),()),())))):=by simp only[FX,jZ,C9,if_pos c1,if_pos c2,cO,an hk,ak,v1,kT hl hk,Fg]
    rw[step];cases b with
    |false=>exact .inr ⟨rfl,rfl,trivial⟩
    |true=>
     rw[DE,Io];by_cases he:m.configs[k].epoch=((k+1:Nat):Int)
     ·rw[if_pos he];exact .inl ⟨rfl,rfl,λ_=>⟨v1,by omega⟩⟩
     ·rw[if_neg he];exact .inr ⟨rfl,rfl,trivial⟩)
 unfold Fv at hv;rcases fm with ⟨k1,_,k3⟩| ⟨k,_,k1,_,_⟩
 ·rw[show JL (((),0,()),((m.configs,m.activated,()),()),())=_ from k1] at hv;simp only[ak,ET,FZ,af,au,and_true] at hv;exact⟨λk hk=>k3 k hk hk,(Fj.1 hv).1,(Fj.1 hv).2⟩
 ·rw[show JL (((),0,()),((m.configs,m.activated,()),()),())=_ from k1] at hv;cases hv
theorem L4{s:qQ}{id:Int}(h:FN 1048576 s)(hv:Fi s id=some (true,())):0<=s.first/\s.first<=16/\s.log.length<=16/\0<=s.commit/\s.commit<=s.first+(s.log.length:Int)/\F9 s.log=some (true,())/\F9 s.learned=some (true,())/\0<=s.epoch/\s.epoch<=20:=by
 unfold Fi at hv;simp only[FZ,ak,Fg] at hv;cases h1:HP s.version 1 2 with
 |false=>rw[h1] at hv;cases hv
 |true=>
 cases h2:HP s.epoch 0 20 with
 |false=>rw[h1,h2] at hv;cases hv
 |true=>
 rw[h1,h2] at hv;rcases isLog s.log (Fl h.2.1) with ⟨a1,a2,a3⟩| ⟨a1,a2⟩
 case inr=>simp only[a1,ak,DE,CU] at hv;cases hv
 rcases isLog s.learned (Fl h.2.2) with ⟨b1,b2,b3⟩| ⟨b1,b2⟩
 case inr=>simp only[a1,b1,ak,DE,CU] at hv;cases hv
 simp only[a1,b1,ak,DE] at hv;cases hw:HP s.first 0 16 with
 |false=>rw[hw] at hv;cases hv
 |true=>
 have hf:=Fj.1 hw;rw[hw,of (n:=s.first+(s.log.length:Int)) (by omega) (by omega)] at hv;simp only[DE] at hv;cases h3:HP (s.first+(s.log.length:Int)) 0 16 with
 |false=>rw[h3] at hv;cases hv
 |true=>
 cases h4:HP s.commit 0 (s.first+(s.log.length:Int)) with
 |false=>rw[h3,h4] at hv;cases hv
 |true=>
 exact⟨hf.1,hf.2,a3,(Fj.1 h4).1,(Fj.1 h4).2,a1,b1,(Fj.1 h2).1,(Fj.1 h2).2⟩
structure VC (x:qN):Prop where
 len:x.servers.length=5
 ml:Fv x.master=some (true,())
 sides:HS x.sides=some (true,())
 places:F0 x.places=some (true,())
 lease:HL x.lease=some (true,())
 now:0<=x.now/\x.now<=999
 up:0<=x.masterUp/\x.masterUp<=3
 srv: ∀k (hk:k<x.servers.length),Fi x.servers[k] (k:Int)=some (true,())
theorem FJ{x:qN}(h:FF 1048576 x)(hv:Ff x=some (true,())):VC x:=by
 obtain⟨⟨hs1,hs2⟩,hsd,hml,hpl⟩:=h;have hm:=Fl hs1
 have fm:=DJ (B1:=Fn) (B2:=Fn) x.servers.length (λk=>(((),(k:Int),()),((x.now,x.servers,x.sides,x.master.configs,x.master.activated,x.masterUp,x.lease.epoch,x.lease.holder,x.lease.ends,x.places,()),()),())) (λk=>(((),(k:Int),()),((x.now,x.servers,x.sides,x.master.configs,x.master.activated,x.masterUp,x.lease.epoch,x.lease.holder,x.lease.ends,x.places,()),()),())) (.inr (((),()),(),())) (.inr (((),()),(),())) (λ_=> .inl ((false,()),(),())) (λ_=> .inl ((false,()),(),()))
  (λk=> ∀hk:k<x.servers.length,Fi x.servers[k] (k:Int)=some (true,())) (λ_=>True)
  (by simp only[Fn];rw[jZ,if_neg (by omega)])
  (by simp only[Fn];rw[jZ,if_neg (by omega)])
  (λk hk=>by
    have c1: (k:Int)< (x.servers.length:Int):=by omega
    have c2: (0:Int)<=(k:Int):=by omega
    have hsk:=hs2 _ (dq hk);obtain⟨b,v1,v2⟩:=OF x.servers[k] (k:Int) hsk;obtain⟨n,n1,n2⟩:=KB x.servers[k].learned (Fl hsk.2.2);obtain⟨c,d,d1,d2,d3⟩:=MQ x.master x.servers[k].config.epoch hml;have hcfg:=Fr hsk.1
    have step:Fn (((),(k:Int),()),((x.now,x.servers,x.sides,x.master.configs,x.master.activated,x.masterUp,x.lease.epoch,x.lease.holder,x.lease.ends,x.places,()),()),())=some (.inr (.inl ((false,()),(),())))\/(b=true/\Fn (((),(k:Int),()),((x.now,x.servers,x.sides,x.master.configs,x.master.activated,x.masterUp,x.lease.epoch,x.lease.holder,x.lease.ends,x.places,()),()),())=some (.inl (((),((k+1:Nat):Int),()),((x.now,x.servers,x.sides,x.master.configs,x.master.activated,x.masterUp,x.lease.epoch,x.lease.holder,x.lease.ends,x.places,()),()),()))):=by
     simp only[Fn,jZ,C9,if_pos c1,if_pos c2,cO,an hk,ak,v1,n1,kT hm hk,Fg,
      show (⟨x.master.configs,x.master.activated⟩:kB)=x.master from rfl,d1,MN _ hcfg,(GD c x.servers[k].config d3).1]
     cases b with
     |false=>exact .inl rfl
     |true=>
      simp only[DE]
      repeat' split
      all_goals first |exact .inl trivial|exact .inr ⟨trivial,trivial⟩| (cases d<;>first |exact .inl rfl| (simp only[DE];repeat' split)<;>first |exact .inl trivial|exact .inr ⟨trivial,trivial⟩)
    rcases step with h1| ⟨rfl,h1⟩
    ·rw[h1];exact .inr ⟨rfl,rfl,trivial⟩
    ·rw[h1];exact .inl ⟨rfl,rfl,λ_=>v1⟩)
 unfold Ff at hv;obtain⟨b1,a1,a2⟩:=NL x.sides (Fl hsd);obtain⟨b2,m1,m2⟩:=masterLog x.master (GS hml);obtain⟨b3,l1,l2⟩:=PH x.lease;obtain⟨b4,p1,p2⟩:=NH x.places (Fl hpl);simp only[FZ,a1,m1,l1,p1,ak,Fg,jZ] at hv;cases h1:HP x.now 0 999 with
 |false=>rw[h1] at hv;cases hv
 |true=>
 cases h2: ((x.servers.length:Int)==5) with
 |false=>rw[h1,h2] at hv;cases hv
 |true=>
 cases b1 with
 |false=>rw[h1,h2] at hv;cases hv
 |true=>
 cases b2 with
 |false=>rw[h1,h2] at hv;cases hv
 |true=>
 cases h3:HP x.masterUp 0 3 with
 |false=>rw[h1,h2,h3] at hv;cases hv
 |true=>
 cases b3 with
 |false=>rw[h1,h2,h3] at hv;cases hv
 |true=>
 cases b4 with
 |false=>rw[h1,h2,h3] at hv;cases hv
 |true=>
 rw[h1,h2,h3] at hv;simp only[DE] at hv;by_cases h4:x.lease.epoch>x.master.activated
 ·rw[if_pos h4] at hv;cases hv
 ·rw[if_neg h4] at hv;rcases fm with ⟨k1,_,k3⟩| ⟨k,_,k1,_,_⟩
  ·refine⟨?_,m1,a1,p1,l1,Fj.1 h1,Fj.1 h3,λk hk=>k3 k hk hk⟩;simp only[beq_iff_eq] at h2;omega
  ·rw[show HA (((),0,()),((x.now,x.servers,x.sides,x.master.configs,x.master.activated,x.masterUp,x.lease.epoch,x.lease.holder,x.lease.ends,x.places,()),()),())=_ from k1] at hv;cases hv
end
section
theorem abc(l:List sf)(hl:l.length<=maxLen):Ef (FO l) (Jc l):=by
 have fm:=DJ (B1:=Hy) (B2:=Fw) l.length (λk=>((l,(k:Int),()),(),())) (λk=>((l,(),(l.length:Int),(k:Int),()),(),())) (.inr (((),()),(),())) (.inr (((),()),(),())) (λ_=> .inl ((true,()),(),())) (λk=> .inl (((k:Int),()),(),()))
  (λ_=>True) (λ_=>True)
  (by simp only[Hy];rw[jZ,if_neg (by omega)])
  (by simp only[Fw];rw[jZ,if_neg (by omega)])
  (λk hk=>by
    have c1: (k:Int)< (l.length:Int):=by omega
    have c2: (0:Int)<=(k:Int):=by omega
    simp only[Hy,Fw,JZ,MI,IV,jZ,C9,if_pos c1,if_pos c2,cO,an hk,ak,kT hl hk];cases (l[k].op.kind==2) with
    |false=>exact .inl ⟨rfl,rfl,trivial⟩
    |true=>exact .inr ⟨rfl,rfl,trivial⟩)
 unfold FO Jc F3 Ge;rcases fm with ⟨k1,k2,_⟩| ⟨k,_,k1,k2,_⟩
 ·rw[show Mt ((l,0,()),(),())=_ from k1,show GJ ((l,(),(l.length:Int),0,()),(),())=_ from k2];exact⟨_,rfl,rfl⟩
 ·rw[show Mt ((l,0,()),(),())=_ from k1,show GJ ((l,(),(l.length:Int),0,()),(),())=_ from k2];simp only[ak,EO];rw[decide_eq_true (by omega)];exact⟨_,rfl,rfl⟩
end
section
section
variable {α:Type}
def M2(w:α->Int):List α->Int
 | [] =>0
 |x::l=>w x+M2 w l
theorem Xe(w:α->Int)(a b:List α):M2 w (a++b)=M2 w a+M2 w b:=by
 induction a with
 |nil=>simp[M2]
 |cons x a ih=>simp only[cH,M2,ih];omega
def Ko(l:List α):Int:=(l.length:Int)
end
def S7(c:om):Int:=Ko c.replicas+Ko c.witnesses
def Py(s:qQ):Int:=S7 s.config+Ko s.log+Ko s.learned
def tMl(m:kB):Int:=Ko m.configs+M2 S7 m.configs
def tSs(l:List qQ):Int:=Ko l+M2 Py l
def Z2(c:qN):Int:=tSs c.servers+Ko c.sides+tMl c.master+Ko c.places
theorem acp{α:Type}(l:List α):0<=Ko l:=by unfold Ko;omega
theorem Ue(c:om):0<=S7 c:=by unfold S7 Ko;omega
theorem acm(s:qQ):0<=Py s:=by have:=Ue s.config;unfold Py Ko;omega
end
section

end
section
theorem RL{n c:Nat}(h:n<=1048577)(hc:c<=1000):n*c<=2 ^ 40:=by
 have h1:n*c<=1048577*1000:=Nat.mul_le_mul h hc;have h2: (2:Nat) ^ 40=1099511627776:=by decide
 omega
theorem MF(c:om)(h:GA 1048576 c):Ii c=some (c,())/\GF c=some (c,()):=by have a:=h.1;have b:=h.2;unfold Ii GF;simp only[bK,C9,if_pos (RL (EN a) (show 8<=1000 by decide)),if_pos (RL (EN b) (show 8<=1000 by decide))];exact⟨trivial,trivial⟩
theorem JX(l:List sf)(h:l.length<=1048576):GM l=some (l,())/\Gb l=some (l,()):=by unfold GM Gb;simp only[bK,C9,if_pos (RL (EN h) (show 56<=1000 by decide))];exact⟨trivial,trivial⟩
theorem abH(l:List Int)(h:l.length<=1048576):Jy l=some (l,()):=by unfold Jy;simp only[C9,if_pos (RL (EN h) (show 8<=1000 by decide))]
theorem X2(l:List vB)(h:l.length<=1048576):LI l=some (l,()):=by unfold LI;simp only[C9,if_pos (RL (EN h) (show 24<=1000 by decide))]
theorem Ov(s:qQ)(h:FN 1048576 s):Iy s=some (s,())/\G1 s=some (s,()):=by unfold Iy G1;simp only[(MF _ h.1).1,(MF _ h.1).2,(JX _ h.2.1).1,(JX _ h.2.1).2,(JX _ h.2.2).1,(JX _ h.2.2).2,ak];exact⟨trivial,trivial⟩
theorem G8{α:Type}{l:List α}{k:Nat}{x:α}(h:l[k]? =some x):l.take (k+1)=l.take k++ [x] :=by rw[EM,h];rfl
theorem NG{α:Type}(l:List α)(k:Nat)(x:α)(h:l.length<=1048576): (l.take k++ [x]).length<=1048577:=by rw[be,ci,cn];omega
theorem PE(m:kB)(h:Mx 1048576 m):Mi m=some (m,())/\Jv m=some (m,()):=by
 obtain⟨hl,hc⟩:=h
 have k1:=tC (B:=Ld) m.configs (λk (b:List om)=>(((),(),(),(k:Int),()),((m.configs,m.activated,()),((),0,()),((),m.activated,()),()),(b,()))) (λk b=>b=m.configs.take k) (λ_ _ _=>(((),(),()),(((),0,()),((),m.activated,()),()),(m.configs,())))
  (λb hb=>by simp only[Ld];rw[jZ,if_neg (by omega),hb,EJ])
  (λk b c hx hb=>by
    have hk:=yw hx;have c1: (k:Int)< (m.configs.length:Int):=by omega
    have c2: (0:Int)<=(k:Int):=by omega
    subst hb;refine .inl ⟨m.configs.take (k+1),?_,rfl,rfl⟩;simp only[Ld,jZ,C9,if_pos c1,if_pos c2,cO,hx,ak,(MF c (hc c (ay hx))).1,kT (Fl hl) hk,if_pos (RL (NG m.configs k c hl) (show 64<=1000 by decide)),G8 hx])
  0 [] (bH _) rfl
 have k2:=tC (B:=I6) m.configs (λk (b:List om)=>(((),(),m.configs,(m.configs.length:Int),(k:Int),()),(((),0,()),((),m.activated,()),()),(b,()))) (λk b=>b=m.configs.take k) (λ_ _ _=>(((),(),()),(((),0,()),((),m.activated,()),()),(m.configs,())))
  (λb hb=>by simp only[I6];rw[jZ,if_neg (by omega),hb,EJ])
  (λk b c hx hb=>by
    have hk:=yw hx;have c1: (k:Int)< (m.configs.length:Int):=by omega
    have c2: (0:Int)<=(k:Int):=by omega
    subst hb;refine .inl ⟨m.configs.take (k+1),?_,rfl,rfl⟩;simp only[I6,jZ,C9,if_pos c1,if_pos c2,cO,hx,ak,(MF c (hc c (ay hx))).2,kT (Fl hl) hk,if_pos (RL (NG m.configs k c hl) (show 64<=1000 by decide)),G8 hx])
  0 [] (bH _) rfl
 unfold Mi Jv;rw[show Ti (((),(),(),0,()),((m.configs,m.activated,()),((),0,()),((),m.activated,()),()),(([]:List om),()))=_ from k1,show Qw (((),(),m.configs,(m.configs.length:Int),0,()),(((),0,()),((),m.activated,()),()),(([]:List om),()))=_ from k2];exact⟨rfl,rfl⟩
theorem GV(x:qN)(ok:FF 1048576 x):FS x=some (x,())/\Gl x=some (x,()):=by
 obtain⟨⟨hl,hs⟩,hsd,hml,hpl⟩:=ok
 have k1:=tC (B:=Le) x.servers (λk (b:List qQ)=>(((),(),(),(k:Int),()),((x.now,x.servers,x.sides,x.master.configs,x.master.activated,x.masterUp,x.lease.epoch,x.lease.holder,x.lease.ends,x.places,()),(0,(),(),(),0,0,0,0,0,(),()),(x.now,(),x.sides,x.master.configs,x.master.activated,x.masterUp,x.lease.epoch,x.lease.holder,x.lease.ends,x.places,()),()),(b,()))) (λk b=>b=x.servers.take k) (λ_ _ _=>(((),(),(),()),((x.now,x.servers,x.sides,x.master.configs,x.master.activated,x.masterUp,x.lease.epoch,x.lease.holder,x.lease.ends,x.places,()),(0,(),(),(),0,0,0,0,0,(),()),(x.now,(),x.sides,x.master.configs,x.master.activated,x.masterUp,x.lease.epoch,x.lease.holder,x.lease.ends,x.places,()),()),(x.servers,())))
  (λb hb=>by simp only[Le];rw[jZ,if_neg (by omega),hb,EJ])
  (λk b c hx hb=>by
    have hk:=yw hx;have c1: (k:Int)< (x.servers.length:Int):=by omega
    have c2: (0:Int)<=(k:Int):=by omega
    subst hb;refine .inl ⟨x.servers.take (k+1),?_,rfl,rfl⟩;simp only[Le,jZ,C9,if_pos c1,if_pos c2,cO,hx,ak,(Ov c (hs c (ay hx))).1,kT (Fl hl) hk,if_pos (RL (NG x.servers k c hl) (show 152<=1000 by decide)),G8 hx])
  0 [] (bH _) rfl
 have k2:=tC (B:=Ir) x.servers (λk (b:List qQ)=>(((),(),(),x.servers,(x.servers.length:Int),(k:Int),()),((x.now,x.servers,x.sides,x.master.configs,x.master.activated,x.masterUp,x.lease.epoch,x.lease.holder,x.lease.ends,x.places,()),(0,(),(),(),0,0,0,0,0,(),()),(x.now,(),x.sides,x.master.configs,x.master.activated,x.masterUp,x.lease.epoch,x.lease.holder,x.lease.ends,x.places,()),()),(b,()))) (λk b=>b=x.servers.take k) (λ_ _ _=>(((),(),(),()),((x.now,x.servers,x.sides,x.master.configs,x.master.activated,x.masterUp,x.lease.epoch,x.lease.holder,x.lease.ends,x.places,()),(0,(),(),(),0,0,0,0,0,(),()),(x.now,(),x.sides,x.master.configs,x.master.activated,x.masterUp,x.lease.epoch,x.lease.holder,x.lease.ends,x.places,()),()),(x.servers,())))
  (λb hb=>by simp only[Ir];rw[jZ,if_neg (by omega),hb,EJ])
  (λk b c hx hb=>by
    have hk:=yw hx;have c1: (k:Int)< (x.servers.length:Int):=by omega
    have c2: (0:Int)<=(k:Int):=by omega
    subst hb;refine .inl ⟨x.servers.take (k+1),?_,rfl,rfl⟩;simp only[Ir,jZ,C9,if_pos c1,if_pos c2,cO,hx,ak,(Ov c (hs c (ay hx))).2,kT (Fl hl) hk,if_pos (RL (NG x.servers k c hl) (show 152<=1000 by decide)),G8 hx])
  0 [] (bH _) rfl
 unfold FS Gl
 rw[show Tj (((),(),(),0,()),((x.now,x.servers,x.sides,x.master.configs,x.master.activated,x.masterUp,x.lease.epoch,x.lease.holder,x.lease.ends,x.places,()),(0,(),(),(),0,0,0,0,0,(),()),(x.now,(),x.sides,x.master.configs,x.master.activated,x.masterUp,x.lease.epoch,x.lease.holder,x.lease.ends,x.places,()),()),(([]:List qQ),()))=_ from k1,
  show P0 (((),(),(),x.servers,(x.servers.length:Int),0,()),((x.now,x.servers,x.sides,x.master.configs,x.master.activated,x.masterUp,x.lease.epoch,x.lease.holder,x.lease.ends,x.places,()),(0,(),(),(),0,0,0,0,0,(),()),(x.now,(),x.sides,x.master.configs,x.master.activated,x.masterUp,x.lease.epoch,x.lease.holder,x.lease.ends,x.places,()),()),(([]:List qQ),()))=_ from k2]
 have em: (⟨x.master.configs,x.master.activated⟩:kB)=x.master:=rfl;simp only[ak,bK,em,(PE _ hml).1,(PE _ hml).2,abH _ hsd,X2 _ hpl,C9,if_pos (RL (EN hsd) (show 8<=1000 by decide)),if_pos (RL (EN hpl) (show 24<=1000 by decide))];exact⟨trivial,trivial⟩
theorem Um(x:qN)(id:Int)(ok:FF 1048576 x): ∃b,IA x id=some (b,())/\FK x id=some (b,())/\(b=true->Ff x=some (true,())/\0<=id/\id<5):=by
 obtain⟨v,v1,v2⟩:=FR x ok;unfold IA FK;simp only[v1,v2,ak,FZ,Kz];cases v with
 |false=>exact⟨false,rfl,rfl,nofun⟩
 |true=>refine⟨HP id 0 4,rfl,rfl,λh=>⟨rfl,?_⟩⟩;have:=Fj.1 h;omega
end
section
theorem abL(n:Int)(h0:0<=n)(h1:n<=1000000):Kf n=some ([],()):=by
 unfold Kf;have e1:IntKind.wrap .i64 ((0:Int)-0)=0:=of (by decide) (by decide);have e2:IntKind.wrap .i64 (n-0)=n:=by rw[of (by omega) (by omega)];omega
 simp only[e1,e2,jZ,if_neg (show ¬n<0 by omega)];by_cases h:n>0
 ·have e: (2:Int) ^ 40=1099511627776:=by decide
  have c1:0<n/\n*((8:Nat):Int)<=2 ^ 40:=⟨h,by omega⟩
  have c2: (0:Int)<=0/\(0:Int)<=0/\(0:Int)<=((n.toNat:Nat):Int):=by omega
  simp only[if_pos h,C9,if_pos c1,if_pos c2,and_self,if_true];simp
 ·simp only[if_neg h]
theorem Zw(l:List (List Int))(hl:l.length<=10)(h: ∀a∈l,a.length<=1000):KQ l=some (l.flatten,()):=by
 have hm:l.length<=maxLen:=by unfold maxLen;omega
 have tot: ∀k,(l.take k).flatten.length<=k*1000:=by
  intro k
  induction k with
  |zero=>simp
  |succ k ih=>
   cases hx:l[k]? with
   |none=>
    have hle:l.length<=k:=by simpa using hx
    rw[bS hle] at ih;rw[bS (EN hle)];exact ba ih (bg _ (cM k))
   |some a=>rw[G8 hx,EY,be];have:=h a (ay hx);simp only[List.flatten_cons,List.flatten_nil,bI];rw[Nat.succ_mul];exact Nat.add_le_add ih this
 have k1:=tC (B:=It) l (λk (n:Int)=>((l,n,l,(l.length:Int),(k:Int),()),(),())) (λk n=>n=((l.take k).flatten.length:Int)) (λ_ _ _=>((l,(l.flatten.length:Int),()),(),()))
  (λn hn=>by simp only[It];rw[jZ,if_neg (by omega),hn,EJ])
  (λk n a hx hn=>by
    have hk:=yw hx;have c1: (k:Int)< (l.length:Int):=by omega
    have c2: (0:Int)<=(k:Int):=by omega
    have t:=tot k;have ha:=h a (ay hx);have hk10:k*1000<=10000:=by omega
    refine .inl ⟨n+(a.length:Int),?_,?_,rfl⟩
    ·simp only[It,jZ,C9,if_pos c1,if_pos c2,cO,hx,ak,kT hm hk,of (n:=n+(a.length:Int)) (by omega) (by omega),if_neg (show ¬n+(a.length:Int)<0 by omega)]
    ·rw[G8 hx,EY,be,hn];simp)
  0 0 (bH _) (by simp)
 have t:=tot l.length;rw[EJ] at t
 have k2:=tC (B:=Ib) l (λk (b:List Int)=>(((),l,(l.length:Int),(k:Int),()),(),(b,()))) (λk b=>b=(l.take k).flatten) (λ_ _ _=>(((),()),(),(l.flatten,())))
  (λb hb=>by simp only[Ib];rw[jZ,if_neg (by omega),hb,EJ])
  (λk b a hx hb=>by
    have hk:=yw hx;have c1: (k:Int)< (l.length:Int):=by omega
    have c2: (0:Int)<=(k:Int):=by omega
    have t:=tot k;have ha:=h a (ay hx);have hs: (b++a).length*8<=2 ^ 40:=RL (by rw[hb,be];omega) (by decide);refine .inl ⟨b++a,?_,?_,rfl⟩
    ·simp only[Ib,jZ,C9,if_pos c1,if_pos c2,cO,hx,ak,kT hm hk,if_pos hs]
    ·rw[G8 hx,EY,hb];simp)
  0 [] (bH _) (by simp)
 unfold KQ;rw[show P1 ((l,0,l,(l.length:Int),0,()),(),())=_ from k1];simp only[ak,abL _ (show (0:Int)<=(l.flatten.length:Int) by omega) (by omega)];rw[show Pe (((),l,(l.length:Int),0,()),(),([],()))=_ from k2];rfl
end
section
def SS(l:List Int):Prop:=l.Pairwise (· < ·)
theorem SS.uniq: ∀ {a b:List Int},SS a->SS b->(∀y,y∈a↔y∈b)->a=b
 | [],[],_,_,_=>rfl
 | [],b::l,_,_,h=>by have:=(h b).2 aG;cases this
 |a::l,[],_,_,h=>by have:=(h a).1 aG;cases this
 |a::l,b::m,ha,hb,h=>by
  obtain⟨a1,a2⟩:=EU.1 ha;obtain⟨b1,b2⟩:=EU.1 hb
  have hab:a=b:=by
   rcases aX.1 ((h a).1 aG) with e|e
   ·exact e
   ·rcases aX.1 ((h b).2 aG) with f|f
    ·exact f.symm
    ·have:=b1 a e;have:=a1 b f;omega
  subst hab
  have hlm:l=m:=SS.uniq a2 b2 λy=>by
   constructor
   ·intro hy;rcases aX.1 ((h y).1 (aK _ hy)) with e|e
    ·have:=a1 y hy;omega
    ·exact e
   ·intro hy;rcases aX.1 ((h y).2 (aK _ hy)) with e|e
    ·have:=b1 y hy;omega
    ·exact e
  rw[hlm]
theorem W7{A B:List Int}{x:Int}(h:SS (A++B))(ha: ∀y∈A,y<x)(hb: ∀y∈B,x<y):SS (A++ [x] ++B):=by
 obtain⟨h1,h2,h3⟩:=ES.1 h;refine ES.2 ⟨ES.2 ⟨h1,EX _ _,λa h b hb'=> ?_⟩,h2,λa h b hb'=> ?_⟩
 ·rw[aJ.1 hb'];exact ha a h
 ·rcases bi.1 h with h|h
  ·exact h3 a h b hb'
  ·rw[aJ.1 h];exact hb b hb'
theorem ab8(l:List Int)(x:Int)(hl:l.length<=1000)(hs:SS l): ∃r,I2 l x=some (r,())/\SS r/\(∀y,y∈r↔y=x\/y∈l)/\r.length<=l.length+1/\(x∉l->r.length=l.length+1):=by
 have hm:l.length<=maxLen:=by unfold maxLen;omega
 rcases O9 (B:=Kt) l.length (λk=>((l,x,(k:Int),()),(),())) ((l,x,(l.length:Int),()),(),()) (λk=>((l,x,(k:Int),()),(),())) (λk=>match l[k]? with |some y=> !decide (y<x)|none=>false)
  (by simp only[Kt];rw[jZ,if_neg (by omega)])
  (λk hk=>by
    have c1: (k:Int)< (l.length:Int):=by omega
    have c2: (0:Int)<=(k:Int):=by omega
    simp only[Kt,jZ,C9,if_pos c1,if_pos c2,cO,an hk,ak,kT hm hk];by_cases h:l[k]<x<;>simp[h]) with ⟨k1,k2⟩| ⟨i,hi,k1,k2,k3⟩
 ·have all: ∀y∈l,y<x:=by
   intro y hy;obtain⟨k,hk,rfl⟩:=aQ hy;have:=k2 k hk;rw[an hk] at this;simpa using this
  refine⟨l++ [x],WV l x hl all,?_,?_,?_,λ_=>by simp⟩
  ·have:=W7 (A:=l) (B:=[]) (x:=x) (by simpa using hs) all (by simp);simpa using this
  ·intro y;simp[or_comm]
  ·simp
 ·rw[an hi] at k2;simp only[bT,decide_eq_false_iff_not,Int.not_lt] at k2
  have lt: ∀y∈l.take i,y<x:=by
   intro y hy;obtain⟨j,hj,rfl⟩:=aQ hy;have hj':j<i:=by simp at hj;omega
   have:=k3 j hj';rw[an (by omega)] at this;rw[E0];simpa using this
  have hd:l.drop i=l[i]::l.drop (i+1):=co hi;have hsp:l.take i++l.drop i=l:=dx i l
  have ge: ∀y∈l.drop i,l[i] <=y:=by
   intro y hy;rw[hd] at hy;rcases aX.1 hy with rfl|hy
   ·exact c9 _
   ·have h2:SS (l.drop i):=List.Pairwise.sublist (List.drop_sublist i l) hs;rw[hd] at h2;exact Int.le_of_lt ((EU.1 h2).1 y hy)
  unfold I2;rw[show SK ((l,x,0,()),(),())=_ from k1];have c1: (i:Int)< (l.length:Int):=by omega
  have c2: (0:Int)<=(i:Int):=by omega
  simp only[ak,jZ,Io,C9,if_pos c1,if_pos c2,cO,an hi,bK];by_cases he:l[i] =x
  ·simp only[if_pos he,if_pos (JB (show l.length<=1048576 by omega))];refine⟨l,rfl,hs,λy=>⟨.inr,?_⟩,by omega,λh=>absurd (by rw[<-he];exact dq hi) h⟩
   rintro (rfl|h)
   ·rw[<-he];exact dq hi
   ·exact h
  ·have d1: (0:Int)<=0/\(0:Int)<=(i:Int)/\(i:Int)<=(l.length:Int):=by omega
   have d2: (0:Int)<=(i:Int)/\(i:Int)<=(l.length:Int)/\(l.length:Int)<=(l.length:Int):=by omega
   have e1: (l.drop i).take (l.length-i)=l.drop i:=bS (by simp);simp only[if_neg he,if_pos d1,if_pos d2,Fc,cF,EW,e1];rw[if_pos (JB (by simp;omega)),if_pos (JB (by simp;omega)),if_pos (JB (by simp;omega))];refine⟨_,rfl,W7 (by rw[hsp];exact hs) lt (λy hy=> ?_),λy=> ?_,by simp;omega,λ_=>by simp;omega⟩
   ·have:=ge y hy;omega
   ·conv=>rhs;rw[<-hsp]
    simp only[bi,aJ];constructor
    ·rintro ((h|h)|h)
     ·exact .inr (.inl h)
     ·exact .inl h
     ·exact .inr (.inr h)
    ·rintro (h|h|h)
     ·exact .inl (.inr h)
     ·exact .inl (.inl h)
     ·exact .inr h
theorem adg{β:Type}(l:List Int)(hl:l.length<=500){mk:Nat->List Int->β}{ε:Type}{B:β->Option (β⊕ε)}{E:List Int->ε}
  (h0: ∀v,B (mk l.length v)=some (.inr (E v)))
  (h1: ∀k v x,l[k]? =some x->B (mk k v)=(I2 v x).bind λy=>some (.inl (mk (k+1) y.1)))
  (v:List Int) (hv:SS v) (hvl:v.length<=500): ∃r,md B (mk 0 v)=some (E r)/\SS r/\(∀y,y∈r↔y∈v\/y∈l)/\r.length<=v.length+l.length:=by
 have go: ∀ (n k:Nat) (v:List Int),k+n=l.length->SS v->v.length+n<=1000-> ∃r,md B (mk k v)=some (E r)/\SS r/\(∀y,y∈r↔y∈v\/y∈l.drop k)/\r.length<=v.length+n:=by
  intro n
  induction n with
  |zero=>
   intro k v hk hv _;have :k=l.length:=by omega
   subst this;exact⟨v,me (h0 v),hv,by simp,by omega⟩
  |succ n ih=>
   intro k v hk hv hn;have hlt:k<l.length:=by omega
   obtain⟨r,r1,r2,r3,r4,_⟩:=ab8 v l[k] (by omega) hv;obtain⟨s,s1,s2,s3,s4⟩:=ih (k+1) r (by omega) r2 (by omega);refine⟨s,?_,s2,λy=> ?_,by omega⟩
   ·rw[tD (by rw[h1 k v _ (an hlt),r1];rfl)];exact s1
   ·rw[s3,r3,co hlt,aX];constructor
    ·rintro ((h|h)|h)
     ·exact .inr (.inl h)
     ·exact .inl h
     ·exact .inr (.inr h)
    ·rintro (h|h|h)
     ·exact .inl (.inr h)
     ·exact .inl (.inl h)
     ·exact .inr h
 obtain⟨r,h1,h2,h3,h4⟩:=go l.length 0 v (by omega) hv (by omega);rw[cF] at h3;exact⟨r,h1,h2,h3,h4⟩
theorem YO(a b:List Int)(ha:a.length<=100)(hb:b.length<=100): ∃r,Jg a b=some (r,())/\SS r/\(∀y,y∈r↔y∈a\/y∈b)/\r.length<=a.length+b.length:=by
 have am:a.length<=maxLen:=by unfold maxLen;omega
 have bm:b.length<=maxLen:=by unfold maxLen;omega
 obtain⟨r,r1,r2,r3,r4⟩:=adg (B:=H9) (mk:=λk v=>((a,b,(),(k:Int),()),(),(v,()))) (E:=λv=>((b,(),()),(),(v,()))) a (by omega)
  (λv=>by simp only[H9];rw[jZ,if_neg (by omega)])
  (λk v x hx=>by
    have hk:=yw hx;have c1: (k:Int)< (a.length:Int):=by omega
    have c2: (0:Int)<=(k:Int):=by omega
    simp only[H9,jZ,C9,if_pos c1,if_pos c2,cO,hx,ak,kT am hk])
  [] List.Pairwise.nil (bH _)
 obtain⟨s,s1,s2,s3,s4⟩:=adg (B:=Ia) (mk:=λk v=>((b,(),(k:Int),()),(),(v,()))) (E:=λv=>(((),()),(),(v,()))) b (by omega)
  (λv=>by simp only[Ia];rw[jZ,if_neg (by omega)])
  (λk v x hx=>by
    have hk:=yw hx;have c1: (k:Int)< (b.length:Int):=by omega
    have c2: (0:Int)<=(k:Int):=by omega
    simp only[Ia,jZ,C9,if_pos c1,if_pos c2,cO,hx,ak,kT bm hk])
  r r2 (by simp at r4;omega)
 unfold Jg;rw[show Pc ((a,b,(),0,()),(),([],()))=_ from r1];simp only[ak];rw[show Pd ((b,(),0,()),(),(r,()))=_ from s1];refine⟨s,rfl,s2,λy=> ?_,by simp at r4;omega⟩;rw[s3,r3];simp
def SL(l:List Int):Prop:=l.Pairwise (· <= ·)
theorem aci(A R:List Int)(a x:Int): ((A++a::x::R).set (A.length+1) a).set A.length x=A++x::a::R:=by
 induction A with
 |nil=>rfl
 |cons b A ih=>simp only[cH,bD,List.set_cons_succ,ih]
theorem aaq(D:List Int)(n k:Int)(x:Int)(hn:n<=12): ∀ (A C:List Int),A.length+C.length+D.length<=12->SL (A++C)->(∀c∈C,x<c)->
  ∃Q,Gu (((),0,n,k,(A.length:Int),()),(),(A++x:: (C++D),()))=some (((),0,n,k,()),(),(Q++D,()))/\SL Q/\Q.Perm (x:: (A++C)):=by
 intro A
 induction h:A.length generalizing A with
 |zero=>intro C hl hs hc;have :A= [] :=dg.1 h;subst this;refine⟨x::C,me ?_,EU.2 ⟨λc h=>Int.le_of_lt (hc c h),hs⟩,by simp⟩;simp only[Fz,jZ];rw[if_neg (by simp)];rfl
 |succ m ih=>
  intro C hl hs hc;obtain⟨A',a,rfl⟩: ∃A' a,A=A'++ [a] :=⟨A.dropLast,A.getLast (by intro e;subst e;simp at h),(List.dropLast_concat_getLast _).symm⟩
  have hm:A'.length=m:=by simpa using h
  have c1: ((m+1:Nat):Int)>0:=by omega
  have hlen: ((A'++ [a])++x:: (C++D)).length=m+2+C.length+D.length:=by simp;omega
  have c2: (0:Int)<=((m+1:Nat):Int)/\((m+1:Nat):Int)< (((A'++ [a])++x:: (C++D)).length:Int):=by rw[hlen];omega
  have c3: (0:Int)<=((m+1-1:Nat):Int)/\((m+1-1:Nat):Int)< (((A'++ [a])++x:: (C++D)).length:Int):=by rw[hlen];omega
  have e1: ((A'++ [a])++x:: (C++D))[m+1]? =some x:=by rw[<-h,aV (by simp)];simp
  have e2: ((A'++ [a])++x:: (C++D))[m+1-1]? =some a:=by rw[aU (by simp;omega),aV (by omega)];simp[hm]
  have pw:IntKind.wrap .i64 (((m+1:Nat):Int)-1)=((m+1-1:Nat):Int):=CQ (by omega) (by unfold maxLen;omega)
  have less:Jt x a=some (decide (x<a),()):=by unfold Jt JQ;simp only[beq_self_eq_true,dk,ak,CU]
  by_cases hxa:x<a
  ·have hsw: (((A'++ [a])++x:: (C++D)).set (m+1) a).set (m+1-1) x=A'++x:: ((a::C)++D):=by
    have:=aci A' (C++D) a x;rw[hm] at this;simpa using this
   have c5:m+1-1< (((A'++ [a])++x:: (C++D)).set (m+1) a).length:=by rw[EL,hlen];omega
   have hz:=an c5
   obtain⟨Q,q1,q2,q3⟩:=ih A' hm (a::C) (by simp at hl ⊢;omega) (by simpa using hs) (λc h=>by
    rcases aX.1 h with rfl|h
    ·exact hxa
    ·exact hc c h)
   refine⟨Q,?_,q2,q3.trans (by simp)⟩;unfold Gu at q1 ⊢;rw[<-q1];refine tD ?_;simp only[Fz,jZ,C9,if_pos c1,if_pos c2,pw,if_pos c3,cO,e1,e2,ak,less,if_pos hxa,hz,hsw];rfl
  ·have hall: ∀y∈A',y<=a:=by
    intro y hy;have h1:SL (A'++ [a]):=(ES.1 hs).1;exact (ES.1 h1).2.2 y hy a (by simp)
   refine⟨(A'++ [a])++x::C,?_,?_,?_⟩
   ·refine me ?_;rw[show (A'++ [a])++x::C++D=(A'++ [a])++x:: (C++D) by simp];simp only[Fz,jZ,C9,if_pos c1,if_pos c2,pw,if_pos c3,cO,e1,e2,ak,less,if_neg hxa]
   ·obtain⟨p1,p2,p3⟩:=ES.1 hs;refine ES.2 ⟨p1,EU.2 ⟨λc h=>Int.le_of_lt (hc c h),p2⟩,λy hy z hz=> ?_⟩
    have hyx:y<=x:=by
     rcases bi.1 hy with h|h
     ·have:=hall y h;omega
     ·rw[aJ.1 h];omega
    rcases aX.1 hz with rfl|hz
    ·exact hyx
    ·have:=hc z hz;omega
   ·exact List.perm_middle
theorem Vl(l:List Int)(hl:l.length<=12): ∃r,FD l 0 (l.length:Int)=some (r,())/\SL r/\r.Perm l:=by
 have hm:l.length<=maxLen:=by unfold maxLen;omega
 unfold FD;cases l with
 |nil=>
  refine⟨[],?_,List.Pairwise.nil,List.Perm.refl _⟩
  rw[show Gt (((),0,(([]:List Int).length:Int),IntKind.wrap .i64 (0+1),()),(),([],()))=some ((()),(),([],())) from me (by rw[show IntKind.wrap .i64 ((0:Int)+1)=((1:Nat):Int) from by rw[of (by omega) (by omega)];rfl];simp only[Fp,jZ];rw[if_neg (by simp)])]
  rfl
 |cons b l=>
  generalize hL:b::l=L at hl hm;have hpos:0<L.length:=by rw[<-hL];simp
  have outer:=AF (B:=Fp) (λs=> ∃ (k:Nat) (Q:List Int),0<k/\k<=L.length/\Q.length=k/\SL Q/\Q.Perm (L.take k)/\s=(((),0,(L.length:Int),(k:Int),()),(),(Q++L.drop k,()))) (λs=>L.length-s.1.2.2.2.1.toNat) (λe=> ∃Q:List Int,SL Q/\Q.Perm L/\e=((()),(),(Q,())))
   (λs hs=>by
     obtain⟨k,Q,h0,hk,hq,hq2,hq3,rfl⟩:=hs;by_cases hlt:k<L.length
     ·have c1: (k:Int)< (L.length:Int):=by omega
      obtain⟨R,r1,r2,r3⟩:=aaq (L.drop (k+1)) (L.length:Int) (k:Int) L[k] (by omega) Q [] (by simp;omega) (by simpa using hq2) (by simp);have hd:L.drop k=L[k]::L.drop (k+1):=co hlt;rw[hq,bK,<-hd] at r1;refine .inl ⟨(((),0,(L.length:Int),((k+1:Nat):Int),()),(),(R++L.drop (k+1),())),?_,⟨k+1,R,by omega,by omega,?_,r2,?_,rfl⟩,?_⟩
      ·simp only[Fp,jZ,if_pos c1,r1,ak,kT hm hlt]
      ·rw[r3.length_eq];simp[hq]
      ·rw[EM,an hlt];refine r3.trans ?_;rw[bI];refine List.Perm.trans ?_ (List.perm_append_comm);simpa using hq3
      ·simp only[cO];omega
     ·have :k=L.length:=by omega
      subst this;refine .inr ⟨_,by simp only[Fp,jZ];rw[if_neg (by omega)],Q,hq2,by simpa using hq3,by simp⟩)
   (s:=(((),0,(L.length:Int),((1:Nat):Int),()),(),(L,()))) ⟨1,L.take 1,by omega,by omega,by simp;omega,by rw[<-hL];simp[SL],List.Perm.refl _,by rw[dx]⟩
  obtain⟨e,h1,Q,q1,q2,rfl⟩:=outer;rw[show IntKind.wrap .i64 ((0:Int)+1)=((1:Nat):Int) from by rw[of (by omega) (by omega)];rfl,show Gt (((),0,(L.length:Int),((1:Nat):Int),()),(),(L,()))=_ from h1];exact⟨Q,rfl,q1,q2⟩
theorem adj{n:Nat}(hn:n<=12): ∃m,Qa (IntKind.wrap .u64 (n:Int))=some (m,()):=by
 have :n<=5\/n=6\/n=7\/n=8\/n=9\/n=10\/n=11\/n=12:=by omega
 rcases this with h|rfl|rfl|rfl|rfl|rfl|rfl|rfl
 ·exact Uj h
 ·exact⟨3,by kernel_rfl⟩
 ·exact⟨3,by kernel_rfl⟩
 ·exact⟨4,by kernel_rfl⟩
 ·exact⟨4,by kernel_rfl⟩
 ·exact⟨4,by kernel_rfl⟩
 ·exact⟨4,by kernel_rfl⟩
 ·exact⟨4,by kernel_rfl⟩
theorem acf(l:List Int)(hl:l.length<=12): ∃r,Ij l=some (r,())/\SL r/\r.Perm l:=by
 obtain⟨m,hm⟩:=adj hl;obtain⟨r,r1,r2,r3⟩:=Vl l hl
 have hp:F6 l 0 (l.length:Int) m=some (r,()):=by
  unfold F6
  have :Il (((),0,(l.length:Int),m,true,true,()),(),(l,()))=some ((()),(),(r,())):=by refine me ?_;simp only[Gx];rw[of (by omega) (by omega),jZ,if_pos (by omega),r1,ak,jo r3.length_eq]
  rw[this];rfl
 unfold Ij;simp only[hm,ak,hp];exact⟨r,jo r3.length_eq _ _,r2,r3⟩
theorem Wo(l:List Int)(hl:l.length<=1000)(hs:SL l)(k0:Nat)(h0:0<k0)(hk:k0<l.length)(hss:SS (l.take k0))(heq:l[k0] =l[k0-1]):
  ∃e,Nq (((),(k0:Int),(k0,l.length-k0),1,()),(),(l,()))=some e/\ ∃ (kk:Nat) (v:List Int),e=(((),(kk:Int),()),(),(v,()))/\kk<=l.length/\v.length=l.length/\SS (v.take kk)/\ ∀y,y∈v.take kk↔y∈l:=by
 have hm:l.length<=maxLen:=by unfold maxLen;omega
 have mem0: ∀y,y∈l.take k0↔y∈l.take (k0+1):=by
  intro y;rw[EM,an hk,heq];simp only[Option.toList_some,bi,aJ];refine⟨.inl,?_⟩
  rintro (h|rfl)
  ·exact h
  ·rw[List.mem_take_iff_getElem];exact⟨k0-1,by omega,rfl⟩
 refine AF (B:=Hi) (λs=> ∃ (kk k2:Nat) (v:List Int),s=(((),(kk:Int),(k0,l.length-k0),(k2:Int),()),(),(v,()))/\0<k2/\k0+k2<=l.length/\k0<=kk/\kk+1<=k0+k2/\v.length=l.length/\SS (v.take kk)/\(∀y,y∈v.take kk↔y∈l.take (k0+k2))/\v.drop (k0+k2-1)=l.drop (k0+k2-1)) (λs=>l.length-s.1.2.2.2.1.toNat) _
  (λs hI=> ?_) (s:=(((),(k0:Int),(k0,l.length-k0),((1:Nat):Int),()),(),(l,()))) ⟨k0,1,l,rfl,by omega,by omega,by omega,by omega,rfl,hss,mem0,rfl⟩
 obtain⟨kk,k2,v,rfl,a1,a2,a3,a4,a5,a6,a7,a8⟩:=hI;by_cases hlt:k0+k2<l.length
 ·left;have c1: (k2:Int)< ((l.length-k0:Nat):Int):=by omega
  have c2: (0:Int)<=(k2:Int)/\(k2:Int)< ((l.length-k0:Nat):Int):=by omega
  have c3: (0:Int)<=((k2-1:Nat):Int)/\((k2-1:Nat):Int)< ((l.length-k0:Nat):Int):=by omega
  have c4: (0:Int)<=(kk:Int)/\(kk:Int)< (v.length:Int):=by omega
  have g1:v[k0+(k2-1)]? =some l[k0+k2-1] :=by have:=congrArg (λz:List Int=>z[0]?) a8;simp only[bn,bL] at this;rw[show k0+(k2-1)=k0+k2-1 by omega,this];exact an _
  have g2:v[k0+k2]? =some l[k0+k2] :=by have:=congrArg (λz:List Int=>z[1]?) a8;simp only[bn] at this;rw[show k0+k2-1+1=k0+k2 by omega] at this;rw[this];exact an _
  have g3:v[kk]? =some (v[kk]'(by omega)):=an _;have hle:l[k0+k2-1] <=l[k0+k2] :=EK.1 hs _ _ (by omega) hlt (by omega)
  have hdd:v.drop (k0+k2)=l.drop (k0+k2):=by have:=congrArg (List.drop 1) a8;simpa [cw,show k0+k2-1+1=k0+k2 by omega] using this
  have hta:l.take (k0+k2+1)=l.take (k0+k2)++ [l[k0+k2]] :=by rw[EM,an hlt];rfl
  have inb: ∀y∈l.take (k0+k2),y<=l[k0+k2-1] :=by
   intro y hy;obtain⟨j,hj,rfl⟩:=aQ hy;have hj':j<k0+k2:=by simp at hj;omega
   rw[E0];by_cases e:j=k0+k2-1
   ·subst e;exact c9 _
   ·exact EK.1 hs _ _ (by omega) (by omega) (by omega)
  have hkm:k2<l.length:=by omega
  have hkm':kk<l.length:=by omega
  simp only[Hi,jZ,Fg,Io,C9,if_pos c1,if_pos c2,CQ a1 (by unfold maxLen;omega),if_pos c3,cO,g1,g2,ak,kT hm hkm,kT hm hkm',if_pos c4,g3];by_cases he:l[k0+k2] =l[k0+k2-1]
  ·simp only[if_pos he];refine⟨_,rfl,⟨kk,k2+1,v,rfl,by omega,by omega,a3,by omega,a5,a6,λy=> ?_,hdd⟩,?_⟩
   ·rw[a7,show k0+(k2+1)=k0+k2+1 by omega,hta,he];simp only[bi,aJ];refine⟨.inl,?_⟩
    rintro (h|rfl)
    ·exact h
    ·rw[List.mem_take_iff_getElem];exact⟨k0+k2-1,by omega,rfl⟩
   ·simp only[cO];omega
  ·simp only[if_neg he];have hts: (v.set kk l[k0+k2]).take (kk+1)=v.take kk++ [l[k0+k2]] :=qi _ (by omega);refine⟨_,rfl,⟨kk+1,k2+1,v.set kk l[k0+k2],rfl,by omega,by omega,by omega,by omega,by simp[a5],?_,λy=> ?_,?_⟩,?_⟩
   ·rw[hts]
    have:=W7 (A:=v.take kk) (B:=[]) (x:=l[k0+k2]) (by simpa using a6) (λy hy=>by have:=inb y ((a7 y).1 hy);omega) (by simp)
    simpa using this
   ·rw[hts,show k0+(k2+1)=k0+k2+1 by omega,hta];simp only[bi,a7]
   ·rw[show k0+(k2+1)-1=k0+k2 by omega,List.drop_set_of_lt (by omega),hdd]
   ·simp only[cO];omega
 ·right;have hkk:k0+k2=l.length:=by omega
  refine⟨_,by simp only[Hi,jZ];rw[if_neg (by omega)],kk,v,rfl,by omega,a5,a6,λy=> ?_⟩;rw[a7,hkk,EJ]
theorem X1(l:List Int)(hl:l.length<=1000)(hs:SL l): ∃r,Hg l=some (r,())/\SS r/\(∀y,y∈r↔y∈l)/\r.length<=l.length:=by
 have hm:l.length<=maxLen:=by unfold maxLen;omega
 unfold Hg;rw[jZ];split
 ·refine⟨l,rfl,?_,λ_=>Iff.rfl,az _⟩
  match l with
  | [] =>exact List.Pairwise.nil
  | [a] =>exact EX _ _
  |a::b::l=>simp at*;omega
 ·have fm:=AF (B:=FW) (λs=> ∃k:Nat,0<k/\k<=l.length/\SS (l.take k)/\s=(((),(k:Int),()),(),(l,()))) (λs=>l.length-s.1.2.1.toNat)
   (λe=>(e= .inr (((),(),()),(),(l,()))/\SS l)\/ ∃ (kk:Nat) (W:List Int),e= .inl (((),(0,kk),()),(),(W,()))/\kk<=W.length/\kk<=l.length/\SS (W.take kk)/\ ∀y,y∈W.take kk↔y∈l)
   (λs hI=>by
     obtain⟨k,h0,hkl,hss,rfl⟩:=hI;by_cases hk:k<l.length
     ·have c1: (k:Int)< (l.length:Int):=by omega
      have c2: (0:Int)<=(k:Int)/\(k:Int)< (l.length:Int):=by omega
      have c3: (0:Int)<=((k-1:Nat):Int)/\((k-1:Nat):Int)< (l.length:Int):=by omega
      have c4: (0:Int)<=(k:Int)/\(k:Int)<=(l.length:Int)/\(l.length:Int)<=(l.length:Int):=by omega
      have e1:l[k]? =some l[k] :=an hk;have e2:l[k-1]? =some l[k-1] :=an (by omega);by_cases he:l[k] =l[k-1]
      ·right;obtain⟨e,f1,kk,v,rfl,f2,f3,f4,f5⟩:=Wo l hl hs k h0 hk hss he;have d1: (0:Int)<=(kk:Int)/\(kk:Int)<=(v.length:Int)/\(v.length:Int)<=(v.length:Int):=by omega
       have d2:kk+(v.length-kk)<=v.length:=by omega
       have d3: (0:Int)<=0/\(0:Int)<=(kk:Int)/\(kk:Int)<=(v.length:Int):=by omega
       simp only[FW,jZ,C9,if_pos c1,if_pos c2,CQ h0 (by omega),if_pos c3,cO,e1,e2,ak,Io,if_pos he,if_pos c4,aM];rw[f1];simp only[ak,cO,if_pos d1,if_pos d2,if_pos d3,Fc,EW]
       have ht: (v.take kk++List.replicate (v.length-kk) 0++v.drop (kk+(v.length-kk))).take kk=v.take kk:=by rw[aY,List.take_append_of_le_length (by simp;omega),List.take_take,Nat.min_self]
       refine⟨_,rfl,.inr ⟨kk,_,rfl,by simp;omega,f2,by rw[ht];exact f4,λy=>by rw[ht];exact f5 y⟩⟩
      ·left;have hle:l[k-1] <=l[k] :=EK.1 hs _ _ (by omega) hk (by omega);refine⟨(((),((k+1:Nat):Int),()),(),(l,())),?_,⟨k+1,by omega,by omega,?_,rfl⟩,?_⟩
       ·simp only[FW,jZ,C9,if_pos c1,if_pos c2,CQ h0 (by omega),if_pos c3,cO,e1,e2,ak,Io,kT hm hk,if_neg he]
       ·rw[EM,e1]
        have:=W7 (A:=l.take k) (B:=[]) (x:=l[k]) (by simpa using hss) (λy hy=>by
         obtain⟨j,hj,rfl⟩:=aQ hy;have hj':j<k:=by simp at hj;omega
         rw[E0]
         have :l[j] <=l[k-1] :=by
          by_cases e:j=k-1
          ·subst e;exact c9 _
          ·exact EK.1 hs _ _ (by omega) (by omega) (by omega)
         omega) (by simp)
        simpa using this
       ·simp only[cO];omega
     ·have hk':k=l.length:=by omega
      subst hk';rw[EJ] at hss;exact .inr ⟨_,by simp only[FW,jZ];rw[if_neg (by omega)],.inl ⟨rfl,hss⟩⟩)
   (s:=(((),((1:Nat):Int),()),(),(l,()))) ⟨1,by omega,by omega,by
     cases l with
     |nil=>exact List.Pairwise.nil
     |cons a l=>exact EX _ _,rfl⟩
  obtain⟨e,h1,h2⟩:=fm;rw[show KG (((),1,()),(),(l,()))=_ from h1];rcases h2 with ⟨rfl,h2⟩| ⟨kk,W,rfl,h3,h4,h5,h6⟩
  ·exact⟨l,rfl,h2,λ_=>Iff.rfl,az _⟩
  ·refine⟨W.take kk,?_,h5,h6,by simp;omega⟩;simp only[ak,EO];exact jo ⟨trivial,h3⟩ _ _
theorem Zs(l:List Int)(hl:l.length<=12): ∃r,Jm l=some (r,())/\SS r/\(∀y,y∈r↔y∈l)/\r.length<=l.length:=by obtain⟨s,s1,s2,s3⟩:=acf l hl;have sl:=s3.length_eq;obtain⟨r,r1,r2,r3,r4⟩:=X1 s (by omega) s2;unfold Jm Jy;rw[jo (JB (by omega)),ak,s1,ak,jo sl,r1];exact⟨r,rfl,r2,λy=>by rw[r3,s3.mem_iff],by omega⟩
theorem ad5(a b:List Int)(h:a.length+b.length<=12): ∃r,Jg a b=some (r,())/\J5 a b=some (r,())/\SS r/\(∀y,y∈r↔y∈a\/y∈b)/\r.length<=a.length+b.length:=by
 obtain⟨r,r1,r2,r3,r4⟩:=YO a b (by omega) (by omega);obtain⟨s,s1,s2,s3,s4⟩:=Zs (a++b) (by simp;omega);have hrs:r=s:=r2.uniq s2 λy=>by rw[r3,s3,bi]
 subst hrs;refine⟨r,r1,?_,r2,r3,r4⟩;unfold J5
 have hc:=Zw [a,b] (by simp) (by intro x hx;simp only[aX,List.not_mem_nil,or_false] at hx;rcases hx with rfl|rfl<;>omega)
 rw[hc,ak,show ([a,b]:List (List Int)).flatten=a++b by simp,s1];rfl
end
section
theorem J1(m:kB)(e:Int)(h:Mx 1048576 m)(hv:Fv m=some (true,())): ∃c b,G4 m e=some (c,b,())/\Ju m e=some (c,b,())/\GA maxLen c/\(b=HP e 1 (m.configs.length:Int))/\(b=true->Fk c=some (true,())/\c.epoch=e)/\(b=false->c=⟨0,0,[],[]⟩):=by
 obtain⟨b,m1,m2⟩:=masterLog m (GS h);rw[hv] at m1;simp only[af,au,and_true] at m1;subst m1;obtain⟨f1,_,_⟩:=OB (GS h) hv;have zero:GA maxLen ⟨0,0,[],[]⟩:=⟨bH _,bH _⟩
 have hl:=h.1;unfold G4 Ju;simp only[hv,m2,FZ,Kz,ak,Fg,DE];cases hw:HP e 1 (m.configs.length:Int) with
 |false=>exact⟨_,_,rfl,rfl,zero,rfl,nofun,λ_=>rfl⟩
 |true=>
  have hw:=Fj.1 hw;simp only[DE];rw[of (n:=e-1) (by omega) (by omega)];have hlt: (e-1).toNat<m.configs.length:=by omega
  have hk:=h.2 _ (dq hlt)
  have copy: ∀c:om,GA 1048576 c->Ii c=some (c,())/\GF c=some (c,()):=by intro c hc;unfold Ii GF;simp only[bK];rw[jo (JB hc.1),jo (JB hc.2)];exact⟨rfl,rfl⟩
  rw[jo (by omega),jo (by omega),an hlt];simp only[ak,(copy _ hk).1,(copy _ hk).2];refine⟨_,_,rfl,rfl,Fr hk,rfl,λ_=>⟨(f1 _ hlt).1,?_⟩,nofun⟩;rw[(f1 _ hlt).2];omega
theorem PS(x:qN)(ok:FF 1048576 x)(hv:Ff x=some (true,())): ∃c b,Fm x.master=some (c,b,())/\FL x.master=some (c,b,())/\GA maxLen c/\(b=decide (x.master.activated>0))/\(b=true->Fk c=some (true,())/\c.epoch=x.master.activated)/\(b=false->c=⟨0,0,[],[]⟩):=by
 have vc:=FJ ok hv;obtain⟨_,f2,f3⟩:=OB (GS ok.2.2.1) vc.ml;obtain⟨c,b,c1,c2,c3,c4,c5,c6⟩:=J1 x.master x.master.activated ok.2.2.1 vc.ml;unfold Fm FL;rw[c1,c2];refine⟨c,b,rfl,rfl,c3,?_,c5,c6⟩;rw[c4];unfold HP;rw[decide_eq_true f3,dj];by_cases h:x.master.activated>0
 ·rw[decide_eq_true h,decide_eq_true (by omega)]
 ·rw[decide_eq_false h,decide_eq_false (by omega)]
end
section
def RX(p:Nat->Bool)(n:Nat):List Int:=((List.range n).filter p).map λ(k:Nat)=>(k:Int)
theorem Xh(p:Nat->Bool)(n:Nat):RX p (n+1)=RX p n++if p n=true then [(n:Int)] else [] :=by
 unfold RX;rw[List.range_succ,EP,bO]
 congr 1
 cases h:p n<;>simp[h]
theorem Wq(p:Nat->Bool)(n:Nat)(x:Int):x∈RX p n↔ ∃k:Nat,k<n/\p k=true/\x=(k:Int):=by
 unfold RX;simp only[aI,EZ,bC];constructor
 ·rintro⟨k,⟨h1,h2⟩,rfl⟩;exact⟨k,h1,h2,rfl⟩
 ·rintro⟨k,h1,h2,rfl⟩;exact⟨k,⟨h1,h2⟩,rfl⟩
theorem YX(p:Nat->Bool)(n:Nat): (RX p n).length<=n:=by unfold RX;rw[aE];exact ba (Fd _ _) (by simp)
theorem YW(p:Nat->Bool){n:Nat}(hn:n<=5):Oo (RX p n):=by
 have hp: (RX p n).Pairwise (· < ·):=by unfold RX;rw[List.pairwise_map];exact (List.Pairwise.filter _ List.pairwise_lt_range).imp λh=>by omega
 intro k hk;have hm: (RX p n)[k] ∈RX p n:=dq hk;obtain⟨j,h1,_,h2⟩:=(Wq p n _).1 hm;exact⟨⟨by omega,by omega⟩,λh0=>EK.1 hp (k-1) k (by omega) hk (by omega)⟩
theorem abO(p q:Nat->Bool)(n:Nat): (RX p n).filter (λx=>decide (x∈RX q n))=RX (λk=>p k&&q k) n:=by
 unfold RX;rw[List.filter_map,List.filter_filter]
 congr 1
 apply List.filter_congr;intro k hk;have hk:=bC.1 hk
 have : (((λx=>decide (x∈RX q n))∘λ(k:Nat)=>(k:Int)) k)=q k:=by
  show decide ((k:Int)∈RX q n)=q k;cases hq:q k with
  |true=>exact decide_eq_true ((Wq q n _).2 ⟨k,hk,hq,rfl⟩)
  |false=>
   refine decide_eq_false λh=> ?_;obtain⟨j,_,h1,h2⟩:=(Wq q n _).1 h;have :j=k:=by omega
   subst this;rw[hq] at h1;cases h1
 have e:decide ((k:Int)∈List.map (λ(k:Nat)=>(k:Int)) (List.filter q (List.range n)))=q k:=this;simp only[Function.comp,e,Bool.and_comm]
def XW(x:qN)(k:Nat):Bool:=match x.servers[k]? with |some s=>s.up|none=>false
def QU(l:List Int)(k:Nat):Bool:=match l[k]? with |some s=>s==0|none=>false
theorem acq{p:Nat->Bool}{k:Nat}(h:k<=1000)(y:Int): (RX p k++ [y]).length*8<=2 ^ 40:=by have:=YX p k;refine JB ?_;rw[be,cn];omega
theorem Z4(x:qN)(hl:x.servers.length=5)(hv:Ff x=some (true,())):MW x=some (RX (XW x) 5,()):=by
 have ex: (⟨x.now,x.servers,x.sides,⟨x.master.configs,x.master.activated⟩,x.masterUp,⟨x.lease.epoch,x.lease.holder,x.lease.ends⟩,x.places⟩:qN)=x:=rfl
 have fm:=tC (B:=JP) x.servers (λk (b:List Int)=>(((),(),(k:Int),()),((x.now,x.servers,x.sides,x.master.configs,x.master.activated,x.masterUp,x.lease.epoch,x.lease.holder,x.lease.ends,x.places,()),()),(b,()))) (λk b=>b=RX (XW x) k) (λ_ _ _=>(((),()),(),(RX (XW x) 5,())))
  (λb hb=>by simp only[JP];rw[jZ,if_neg (by omega),hb,hl])
  (λk b s hs hb=>by
    have hk:=yw hs;have c1: (k:Int)< (x.servers.length:Int):=by omega
    have c2: (0:Int)<=(k:Int):=by omega
    have hup:XW x k=s.up:=by unfold XW;rw[hs]
    subst hb;simp only[JP,jZ,C9,if_pos c1,if_pos c2,cO,hs,ak,ex,hv,DE,kT (n:=5) (by decide) (by omega:k<5),if_pos (acq (p:=XW x) (k:=k) (by omega) (k:Int))];refine .inl ⟨RX (XW x) (k+1),?_,rfl,trivial⟩;rw[Xh,hup];cases s.up
    ·simp;rfl
    ·rfl)
  0 [] (bH _) rfl
 unfold MW;rw[show Rd (((),(),0,()),((x.now,x.servers,x.sides,x.master.configs,x.master.activated,x.masterUp,x.lease.epoch,x.lease.holder,x.lease.ends,x.places,()),()),([],()))=_ from fm];rfl
theorem Kn{l:List Int}(hl:l.length<=maxLen)(hv:HS l=some (true,())):l.length=5:=by
 obtain⟨b,h1,h2⟩:=NL l hl;rw[hv] at h1;simp only[af,au,and_true] at h1;subst h1;unfold K9 at h2;cases h: ((l.length:Int)==5) with
 |false=>rw[h] at h2;cases h2
 |true=>simp only[beq_iff_eq] at h;omega
theorem YG(l:List Int)(hl:l.length=5)(hv:HS l=some (true,())):LA l=some (RX (QU l) 5,()):=by
 have fm:=tC (B:=I7) l (λk (b:List Int)=>((l,(),(k:Int),()),(),(b,()))) (λk b=>b=RX (QU l) k) (λ_ _ _=>(((),()),(),(RX (QU l) 5,())))
  (λb hb=>by simp only[I7];rw[jZ,if_neg (by omega),hb,hl])
  (λk b s hs hb=>by
    have hk:=yw hs;have c1: (k:Int)< (l.length:Int):=by omega
    have c2: (0:Int)<=(k:Int):=by omega
    have hup:QU l k=(s==0):=by unfold QU;rw[hs]
    subst hb;simp only[I7,jZ,C9,if_pos c1,if_pos c2,cO,hs,ak,hv,DE,kT (n:=5) (by decide) (by omega:k<5),if_pos (acq (p:=QU l) (k:=k) (by omega) (k:Int))];refine .inl ⟨RX (QU l) (k+1),?_,rfl,trivial⟩;rw[Xh,hup];cases (s==0)
    ·simp;rfl
    ·rfl)
  0 [] (bH _) rfl
 unfold LA;rw[show Qy ((l,(),0,()),(),([],()))=_ from fm];rfl
def Wn(x:qN)(k:Nat):Bool:=XW x k&&QU x.sides k
theorem adI(x:qN)(ok:FF 1048576 x)(hv:Ff x=some (true,())):NY x=some (RX (Wn x) 5,()):=by have vc:=FJ ok hv;have hsl:=Kn (Fl ok.2.1) vc.sides;unfold NY;rw[Z4 x vc.len hv,YG x.sides hsl vc.sides];simp only[ak];rw[Sv _ _ (YW _ (az 5)) (ba (YX _ _) (by decide)),abO];rfl
end
section
def IX(x:qN)(a:Int):Int:=(x.sides[a.toNat]?).getD 0
theorem Nb(x:qN)(ok:FF 1048576 x)(vc:VC x){a b:Int}(ha:0<=a/\a<5)(hb:0<=b/\b<5):GN x.sides a b=some (IX x a==IX x b,())/\IU x.sides a b=some (IX x a==IX x b,()):=by
 have hl:=Fl ok.2.1;have h5:=Kn hl vc.sides;obtain⟨v,s1,s2⟩:=NL x.sides hl;rw[vc.sides] at s1;simp only[af,au,and_true] at s1;subst s1;have wa:HP a 0 4=true:=Fj.2 (by omega);have wb:HP b 0 4=true:=Fj.2 (by omega);have la:a.toNat<x.sides.length:=by omega
 have lb:b.toNat<x.sides.length:=by omega
 unfold GN IU IX;simp only[vc.sides,s2,FZ,Kz,wa,wb,ak,DE,C9,if_pos ha.1,if_pos hb.1,an la,an lb,aZ,and_self]
theorem Jp{x:qN}(ok:FF 1048576 x)(vc:VC x){a:Int}(ha:0<=a/\a<5): ∃s,x.servers[a.toNat]? =some s/\FN 1048576 s/\Fi s a=some (true,()):=by
 have hlt:a.toNat<x.servers.length:=by rw[vc.len];omega
 refine⟨_,an hlt,ok.1.2 _ (dq hlt),?_⟩;have:=vc.srv _ hlt
 rwa [Int.toNat_of_nonneg ha.1] at this
def Un(x:qN)(a b:Int):Bool:=(IX x a==IX x b)&&(match x.servers[b.toNat]?,x.servers[a.toNat]? with
 |some m,some p=>m.up&&(m.epoch==p.epoch)&&decide (m.commit<=(p.log.length:Int))&&decide (m.config=p.config)
 | _,_=>false)
theorem acu(x:qN)(ok:FF 1048576 x)(vc:VC x){a b:Int}(ha:0<=a/\a<5)(hb:0<=b/\b<5):HU x a b=some (Un x a b,())/\RS x a b=some (Un x a b,()):=by obtain⟨p,p1,p2,_⟩:=Jp ok vc ha;obtain⟨m,m1,m2,_⟩:=Jp ok vc hb;obtain⟨h1,h2⟩:=Nb x ok vc ha hb;obtain⟨e1,e2⟩:=GD m.config p.config (Fr m2.1);unfold HU RS Un;simp only[p1,m1,h1,h2,e1,e2,C9,if_pos ha.1,if_pos hb.1,ak];cases (IX x a==IX x b)<;>cases m.up<;>cases (m.epoch==p.epoch)<;>cases (decide (m.commit<=(p.log.length:Int)))<;>cases (decide (m.config=p.config))<;>exact⟨rfl,rfl⟩
theorem My(s:qQ)(id:Int)(h:FN 1048576 s): ∃b,FT s id=some (b,())/\J2 s id=some (b,()):=by obtain⟨v,v1,v2⟩:=OF s id h;obtain⟨n,n1,n2,_⟩:=OT s.config id (Fr h.1);unfold FT J2;simp only[v1,v2,n1,n2,ak];cases v<;>cases s.up<;>cases (n==1)<;>exact⟨_,rfl,rfl⟩
theorem Mv(c:om)(h:GA maxLen c): ∃l,FV c=some (l,())/\J3 c=some (l,())/\l.length<=10/\(∀y∈l,0<=y/\y<5)/\SS l/\(Fk c=some (true,())-> ∀y,y∈l↔y∈c.replicas\/y∈c.witnesses):=by
 obtain⟨v,v1,v2⟩:=HH c h;unfold FV J3;simp only[v1,v2,ak,Fg];cases v with
 |false=>exact⟨[],rfl,rfl,bH _,nofun,List.Pairwise.nil,nofun⟩
 |true=>
  obtain⟨a1,a2,_⟩:=HV h v1;have l1:=a1.len;have l2:=a2.len;obtain⟨r,r1,r2,r3,r4,r5⟩:=ad5 c.replicas c.witnesses (by omega)
  have rng: ∀ {l:List Int},Oo l-> ∀y∈l,0<=y/\y<5:=by intro l ha y hy;obtain⟨k,hk,rfl⟩:=aQ hy;have:=(ha k hk).1;omega
  simp only[DE,r1,r2,ak];refine⟨r,rfl,rfl,by omega,λy hy=> ?_,r3,λ_=>r4⟩;rcases (r4 y).1 hy with h|h
  ·exact rng a1 y h
  ·exact rng a2 y h
theorem QT(x:qN)(ok:FF 1048576 x): ∃n,FY x=some (n,())/\Jb x=some (n,())/\(n= -1\/0<=n):=by
 obtain⟨v,v1,v2⟩:=FR x ok;unfold FY Jb;cases v with
 |false=>
  obtain⟨c,d,d1,d2,_⟩:=MQ x.master x.master.activated ok.2.2.1
  have d1:Fm x.master=some (c,d,()):=by unfold Fm;rw[d1];rfl
  have d2:FL x.master=some (c,d,()):=by unfold FL;rw[d2];rfl
  have g:GW x c.primary=some (false,()):=by unfold GW FK;simp only[v2,ak];rfl
  simp only[d1,d2,v1,g,ak];cases d<;>exact⟨-1,rfl,rfl,.inl rfl⟩
 |true=>
  obtain⟨c,d,d1,d2,d3,d4,d5,d6⟩:=PS x ok v1;have vc:=FJ ok v1;simp only[d1,d2,v1,ak,Fg,DE];cases d with
  |false=>exact⟨-1,rfl,rfl,.inl rfl⟩
  |true=>
   obtain⟨asc,_,hpr,_,_,_⟩:=HV d3 (d5 rfl).1
   have hp:0<=c.primary/\c.primary<5:=by obtain⟨k,hk,e⟩:=aQ hpr;have:=(asc k hk).1;omega
   obtain⟨s,s1,s2,_⟩:=Jp ok vc hp;obtain⟨b,b1,b2⟩:=My s c.primary s2;have wp:HP c.primary 0 4=true:=Fj.2 (by omega)
   have g:GW x c.primary=some (b,()):=by unfold GW FK;simp only[v2,ak,Kz,wp,DE,C9,if_pos hp.1,s1,b2]
   simp only[DE,C9,if_pos hp.1,s1,b1,g,ak];cases b with
   |false=>exact⟨-1,rfl,rfl,.inl rfl⟩
   |true=>
    simp only[DE];cases he: (s.config.epoch==c.epoch) with
    |false=>exact⟨-1,rfl,rfl,.inl rfl⟩
    |true=>
     obtain⟨m,m1,m2,m3,m4,_⟩:=Mv c d3;have hm:m.length<=maxLen:=by unfold maxLen;omega
     have fm:=DJ (B1:=Gv) (B2:=Fx) m.length
      (λk=>(((),(),(),(k:Int),()),((x.now,x.servers,x.sides,x.master.configs,x.master.activated,x.masterUp,x.lease.epoch,x.lease.holder,x.lease.ends,x.places,()),(c.epoch,c.primary,(),(),()),()),(m,c.replicas,c.witnesses,())))
      (λk=>((m,(x,c,()),(m.length:Int),(k:Int),()),(),()))
      (.inr (((),(),()),((c.epoch,c.primary,(),(),()),()),(c.replicas,c.witnesses,()))) (.inr (((),()),(),()))
      (λ_=> .inl (((-1),(),()),((c.epoch,c.primary,(),(),()),()),(c.replicas,c.witnesses,()))) (λk=> .inl (((k:Int),()),(),()))
      (λ_=>True) (λ_=>True)
      (by simp only[Gv];rw[jZ,if_neg (by omega)])
      (by simp only[Fx];rw[jZ,if_neg (by omega)])
      (λk hk=>by
        have c1: (k:Int)< (m.length:Int):=by omega
        have c2: (0:Int)<=(k:Int)/\(k:Int)< (m.length:Int):=by omega
        have hz:=m4 m[k] (dq hk);obtain⟨h1,h2⟩:=acu x ok vc hp hz
        simp only[Gv,Fx,I1,jZ,Fg,C9,if_pos c1,if_pos c2,if_pos c2.1,cO,an hk,ak,
         show (⟨x.now,x.servers,x.sides,(⟨x.master.configs,x.master.activated⟩:kB),x.masterUp,(⟨x.lease.epoch,x.lease.holder,x.lease.ends⟩:vz),x.places⟩:qN)=x from rfl,h1,h2,kT hm hk]
        cases Un x c.primary m[k] with
        |true=>exact .inl ⟨rfl,rfl,trivial⟩
        |false=>exact .inr ⟨rfl,rfl,trivial⟩)
     simp only[DE,m1,m2,ak,F4,Gf];rcases fm with ⟨k1,k2,_⟩| ⟨k,_,k1,k2,_⟩
     ·rw[show Lb (((),(),(),0,()),((x.now,x.servers,x.sides,x.master.configs,x.master.activated,x.masterUp,x.lease.epoch,x.lease.holder,x.lease.ends,x.places,()),(c.epoch,c.primary,(),(),()),()),(m,c.replicas,c.witnesses,()))=_ from k1,
       show GK ((m,(x,c,()),(m.length:Int),0,()),(),())=_ from k2]
      simp only[ak,ET];rw[decide_eq_false (by omega)];exact⟨c.primary,rfl,rfl,.inr hp.1⟩
     ·rw[show Lb (((),(),(),0,()),((x.now,x.servers,x.sides,x.master.configs,x.master.activated,x.masterUp,x.lease.epoch,x.lease.holder,x.lease.ends,x.places,()),(c.epoch,c.primary,(),(),()),()),(m,c.replicas,c.witnesses,()))=_ from k1,
       show GK ((m,(x,c,()),(m.length:Int),0,()),(),())=_ from k2]
      simp only[ak,EO];rw[decide_eq_true (by omega)];exact⟨-1,rfl,rfl,.inl rfl⟩
theorem ZC(x:qN)(ok:FF 1048576 x): ∃b,H3 x=some (b,())/\Lh x=some (b,()):=by
 obtain⟨n,n1,n2,n3⟩:=QT x ok;unfold H3 Lh;simp only[n1,n2,ak];rcases n3 with rfl|h
 ·exact⟨false,rfl,rfl⟩
 ·refine⟨true,?_,?_⟩
  ·rw[decide_eq_true h]
  ·have : (n== -1)=false:=by
    simp only[beq_eq_false_iff_ne,ne_eq];omega
   rw[this];rfl
end
section
def RP(s:qQ):List sf:=if HP s.commit s.first (s.first+(s.log.length:Int))=true then s.log.take (s.commit-s.first).toNat else []
theorem Zv(s:qQ)(id:Int)(h:FN 1048576 s)(hv:Fi s id=some (true,())):FM s=some (RP s,())/\JC s=some (RP s,()):=by
 obtain⟨f1,f2,f3,f4,f5,_⟩:=L4 h hv;unfold FM JC RP;rw[of (n:=s.first+(s.log.length:Int)) (by omega) (by omega)];simp only[FZ,Kz,ak,Fg,jZ,if_neg (show ¬s.first<0 by omega)];cases hw:HP s.commit s.first (s.first+(s.log.length:Int)) with
 |false=>exact⟨rfl,rfl⟩
 |true=>
  have hw:=Fj.1 hw;have d1: (0:Int)<=0/\(0:Int)<=s.commit-s.first/\s.commit-s.first<=(s.log.length:Int):=by omega
  have hs: (s.log.take (s.commit-s.first).toNat).length*56<=2 ^ 40:=by
   have : (s.log.take (s.commit-s.first).toNat).length<=16:=by simp;omega
   have e: (2:Nat) ^ 40=1099511627776:=by decide
   omega
  simp only[DE,if_true];rw[of (n:=s.commit-s.first) (by omega) (by omega)];simp only[C9,if_pos d1,GM,Gb,Fc,cF,EW,bK,if_pos hs,ak];exact⟨trivial,trivial⟩
end
section
theorem abt{s:qQ}{id:Int}(h:FN 1048576 s)(hv:Fi s id=some (true,())):s.config=⟨0,0,[],[]⟩\/Fk s.config=some (true,()):=by
 have hc:=Fr h.1;by_cases hz:s.config=⟨0,0,[],[]⟩
 ·exact .inl hz
 ·right;obtain⟨b,v1,_⟩:=HH s.config hc;cases b with
  |true=>exact v1
  |false=>
   exfalso
   have hr:F8 s.config id=some (0,()):=by unfold F8;rw[v1];rfl
   unfold Fi at hv;simp only[FZ,ak,Fg,MN s.config hc,hr,jZ,if_neg hz] at hv;cases h1:HP s.version 1 2 with
   |false=>rw[h1] at hv;cases hv
   |true=>
   cases h2:HP s.epoch 0 20 with
   |false=>rw[h1,h2] at hv;cases hv
   |true=>
   rcases isLog s.log (Fl h.2.1) with ⟨a1,a2,a3⟩| ⟨a1,a2⟩
   case inr=>simp only[h1,h2,a1,ak,DE,CU] at hv;cases hv
   rcases isLog s.learned (Fl h.2.2) with ⟨b1,b2,b3⟩| ⟨b1,b2⟩
   case inr=>simp only[h1,h2,a1,b1,ak,DE,CU] at hv;cases hv
   obtain⟨n,n1,n2⟩:=KB s.log (Fl h.2.1);simp only[h1,h2,a1,b1,n1,ak,DE] at hv;cases h3:HP s.first 0 16<;>rw[h3] at hv
   ·cases hv
   ·cases h4:HP (IntKind.wrap .i64 (s.first+(s.log.length:Int))) 0 16<;>rw[h4] at hv
    ·cases hv
    ·cases h5:HP s.commit 0 (IntKind.wrap .i64 (s.first+(s.log.length:Int)))<;>rw[h5] at hv
     ·cases hv
     ·cases h6:s.intact<;>rw[h6] at hv
      ·cases hv
      ·simp only[DE] at hv
       repeat' split at hv
       all_goals cases hv
def data(s:qQ)(id:Int):List sf:=if id∈s.config.replicas then (if (RP s).length>s.learned.length then RP s else s.learned) else s.learned
theorem YU(s:qQ)(id:Int)(h:FN 1048576 s)(hv:Fi s id=some (true,())):Ky s id=some (data s id,())/\Iw s id=some (data s id,()):=by
 have hc:=Fr h.1;obtain⟨p1,p2⟩:=Zv s id h hv
 have hs:s.learned.length*56<=2 ^ 40:=by
  have e: (2:Nat) ^ 40=1099511627776:=by decide
  have:=h.2.2;omega
 have cmp: ((RP s).length:Int)>(s.learned.length:Int)↔(RP s).length>s.learned.length:=by omega
 have hrep:Jn s id=some (decide (id∈s.config.replicas),()):=by unfold Jn;rw[(FI s.config.replicas id hc.1).2];rfl
 have himpl:Iw s id=some (data s id,()):=by
  unfold Iw Gb data;simp only[p2,hrep,ak,jZ,C9,if_pos hs,cmp];split
  ·split<;>rfl
  ·rfl
 refine⟨?_,himpl⟩
 have hrole: ∃r,F8 s.config id=some (r,())/\((r=1\/r=2)↔id∈s.config.replicas):=by
  rcases abt h hv with hz|hvc
  ·refine⟨0,?_,?_⟩
   ·rw[hz];rfl
   ·rw[hz];simp
  ·obtain⟨_,_,hpr,_⟩:=HV hc hvc;unfold F8;simp only[hvc,ak,Fg,DE,Io,(FI s.config.replicas id hc.1).1,(FI s.config.witnesses id hc.2).1,jZ];by_cases h1:id=s.config.primary
   ·rw[if_pos h1];exact⟨1,rfl,by simp[h1,hpr]⟩
   ·rw[if_neg h1];by_cases h2:id∈s.config.replicas
    ·rw[if_pos h2];exact⟨2,rfl,by simp[h2]⟩
    ·rw[if_neg h2];split
     ·exact⟨3,rfl,by simp[h2]⟩
     ·exact⟨0,rfl,by simp[h2]⟩
 obtain⟨r,r1,r2⟩:=hrole;unfold Ky GM data;simp only[r1,p1,bK,C9,if_pos hs,ak,Io,jZ,cmp];by_cases h1:r=1
 ·rw[if_pos h1,if_pos (r2.1 (.inl h1))];split<;>rfl
 ·rw[if_neg h1];by_cases h2:r=2
  ·rw[if_pos h2,if_pos (r2.1 (.inr h2))];split<;>rfl
  ·rw[if_neg h2,if_neg (λh=>by rcases r2.2 h with h|h<;>contradiction)]
end
section
theorem aan(n:Int)(h0:0<=n)(h1:n<=1000000):Jh n=some ([],()):=by
 unfold Jh;have e1:IntKind.wrap .i64 ((0:Int)-0)=0:=of (by decide) (by decide);have e2:IntKind.wrap .i64 (n-0)=n:=by rw[of (by omega) (by omega)];omega
 simp only[e1,e2,jZ,if_neg (show ¬n<0 by omega)];by_cases h:n>0
 ·have e: (2:Int) ^ 40=1099511627776:=by decide
  have c1:0<n/\n*((56:Nat):Int)<=2 ^ 40:=⟨h,by omega⟩
  have c2: (0:Int)<=0/\(0:Int)<=0/\(0:Int)<=((n.toNat:Nat):Int):=by omega
  simp only[if_pos h,C9,if_pos c1,if_pos c2,and_self,if_true];simp
 ·simp only[if_neg h]
theorem abG(l:List (List sf))(hl:l.length<=10)(h: ∀a∈l,a.length<=1000):IB l=some (l.flatten,()):=by
 have hm:l.length<=maxLen:=by unfold maxLen;omega
 have tot: ∀k,(l.take k).flatten.length<=k*1000:=by
  intro k
  induction k with
  |zero=>simp
  |succ k ih=>
   cases hx:l[k]? with
   |none=>
    have hle:l.length<=k:=by simpa using hx
    rw[bS hle] at ih;rw[bS (EN hle)];exact ba ih (bg _ (cM k))
   |some a=>rw[G8 hx,EY,be];have:=h a (ay hx);simp only[List.flatten_cons,List.flatten_nil,bI];rw[Nat.succ_mul];exact Nat.add_le_add ih this
 have k1:=tC (B:=HJ) l (λk (n:Int)=>((l,n,l,(l.length:Int),(k:Int),()),(),())) (λk n=>n=((l.take k).flatten.length:Int)) (λ_ _ _=>((l,(l.flatten.length:Int),()),(),()))
  (λn hn=>by simp only[HJ];rw[jZ,if_neg (by omega),hn,EJ])
  (λk n a hx hn=>by
    have hk:=yw hx;have c1: (k:Int)< (l.length:Int):=by omega
    have c2: (0:Int)<=(k:Int):=by omega
    have t:=tot k;have ha:=h a (ay hx);have hk10:k*1000<=10000:=by omega
    refine .inl ⟨n+(a.length:Int),?_,?_,rfl⟩
    ·simp only[HJ,jZ,C9,if_pos c1,if_pos c2,cO,hx,ak,kT hm hk,of (n:=n+(a.length:Int)) (by omega) (by omega),if_neg (show ¬n+(a.length:Int)<0 by omega)]
    ·rw[G8 hx,EY,be,hn];simp)
  0 0 (bH _) (by simp)
 have t:=tot l.length;rw[EJ] at t
 have k2:=tC (B:=Hz) l (λk (b:List sf)=>(((),l,(l.length:Int),(k:Int),()),(),(b,()))) (λk b=>b=(l.take k).flatten) (λ_ _ _=>(((),()),(),(l.flatten,())))
  (λb hb=>by simp only[Hz];rw[jZ,if_neg (by omega),hb,EJ])
  (λk b a hx hb=>by
    have hk:=yw hx;have c1: (k:Int)< (l.length:Int):=by omega
    have c2: (0:Int)<=(k:Int):=by omega
    have t:=tot k;have ha:=h a (ay hx);have hs: (b++a).length*56<=2 ^ 40:=RL (by rw[hb,be];omega) (by decide);refine .inl ⟨b++a,?_,?_,rfl⟩
    ·simp only[Hz,jZ,C9,if_pos c1,if_pos c2,cO,hx,ak,kT hm hk,if_pos hs]
    ·rw[G8 hx,EY,hb];simp)
  0 [] (bH _) (by simp)
 unfold IB;rw[show Oy ((l,0,l,(l.length:Int),0,()),(),())=_ from k1];simp only[ak,aan _ (show (0:Int)<=(l.flatten.length:Int) by omega) (by omega)];rw[show N7 (((),l,(l.length:Int),0,()),(),([],()))=_ from k2];rfl
theorem aai(x y:sf): ((x.epoch==y.epoch)&&((x.op.client==y.op.client)&&((x.op.seq==y.op.seq)&&((x.op.kind==y.op.kind)&&((x.op.object==y.op.object)&&((x.op.old==y.op.old)&&((x.op.value==y.op.value)&&true)))))))=decide (x=y):=by obtain⟨a,b,c,d,e,f,g⟩:=x;obtain⟨a',b',c',d',e',f',g'⟩:=y;rw[bU];simp[and_assoc]
theorem X5(a b:List sf)(ha:a.length<=maxLen):HG a b=some (decide (a=b),()):=by
 unfold HG;rw[Fg,Io];split
 ·rename_i hl;have hl:a.length=b.length:=by omega
  rcases O9 (B:=Ic) a.length (λk=>((a,b,(a.length:Int),(k:Int),()),(),())) (.inr (((),()),(),())) (λ_=> .inl ((false,()),(),())) (λk=>decide (a[k]? ≠b[k]?))
   (by simp only[Ic];rw[jZ,if_neg (by omega)])
   (λk hk=>by
     have c1: (k:Int)< (a.length:Int):=by omega
     have c2: (0:Int)<=(k:Int):=by omega
     have hk':k<b.length:=by omega
     simp only[Ic,aai,Fg,jZ,C9,if_pos c1,if_pos c2,cO,an hk,an hk',ak,kT ha hk];by_cases h:a[k] =b[k]<;>simp[h]) with ⟨k1,k2⟩| ⟨i,hi,k1,k2,_⟩
  ·rw[show Mu ((a,b,(a.length:Int),0,()),(),())=_ from k1]
   have :a=b:=List.ext_getElem hl λk h1 h2=>by have:=k2 k h1;rw[an h1,an h2] at this;simpa using this
   rw[decide_eq_true this];rfl
  ·rw[show Mu ((a,b,(a.length:Int),0,()),(),())=_ from k1]
   have :a≠b:=λh=>by rw[h] at k2;simp at k2
   rw[decide_eq_false this];rfl
 ·rename_i hl;have :a≠b:=λh=>hl (by rw[h]);rw[decide_eq_false this]
theorem PD(a b:List sf)(ha:a.length<=maxLen): ∃n:Nat,Gy a b=some ((n:Int),())/\n<=a.length/\n<=b.length/\a.take n=b.take n/\(n<a.length->n<b.length->a[n]? ≠b[n]?):=by
 rcases O9 (B:=Hw) a.length (λk=>((a,b,(k:Int),()),(),())) ((((a.length:Nat):Int),()),(),()) (λk=>(((k:Int),()),(),())) (λk=>decide (a[k]? ≠b[k]?))
  (by simp only[Hw];rw[jZ,if_neg (by omega)])
  (λk hk=>by
    have c1: (k:Int)< (a.length:Int):=by omega
    have c2: (0:Int)<=(k:Int):=by omega
    by_cases hk':k<b.length
    ·have c3: (k:Int)< (b.length:Int):=by omega
     simp only[Hw,aai,jZ,C9,if_pos c1,if_pos c2,if_pos c3,cO,an hk,an hk',ak,kT ha hk];by_cases h:a[k] =b[k]<;>simp[h]
    ·have c3: ¬ (k:Int)< (b.length:Int):=by omega
     simp only[Hw,jZ,if_pos c1,if_neg c3,an hk,cz (show b.length<=k by omega)];simp) with ⟨k1,k2⟩| ⟨i,hi,k1,k2,k3⟩
 ·have eq: ∀k,k<a.length->a[k]? =b[k]? :=λk hk=>by simpa using k2 k hk
  have hl:a.length<=b.length:=by
   rcases bu a.length with h|h
   ·omega
   ·have:=eq (a.length-1) (by omega);rw[an (by omega)] at this;have:=yw this.symm;omega
  refine⟨a.length,?_,az _,hl,?_,λh=>absurd h (dI _)⟩
  ·unfold Gy;rw[show Mr ((a,b,0,()),(),())=_ from k1];rfl
  ·refine bE λk=> ?_;rw[bz,bz];split
   ·exact eq k (by assumption)
   ·rfl
 ·have eq: ∀k,k<i->a[k]? =b[k]? :=λk hk=>by simpa using k3 k hk
  have hl:i<=b.length:=by
   rcases bu i with h|h
   ·omega
   ·have:=eq (i-1) (by omega);rw[an (by omega)] at this;have:=yw this.symm;omega
  refine⟨i,?_,by omega,hl,?_,λ_ _=>by simpa using k2⟩
  ·unfold Gy;rw[show Mr ((a,b,0,()),(),())=_ from k1];rfl
  ·refine bE λk=> ?_;rw[bz,bz];split
   ·exact eq k (by assumption)
   ·rfl
theorem aat(a:List sf)(n:Int)(t:List sf)(ha:a.length<=1048576)(ht:t.length<=1048576): ∃l b,Jx a n t=some (l,b,())/\NN a n t=some (l,b,())/\l.length<=19:=by
 unfold Jx NN NK NP;rcases isLog a (Fl ha) with ⟨a1,a2,a3⟩| ⟨a1,a2⟩
 case inr=>simp only[a1,a2,ak];exact⟨_,_,rfl,rfl,bH _⟩
 rcases isLog t (Fl ht) with ⟨t1,t2,t3⟩| ⟨t1,t2⟩
 case inr=>simp only[a1,a2,t1,t2,ak];exact⟨_,_,rfl,rfl,bH _⟩
 simp only[a1,a2,t1,t2,ak,Fg,DE,FZ,Kz];by_cases c1: (t.length:Int)<=3
 case neg=>simp only[jZ,if_neg c1];exact⟨_,_,rfl,rfl,bH _⟩
 rw[of (n:=16-(t.length:Int)) (by omega) (by omega)];cases hw:HP n 0 (16-(t.length:Int)) with
 |false=>simp only[jZ,if_pos c1];exact⟨_,_,rfl,rfl,bH _⟩
 |true=>
  have hw:=Fj.1 hw;simp only[jZ,if_pos c1,DE]
  have rest: ∃l b,(if n>(a.length:Int) then some (([]:List sf),false,()) else iteP (0<=n/\n<=(a.length:Int)/\(a.length:Int)<=(a.length:Int)) ((Gy ((a.drop n.toNat).take ((a.length:Int).toNat-n.toNat)) t).bind λy3=>if y3.1< (if (t.length:Int)< (IntKind.wrap .i64 ((a.length:Int)-n)) then (t.length:Int) else (IntKind.wrap .i64 ((a.length:Int)-n))) then some (([]:List sf),false,()) else ((GM a).bind λy4=>iteP (0<=y3.1/\y3.1<=(t.length:Int)/\(t.length:Int)<=(t.length:Int)) (iteP ((y4.1++((t.drop y3.1.toNat).take ((t.length:Int).toNat-y3.1.toNat))).length*56<=2 ^ 40) ((F9 (y4.1++((t.drop y3.1.toNat).take ((t.length:Int).toNat-y3.1.toNat)))).bind λy5=>br y5.1 (some ((y4.1++((t.drop y3.1.toNat).take ((t.length:Int).toNat-y3.1.toNat))),true,())) (some (([]:List sf),false,()))) none) none)) none)=some (l,b,())/\
    (if n>(a.length:Int) then some (([]:List sf),false,()) else iteP (0<=(if (IntKind.wrap .i64 ((a.length:Int)-n))< (t.length:Int) then (IntKind.wrap .i64 ((a.length:Int)-n)) else (t.length:Int))/\(if (IntKind.wrap .i64 ((a.length:Int)-n))< (t.length:Int) then (IntKind.wrap .i64 ((a.length:Int)-n)) else (t.length:Int))<=(t.length:Int)/\(t.length:Int)<=(t.length:Int)) ((IB ([a,((t.drop (if (IntKind.wrap .i64 ((a.length:Int)-n))< (t.length:Int) then (IntKind.wrap .i64 ((a.length:Int)-n)) else (t.length:Int)).toNat).take ((t.length:Int).toNat-(if (IntKind.wrap .i64 ((a.length:Int)-n))< (t.length:Int) then (IntKind.wrap .i64 ((a.length:Int)-n)) else (t.length:Int)).toNat))]:List (List sf))).bind λy3=>iteP (0<=n/\n<=(IntKind.wrap .i64 (n+(if (IntKind.wrap .i64 ((a.length:Int)-n))< (t.length:Int) then (IntKind.wrap .i64 ((a.length:Int)-n)) else (t.length:Int))))/\(IntKind.wrap .i64 (n+(if (IntKind.wrap .i64 ((a.length:Int)-n))< (t.length:Int) then (IntKind.wrap .i64 ((a.length:Int)-n)) else (t.length:Int))))<=(a.length:Int)) (iteP (0<=(0:Int)/\(0:Int)<=(if (IntKind.wrap .i64 ((a.length:Int)-n))< (t.length:Int) then (IntKind.wrap .i64 ((a.length:Int)-n)) else (t.length:Int))/\(if (IntKind.wrap .i64 ((a.length:Int)-n))< (t.length:Int) then (IntKind.wrap .i64 ((a.length:Int)-n)) else (t.length:Int))<=(t.length:Int)) ((HG ((a.drop n.toNat).take ((IntKind.wrap .i64 (n+(if (IntKind.wrap .i64 ((a.length:Int)-n))< (t.length:Int) then (IntKind.wrap .i64 ((a.length:Int)-n)) else (t.length:Int)))).toNat-n.toNat)) ((t.drop (0:Int).toNat).take ((if (IntKind.wrap .i64 ((a.length:Int)-n))< (t.length:Int) then (IntKind.wrap .i64 ((a.length:Int)-n)) else (t.length:Int)).toNat-(0:Int).toNat))).bind λy4=>br y4.1 ((JY y3.1).bind λy5=>br y5.1 (some (y3.1,true,())) (some (([]:List sf),false,()))) (some (([]:List sf),false,()))) none) none) none)=some (l,b,())/\l.length<=19:=by
   by_cases c2:n>(a.length:Int)
   ·simp only[if_pos c2];exact⟨_,_,rfl,rfl,bH _⟩
   ·rw[of (n:=(a.length:Int)-n) (by omega) (by omega)];obtain⟨i,rfl⟩: ∃i:Nat,n=(i:Int):=⟨n.toNat,by omega⟩
    have hm: (if (a.length:Int)-(i:Int)< (t.length:Int) then (a.length:Int)-(i:Int) else (t.length:Int))=((min t.length (a.length-i):Nat):Int):=by split<;>omega
    have hm2: (if (t.length:Int)< (a.length:Int)-(i:Int) then (t.length:Int) else (a.length:Int)-(i:Int))=((min t.length (a.length-i):Nat):Int):=by split<;>omega
    rw[hm,hm2];generalize hM:min t.length (a.length-i)=m;have d1: (0:Int)<=(i:Int)/\(i:Int)<=(a.length:Int)/\(a.length:Int)<=(a.length:Int):=by omega
    have d2: (0:Int)<=(m:Int)/\(m:Int)<=(t.length:Int)/\(t.length:Int)<=(t.length:Int):=by omega
    have d3: (0:Int)<=(i:Int)/\(i:Int)<=((i:Int)+(m:Int))/\((i:Int)+(m:Int))<=(a.length:Int):=by omega
    have d4: (0:Int)<=0/\(0:Int)<=(m:Int)/\(m:Int)<=(t.length:Int):=by omega
    have e1: (a.drop i).take (a.length-i)=a.drop i:=bS (by simp);have e2: (t.drop m).take (t.length-m)=t.drop m:=bS (by simp);have e3: ((i:Int)+(m:Int)).toNat-i=m:=by omega
    have hc:=abG [a,t.drop m] (by simp) (by
     intro z hz;simp only[aX,List.not_mem_nil,or_false] at hz;rcases hz with rfl|rfl
     ·omega
     ·simp;omega)
    rw[show ([a,t.drop m]:List (List sf)).flatten=a++t.drop m by simp] at hc;rw[of (n:=(i:Int)+(m:Int)) (by omega) (by omega)];have hx: (a++t.drop m).length<=19:=by simp;omega
    have hxm: (a++t.drop m).length<=maxLen:=by unfold maxLen;omega
    have he:=X5 ((a.drop i).take m) (t.take m) (by simp[maxLen];omega);obtain⟨k,k1,k2,k3,k4,k5⟩:=PD (a.drop i) t (by simp[maxLen];omega);simp only[if_neg c2,C9,if_pos d1,if_pos d2,if_pos d3,if_pos d4,cO,Fc,cF,EW,e1,e2,e3,hc,he,k1,ak,jZ];have hk:k<=m:=by simp at k2;omega
    by_cases hkm:k=m
    ·subst hkm;simp only[if_neg (show ¬ ((k:Int)< (k:Int)) by omega),(JX a ha).1,ak,if_pos d2,e2,if_pos k4];rw[if_pos (RL (by omega) (by decide))];rcases isLog (a++t.drop k) hxm with ⟨z1,z2,_⟩| ⟨z1,z2⟩
     ·simp only[z1,z2,ak];exact⟨_,_,rfl,rfl,hx⟩
     ·simp only[z1,z2,ak];exact⟨_,_,rfl,rfl,bH _⟩
    ·have hlt:k<m:=by omega
     have hne: ¬ (a.drop i).take m=t.take m:=λh=>by have:=congrArg (λz:List sf=>z[k]?) h;simp only[bz,if_pos hlt] at this;exact k5 (by simp;omega) (by omega) this
     simp only[if_pos (show ((k:Int)< (m:Int)) by omega),if_neg hne];exact⟨_,_,rfl,rfl,bH _⟩
  by_cases h0:n=0
  ·simp only[Io,if_pos h0,DE];exact rest
  ·simp only[Io,if_neg h0];by_cases h3: (t.length:Int)=3
   ·simp only[h3,beq_self_eq_true,DE];rw[h3] at rest;exact rest
   ·have : ((t.length:Int)==3)=false:=by simpa using h3
    simp only[this,CU];exact⟨_,_,rfl,rfl,bH _⟩
end
section
theorem XR(x:vz):Ef (Mh x) (Mb x):=by
 obtain⟨b,h1,h2⟩:=PH x;unfold Mh Mb;simp only[h1,h2,ak];cases b with
 |false=>simp only[Bool.not_false,DE];cases ((x.epoch==0)&&((x.holder==0)&&((x.ends==0)&&true)))<;>exact⟨_,rfl,rfl⟩
 |true=>
  simp only[dk,CU];cases he:x.ends==0 with
  |true=>
   cases hz: ((x.epoch==0)&&((x.holder==0)&&(true&&true))) with
   |true=>exact⟨_,rfl,rfl⟩
   |false=>
    exfalso;unfold HK at h2;rw[he,hz] at h2;simp only[CU,Kz,ak] at h2
    have hw:HP x.ends 1 1049=false:=by rw[Bool.eq_false_iff];intro hw;have:=Fj.1 hw;simp only[beq_iff_eq] at he;omega
    rw[hw] at h2;revert h2;cases HP x.epoch 1 20<;>cases HP x.holder 0 4<;>intro h2<;>cases h2
  |false=>
   have hz: ((x.epoch==0)&&((x.holder==0)&&(false&&true)))=false:=by cases x.epoch==0<;>cases x.holder==0<;>rfl
   rw[hz];exact⟨_,rfl,rfl⟩
theorem Qt(x:vz)(n:Int):Ef (IW x n) (HB x n):=by obtain⟨b,h1,h2⟩:=PH x;obtain⟨t,t1,t2⟩:=XR x;unfold IW HB;simp only[h1,h2,t1,t2,FZ,Kz,ak];cases b<;>cases HP n 0 999<;>exact⟨_,rfl,rfl⟩
end
section
theorem SO{l:List vB}(hl:l.length<=maxLen)(hv:F0 l=some (true,())):l.length=5:=by
 obtain⟨b,h1,h2⟩:=NH l hl;rw[hv] at h1;simp only[af,au,and_true] at h1;subst h1;unfold Lf at h2;cases h: ((l.length:Int)==5) with
 |false=>rw[h] at h2;cases h2
 |true=>simp only[beq_iff_eq] at h;omega
end
section
theorem Vh(a b:List Int)(ha:Oo a)(hb:b.length<=maxLen):Gm a b=some (a.filter λx=> !decide (x∈b),()):=by
 have hl:=ha.len;have hm:a.length<=maxLen:=by unfold maxLen;omega
 have hp:=ha.pair
 have fm:=tC (B:=Hx) a (λk (out:List Int)=>((a,b,(),(k:Int),()),(),(out,()))) (λk out=>out=(a.take k).filter λx=> !decide (x∈b)) (λk r out=>(((),()),(),(out++r.filter λx=> !decide (x∈b),())))
  (λout hb=>by simp only[Hx];rw[jZ,if_neg (by omega)];simp)
  (λk out x hx hout=>by
    have hk:=yw hx;have c1: (k:Int)< (a.length:Int):=by omega
    have c2: (0:Int)<=(k:Int):=by omega
    have hxe:a[k] =x:=by rw[an hk] at hx;exact Option.some.inj hx
    simp only[Hx,Fg,jZ,C9,if_pos c1,if_pos c2,cO,hx,ak,(FI b x hb).1,kT hm hk];by_cases hin:x∈b
    ·simp only[if_pos hin];refine .inl ⟨out,rfl,?_,?_⟩
     ·rw[hout,EM,hx,EP];simp[hin]
     ·simp[hin]
    ·have hlt: ∀y∈out,y<x:=by
      intro y hy;rw[hout,EZ] at hy;obtain⟨i,hi,he⟩:=aQ hy.1;have hi':i<k:=by simp at hi;omega
      rw[E0] at he;rw[<-he,<-hxe];exact EK.1 hp i k (by omega) hk hi'
     have hol:out.length<=1000:=by rw[hout];have:=Fd (λx=> !decide (x∈b)) (a.take k);simp only[ci] at this;omega
     simp only[if_neg hin,WV out x hol hlt,ak];refine .inl ⟨out++ [x],rfl,?_,?_⟩
     ·rw[hout,EM,hx,EP];simp[hin]
     ·simp[hin])
  0 [] (bH _) rfl
 unfold Gm;rw[show N6 ((a,b,(),0,()),(),([],()))=_ from fm];rfl
end
section
theorem P9{l:List Int}(h:SS l)(hr: ∀y∈l,0<=y/\y<5):Oo l:=by intro k hk;have:=hr _ (dq hk);exact⟨by omega,λh0=>EK.1 h _ _ (by omega) hk (by omega)⟩
theorem QV{l:List Int}(h:Oo l):GG l=some (true,())/\HX l=some (true,()):=by
 have hl:=h.len;have hm:l.length<=maxLen:=by unfold maxLen;omega
 obtain⟨_,_,h1,h2⟩:=ND (B1:=Ha) (B2:=G9) l.length (λk (_:Unit)=>((l,(k:Int),()),(),())) (λk _=>((l,l,(l.length:Int),(k:Int),()),(),())) (λ_ _=>True) (λ_=> .inr (((),()),(),())) (λ_=> .inr (((),()),(),()))
  (λ_ _=>by simp only[Ha,G9,jZ];exact⟨if_neg (by omega),if_neg (by omega)⟩)
  (λk _ hk _=>by
    have c1: (k:Int)< (l.length:Int):=by omega
    have c2: (0:Int)<=(k:Int):=by omega
    obtain⟨r1,r2⟩:=h k hk;have w:HP l[k] 0 4=true:=Fj.2 r1;refine⟨(),?_⟩;simp only[Ha,G9,jZ,C9,if_pos c1,if_pos c2,cO,an hk,ak,FZ,Kz,w,dk,CU,kT hm hk];by_cases h0:0<k
    ·have c3: (k:Int)>0:=by omega
     have c4: (0:Int)<=((k-1:Nat):Int):=by omega
     have e2:l[k-1]? =some l[k-1] :=an (by omega);have:=r2 h0;simp only[if_pos c3,CQ h0 (by omega),if_pos c4,cO,e2,ak,if_neg (show ¬l[k-1] ≥l[k] by omega),if_neg (show ¬l[k] <=l[k-1] by omega),and_self]
    ·simp only[if_neg (show ¬ (k:Int)>0 by omega),and_self])
  () trivial
 unfold GG HX;rw[show LR ((l,0,()),(),())=_ from h1,show LQ ((l,l,(l.length:Int),0,()),(),())=_ from h2];exact⟨rfl,rfl⟩
end
section
theorem aao{α:Type}{w:α->Int}{l:List α}{k:Nat}{x:α}(h:l[k]? =some x)(y:α):M2 w (l.set k y)=M2 w l-w x+w y:=by
 induction l generalizing k with
 |nil=>cases h
 |cons z l ih=>
  cases k with
  |zero=>
   have :z=x:=by simpa using h
   subst this;simp only[List.set_cons_zero,M2];omega
  |succ k=>
   have h:l[k]? =some x:=by simpa using h
   simp only[List.set_cons_succ,M2,ih h];omega
end
section
theorem Zj{m:kB}(h:Mx 1048576 m)(hv:Fv m=some (true,())):m.configs.length<=20:=by
 obtain⟨f,_,_⟩:=OB (GS h) hv;rcases bu m.configs.length with h0|h0
 ·omega
 ·have hk:m.configs.length-1<m.configs.length:=by omega
  obtain⟨f1,f2⟩:=f _ hk;have:=(HV (Fr (h.2 _ (dq hk))) f1).2.2.2.2.1;omega
theorem ZA{α:Type}(w:α->Int)(l:List α)(x:α):M2 w (l++ [x])=M2 w l+w x:=by rw[Xe];simp[M2]
theorem VS(m:kB)(c:om)(h:Mx 1048576 m)(hc:GA 1048576 c): ∃r b,Hl m c=some (r,b,())/\JF m c=some (r,b,())/\Mx 1048576 r/\tMl r<=tMl m+1+S7 c/\(b=false->r=m)/\(b=true->r=⟨m.configs++ [c],m.activated⟩/\Fv m=some (true,())/\Fk c=some (true,())/\c.epoch=(m.configs.length:Int)+1):=by
 obtain⟨v,v1,v2⟩:=masterLog m (GS h);obtain⟨u,u1,u2⟩:=HH c (Fr hc);have hn:=Ue c;have hl:=h.1;unfold Hl JF;simp only[(PE m h).1,(PE m h).2,(MF c hc).1,(MF c hc).2,v1,v2,u1,u2,ak,Fg,Io];cases v with
 |false=>exact⟨m,false,rfl,rfl,h,by omega,λ_=>rfl,nofun⟩
 |true=>
  cases u with
  |false=>exact⟨m,false,rfl,rfl,h,by omega,λ_=>rfl,nofun⟩
  |true=>
   have hm:=Zj h v1;rw[of (n:=(m.configs.length:Int)+1) (by omega) (by omega)];by_cases he:c.epoch=(m.configs.length:Int)+1
   ·have hs: (m.configs++ [c]).length*64<=2 ^ 40:=RL (by simp;omega) (by decide);simp only[DE,if_pos he,C9,if_pos hs];refine⟨_,true,rfl,rfl,⟨by simp;omega,λd hd=> ?_⟩,?_,nofun,λ_=>⟨rfl,trivial,trivial,he⟩⟩
    ·rcases bi.1 hd with h1|h1
     ·exact h.2 d h1
     ·rw[aJ.1 h1];exact hc
    ·unfold tMl;simp only[ZA,Ko,be,cn];omega
   ·simp only[DE,if_neg he];exact⟨m,false,rfl,rfl,h,by omega,λ_=>rfl,nofun⟩
theorem Ug(m:kB)(e:Int)(h:Mx 1048576 m): ∃r b,Ga m e=some (r,b,())/\I9 m e=some (r,b,())/\Mx 1048576 r/\tMl r=tMl m/\(b=false->r=m)/\(b=true->r=⟨m.configs,e⟩/\Fv m=some (true,())/\e=(m.configs.length:Int)/\m.activated<e):=by
 obtain⟨v,v1,v2⟩:=masterLog m (GS h);unfold Ga I9;simp only[(PE m h).1,(PE m h).2,v1,v2,ak,Fg,Io,jZ];cases v with
 |false=>exact⟨m,false,rfl,rfl,h,rfl,λ_=>rfl,nofun⟩
 |true=>
  simp only[DE];by_cases h1:e=(m.configs.length:Int)
  ·by_cases h2:e<=m.activated
   ·simp only[if_pos h1,if_pos h2];exact⟨m,false,rfl,rfl,h,rfl,λ_=>rfl,nofun⟩
   ·simp only[if_pos h1,if_neg h2];exact⟨⟨m.configs,e⟩,true,rfl,rfl,h,rfl,nofun,λ_=>⟨rfl,trivial,h1,by omega⟩⟩
  ·simp only[if_neg h1];exact⟨m,false,rfl,rfl,h,rfl,λ_=>rfl,nofun⟩
def cutAt(l:List sf):Nat:=l.length-3
theorem Ul(l:List sf)(hl:l.length<=1048576): (if IntKind.wrap .i64 ((l.length:Int)-3)>0 then IntKind.wrap .i64 ((l.length:Int)-3) else 0)=((cutAt l:Nat):Int):=by rw[of (by omega) (by omega)];unfold cutAt;split<;>omega
theorem abI(l:List sf)(hl:l.length<=1048576)(hv:JY l=some (true,())):OV l=some (((cutAt l:Nat):Int),l.drop (cutAt l),()):=by
 unfold OV;have hc:cutAt l<=l.length:=by unfold cutAt;omega
 have c1: (0:Int)<=((cutAt l:Nat):Int)/\((cutAt l:Nat):Int)<=(l.length:Int)/\(l.length:Int)<=(l.length:Int):=by omega
 have ht: ((l.drop (cutAt l)).take (l.length-cutAt l))=l.drop (cutAt l):=bS (by simp);simp only[hv,ak,dk,CU,Ul l hl,C9,if_pos c1,cO,ht,(JX (l.drop (cutAt l)) (by simp;omega)).2]
def Xi(s:qQ)(c:om)(l:List sf)(w:Bool):qQ:=if w=true then ⟨s.up,true,s.version,c.epoch,c,((cutAt l:Nat):Int),l.drop (cutAt l),(l.length:Int),[]⟩ else ⟨s.up,true,s.version,c.epoch,c,0,l,(l.length:Int),[]⟩
theorem abP{s:qQ}{c:om}{l:List sf}{w:Bool}(hc:GA 1048576 c)(hl:l.length<=1048576):FN 1048576 (Xi s c l w)/\Py (Xi s c l w)<=S7 c+Ko l:=by
 unfold Xi;cases w
 ·refine⟨⟨hc,hl,bH _⟩,?_⟩;simp only[Py,Ko,aR,if_false,bX];omega
 ·refine⟨⟨hc,by simp;omega,bH _⟩,?_⟩;simp only[Py,Ko,if_true,bX,bR];omega
theorem Vm(s:qQ)(c:om)(id:Int)(l:List sf)(hs:FN 1048576 s)(hc:GA 1048576 c)(hl:l.length<=1048576): ∃r b,Gj s c id l=some (r,b,())/\JE s c id l=some (r,b,())/\FN 1048576 r/\Py r<=Py s+S7 c+Ko l/\(b=false->r=s)/\(b=true-> ∃w,r=Xi s c l w):=by
 obtain⟨n,r1,r2,_⟩:=OT c id (Fr hc);obtain⟨e,e1,e2⟩:=KB l (Fl hl);obtain⟨q,q1,q2⟩:=abc l (Fl hl);have t1:=acm s;have t2:=Ue c;have t3:=acp l;have no: ∃r b,some (s,false,())=some (r,b,())/\some (s,false,())=some (r,b,())/\FN 1048576 r/\Py r<=Py s+S7 c+Ko l/\(b=false->r=s)/\(b=true-> ∃w,r=Xi s c l w):=⟨s,false,rfl,rfl,hs,by omega,λ_=>rfl,nofun⟩
 unfold Gj JE;simp only[r1,r2,(Ov s hs).1,(Ov s hs).2,(MF c hc).1,(MF c hc).2,(JX l hl).1,(JX l hl).2,FZ,Kz,e1,e2,q1,q2,ak,Fg,jZ];have hcut:cutAt l<=l.length:=by unfold cutAt;omega
 have c1: (0:Int)<=((cutAt l:Nat):Int)/\((cutAt l:Nat):Int)<=(l.length:Int)/\(l.length:Int)<=(l.length:Int):=by omega
 have ht: ((l.drop (cutAt l)).take (l.length-cutAt l))=l.drop (cutAt l):=bS (by simp);cases hn:n==0 with
 |true=>exact no
 |false=>
 rcases isLog l (Fl hl) with ⟨a1,a2,_⟩| ⟨a1,a2⟩
 case inr=>simp only[a1,a2,ak,CU];exact no
 simp only[a1,a2,ak,DE,CU,Ul l hl,C9,if_pos c1,cO,ht,(JX (l.drop (cutAt l)) (by simp;omega)).1,abI l hl a2];cases HP s.version 1 2 with
 |false=>exact no
 |true=>
 cases HP s.epoch 0 c.epoch with
 |false=>exact no
 |true=>
 simp only[DE];by_cases he:e>c.epoch
 ·simp only[if_pos he];exact no
 simp only[if_neg he]
 have yes: ∀w,∃r b,some (Xi s c l w,true,())=some (r,b,())/\some (Xi s c l w,true,())=some (r,b,())/\FN 1048576 r/\Py r<=Py s+S7 c+Ko l/\(b=false->r=s)/\(b=true-> ∃w,r=Xi s c l w):=by intro w;obtain⟨o1,o2⟩:=abP (s:=s) (c:=c) (l:=l) (w:=w) hc hl;exact⟨_,true,rfl,rfl,o1,by omega,nofun,λ_=>⟨w,rfl⟩⟩
 cases s.version==1 with
 |false=>
  cases n==3 with
  |false=>exact yes false
  |true=>exact yes true
 |true=>
  cases q with
  |true=>exact no
  |false=>
   cases n==3 with
   |false=>exact yes false
   |true=>exact yes true
end
section

end
section

end
section

end
section
theorem aae(s:qQ)(id:Int)(h:FN 1048576 s): (data s id).length<=1048576:=by
 have h1:=h.2.1;have h2:=h.2.2
 have h3: (RP s).length<=s.log.length:=by
  unfold RP;split
  ·simp;omega
  ·exact bH _
 unfold data;split
 ·split<;>omega
 ·exact h2
end
section
abbrev fx(x:qN):Int×List qQ×List Int×List om×Int×Int×Int×Int×Int×List vB×Unit:=(x.now,x.servers,x.sides,x.master.configs,x.master.activated,x.masterUp,x.lease.epoch,x.lease.holder,x.lease.ends,x.places,())
abbrev fsv(s:qQ):Bool×Bool×Int×Int×Int×Int×List Int×List Int×Int×List sf×Int×List sf×Unit:=(s.up,s.intact,s.version,s.epoch,s.config.epoch,s.config.primary,s.config.replicas,s.config.witnesses,s.first,s.log,s.commit,s.learned,())
structure Z6 (x x':qN):Prop where
 sides:x'.sides=x.sides
 master:x'.master=x.master
 srv: ∀ (k:Nat) (s:qQ),x.servers[k]? =some s-> ∃e,x'.servers[k]? =some (⟨s.up,s.intact,s.version,e,s.config,s.first,s.log,s.commit,s.learned⟩:qQ)
theorem Z6.refl(x:qN):Z6 x x:=⟨rfl,rfl,λ_ s h=>⟨s.epoch,h⟩⟩
theorem Z6.side{x x':qN}(h:Z6 x x')(a:Int):IX x' a=IX x a:=by unfold IX;rw[h.sides]
theorem Z7{x:qN}(ok:FF 1048576 x)(hv:Ff x=some (true,())): ∃c d,Fm x.master=some (c,d,())/\FL x.master=some (c,d,())/\GA maxLen c/\c.replicas.length<=5/\c.witnesses.length<=5/\(∀z∈c.replicas,0<=z/\z<5)/\(∀z∈c.witnesses,0<=z/\z<5)/\(d=false->c=⟨0,0,[],[]⟩):=by
 obtain⟨c,d,d1,d2,d3,d4,d5,d6⟩:=PS x ok hv
 have rng: ∀ {l:List Int},Oo l-> ∀y∈l,0<=y/\y<5:=by intro l ha y hy;obtain⟨k,hk,rfl⟩:=aQ hy;have:=(ha k hk).1;omega
 cases d with
 |false=>exact⟨c,false,d1,d2,d3,by rw[d6 rfl];simp,by rw[d6 rfl];simp,by rw[d6 rfl];simp,by rw[d6 rfl];simp,d6⟩
 |true=>obtain⟨a1,a2,_⟩:=HV d3 (d5 rfl).1;exact⟨c,true,d1,d2,d3,a1.len,a2.len,rng a1,rng a2,nofun⟩
section
variable {x x':qN} (ok:FF 1048576 x) (ok':FF 1048576 x') (hv:Ff x=some (true,())) (hv':Ff x'=some (true,())) (se:Z6 x x') {id:Int} (hid:0<=id/\id<5)
include ok ok' hv hv' se hid
theorem Vj: ∃l,G3 x id=some (l,())/\HY x' id=some (l,())/\l.length<=5/\ ∀z∈l,0<=z/\z<5:=by
 have vc:=FJ ok hv;have vc':=FJ ok' hv';obtain⟨c,d,d1,d2,d3,r5,_,inr,_,d6⟩:=Z7 ok hv;have rm:c.replicas.length<=maxLen:=by unfold maxLen;omega
 have uA:HP id 0 4=true:=Fj.2 (by omega)
 have hgood:FK x' id=some (true,()):=by obtain⟨v,w1,w2⟩:=FR x' ok';rw[hv'] at w1;simp only[af,au,and_true] at w1;subst w1;unfold FK;simp only[w2,ak,Kz,uA,DE]
 unfold G3 HY;have d2':FL x'.master=some (c,d,()):=by rw[se.master];exact d2
 simp only[d1,d2',hgood,ak,Fg,DE];cases d with
 |false=>
  have hc:=d6 rfl;subst hc
  rw[show LS ((id,(),(),(),false,0,()),(fx x,(0,0,(),(),()),()),([],[],[],()))=some (((),()),(),([],())) from me (by simp only[Hc];rfl)]
  exact⟨[],rfl,rfl,bH _,nofun⟩
 |true=>
  obtain⟨l,q,k1,k2⟩:=ND (B1:=Hc) (B2:=I4) c.replicas.length (λk (b:List Int)=>((id,(),(),(),true,(k:Int),()),(fx x,(c.epoch,c.primary,(),(),()),()),(b,c.replicas,c.witnesses,()))) (λk b=>((id,(),(),(),(),(c.replicas.length:Int),(k:Int),()),(fx x',(c.epoch,c.primary,(),(),()),()),(b,c.replicas,c.witnesses,()))) (λk b=>b.length<=k/\ ∀z∈b,0<=z/\z<5) (λb=>(((),()),(),(b,()))) (λb=>(((),()),(),(b,())))
   (λb _=>by simp only[Hc,I4,jZ];exact⟨if_neg (by omega),if_neg (by omega)⟩)
   (λk b hk hb=>by
     have c1: (k:Int)< (c.replicas.length:Int):=by omega
     have c2: (0:Int)<=(k:Int)/\(k:Int)< (c.replicas.length:Int):=by omega
     have hz:=inr _ (dq hk);generalize hzz:c.replicas[k] =z at hz;have hg:c.replicas[k]? =some z:=by rw[<-hzz];exact an hk
     obtain⟨s,s1,s2,_⟩:=Jp ok vc hz;obtain⟨e,e1⟩:=se.srv _ _ s1;obtain⟨h1,_⟩:=Nb x ok vc hid hz;obtain⟨_,h2⟩:=Nb x' ok' vc' hid hz;rw[se.side,se.side] at h2;have h40: (b++ [z]).length*8<=2 ^ 40:=JB (by simp;omega)
     simp only[Hc,I4,Mc,fx,jZ,DE,C9,if_pos c1,if_pos c2,cO,hg,ak,
      show (⟨x.now,x.servers,x.sides,(⟨x.master.configs,x.master.activated⟩:kB),x.masterUp,(⟨x.lease.epoch,x.lease.holder,x.lease.ends⟩:vz),x.places⟩:qN)=x from rfl,hv,FZ,uA,if_pos hz.1,s1,e1,h1,h2,if_pos h40,kT rm hk]
     have hb': (b++ [z]).length<=k+1/\ ∀y∈b++ [z],0<=y/\y<5:=⟨by simp;omega,λy hy=>by
      rcases bi.1 hy with h|h
      ·exact hb.2 y h
      ·rw[aJ.1 h];exact hz⟩
     have hb'':b.length<=k+1/\ ∀y∈b,0<=y/\y<5:=⟨by omega,hb.2⟩
     cases s.up<;>cases (s.config.epoch==c.epoch)<;>cases (IX x id==IX x z)<;>simp only[DE,CU,ak]<;>first |exact⟨b++ [z],rfl,rfl,hb'⟩|exact⟨b,rfl,rfl,hb''⟩)
   [] ⟨bH _,nofun⟩
  rw[show LS ((id,(),(),(),true,0,()),(fx x,(c.epoch,c.primary,(),(),()),()),([],c.replicas,c.witnesses,()))=_ from k1,
   show Qu ((id,(),(),(),(),(c.replicas.length:Int),0,()),(fx x',(c.epoch,c.primary,(),(),()),()),([],c.replicas,c.witnesses,()))=_ from k2]
  exact⟨l,rfl,rfl,by omega,q.2⟩
theorem Ui: ∃n,G2 x id=some (n,())/\IE x' id=some (n,())/\(n= -1\/(0<=n/\n<5)):=by
 have vc:=FJ ok hv;obtain⟨l,l1,l2,l3,inl⟩:=Vj ok ok' hv hv' se hid;have lm:l.length<=maxLen:=by unfold maxLen;omega
 obtain⟨n,q,k1,k2⟩:=ND (B1:=Hb) (B2:=I3) l.length (λk (b:Int)=>(((),b,(),(k:Int),()),(fx x,()),(l,()))) (λk b=>(((),b,(),(l.length:Int),(k:Int),()),(fx x',()),(l,()))) (λ_ b=>b= -1\/(0<=b/\b<5)) (λb=>((b,()),(),())) (λb=>((b,()),(),()))
  (λb _=>by simp only[Hb,I3,jZ];exact⟨if_neg (by omega),if_neg (by omega)⟩)
  (λk b hk hb=>by
    have c1: (k:Int)< (l.length:Int):=by omega
    have c2: (0:Int)<=(k:Int)/\(k:Int)< (l.length:Int):=by omega
    have hz:=inl _ (dq hk);generalize hzz:l[k] =z at hz;have hg:l[k]? =some z:=by rw[<-hzz];exact an hk
    obtain⟨s,s1,s2,_⟩:=Jp ok vc hz;obtain⟨e,e1⟩:=se.srv _ _ s1;simp only[Hb,I3,fx,jZ,C9,if_pos c1,if_pos c2,cO,hg,ak,if_pos hz.1,s1,e1,kT lm hk];rcases hb with rfl|hb
    ·exact⟨z,rfl,rfl,.inr hz⟩
    ·obtain⟨t,t1,t2,_⟩:=Jp ok vc hb;obtain⟨f,f1⟩:=se.srv _ _ t1;simp only[if_neg (show ¬b<0 by omega),if_pos hb.1,t1,f1,ak];by_cases h: (s.log.length:Int)>(t.log.length:Int)
     ·simp only[if_pos h];exact⟨z,rfl,rfl,.inr hz⟩
     ·simp only[if_neg h];exact⟨b,rfl,rfl,.inr hb⟩)
  (-1) (.inl rfl)
 unfold G2 IE;simp only[l1,l2,ak];rw[show N4 (((),(-1),(),0,()),(fx x,()),(l,()))=_ from k1,show N3 (((),(-1),(),(l.length:Int),0,()),(fx x',()),(l,()))=_ from k2];exact⟨n,rfl,rfl,q⟩
omit ok hv se in
theorem aam:FK x' id=some (true,()):=by obtain⟨v,w1,w2⟩:=FR x' ok';rw[hv'] at w1;simp only[af,au,and_true] at w1;subst w1;unfold FK;simp only[w2,ak,Kz,Fj.2 (show 0<=id/\id<=4 by omega),DE]
theorem W9{c:om}{w w':qQ}{z j:Int}(hw:FN 1048576 w)(h1:w'.first=w.first)(h2:w'.log=w.log)(b:List sf×Bool)(hb:b.1.length<=19/\(b.2=false->b.1= [])): ∃r:List sf×Bool,(r.1.length<=19/\(r.2=false->r.1= []))/\
  K7 ((id,(),(),b.2,(),true,j,(),0,()),(fx x,(c.epoch,c.primary,(),(),()),fsv w,()),(b.1,c.replicas,c.witnesses,()))=some ((id,(),(),r.2,(),true,j,()),(fx x,(c.epoch,c.primary,(),(),()),()),(r.1,c.replicas,c.witnesses,()))/\
  PZ ((id,(),(),(),b.2,(),(),z,j,x'.servers,(x'.servers.length:Int),0,()),(fx x',(c.epoch,c.primary,(),(),()),fsv w',()),(b.1,c.witnesses,c.replicas,()))=some ((id,(),(),(),r.2,(),z,j,()),(fx x',(c.epoch,c.primary,(),(),()),()),(r.1,c.witnesses,c.replicas,())):=by
 have vc:=FJ ok hv;have vc':=FJ ok' hv'
 refine ND (B1:=GZ) (B2:=Iq) 5 (λk (b:List sf×Bool)=>((id,(),(),b.2,(),true,j,(),(k:Int),()),(fx x,(c.epoch,c.primary,(),(),()),fsv w,()),(b.1,c.replicas,c.witnesses,()))) (λk b=>((id,(),(),(),b.2,(),(),z,j,x'.servers,(x'.servers.length:Int),(k:Int),()),(fx x',(c.epoch,c.primary,(),(),()),fsv w',()),(b.1,c.witnesses,c.replicas,()))) (λ_ b=>b.1.length<=19/\(b.2=false->b.1= [])) (λb=>((id,(),(),b.2,(),true,j,()),(fx x,(c.epoch,c.primary,(),(),()),()),(b.1,c.replicas,c.witnesses,()))) (λb=>((id,(),(),(),b.2,(),z,j,()),(fx x',(c.epoch,c.primary,(),(),()),()),(b.1,c.witnesses,c.replicas,())))
  (λb _=> ?_) (λk b hk hb=> ?_) b hb
 ·simp only[GZ,Iq,jZ,vc'.len];exact⟨if_neg (by omega),if_neg (by omega)⟩
 ·have c1: (k:Int)<5:=by omega
  have c1': (k:Int)< (x'.servers.length:Int):=by rw[vc'.len];omega
  have c2: (0:Int)<=(k:Int):=by omega
  have hkk:0<=(k:Int)/\(k:Int)<5:=⟨c2,c1⟩
  obtain⟨s,s1,s2,s3⟩:=Jp ok vc hkk;obtain⟨t,t1,t2,t3⟩:=Jp ok' vc' hkk;obtain⟨e,e1⟩:=se.srv _ _ s1;rw[t1] at e1;have e1:=Option.some.inj e1;obtain⟨g1,_⟩:=Nb x ok vc hid hkk;obtain⟨_,g2⟩:=Nb x' ok' vc' hid hkk;rw[se.side,se.side] at g2;have dt:data t (k:Int)=data s (k:Int):=by rw[e1];rfl
  have tup:t.up=s.up:=by rw[e1]
  obtain⟨q1,_⟩:=YU s (k:Int) s2 s3;obtain⟨_,q2⟩:=YU t (k:Int) t2 t3;rw[dt] at q2;have dl: (data s (k:Int)).length<=1048576:=aae s _ s2;obtain⟨l,f,j1,j2,j3⟩:=aat (data s (k:Int)) w.first w.log dl hw.2.1;have sw:=kT (n:=5) (by decide) hk;rw[cO] at s1 t1;simp only[GZ,Iq,fx,fsv,jZ,Fg,C9,if_pos c1,if_pos c1',if_pos c2,cO,s1,t1,ak,tup,g1,g2,q1,q2,h1,h2,j1,j2,sw];cases s.up with
  |false=>exact⟨b,rfl,rfl,hb⟩
  |true=>
   cases (IX x id==IX x (k:Int)) with
   |false=>exact⟨b,rfl,rfl,hb⟩
   |true=>
    cases f with
    |false=>exact⟨b,rfl,rfl,hb⟩
    |true=>
     simp only[DE];cases hb2:b.2 with
     |false=>exact⟨(l,true),rfl,rfl,j3,nofun⟩
     |true=>
      simp only[DE];by_cases h: (l.length:Int)>(b.1.length:Int)
      ·simp only[if_pos h];exact⟨(l,true),rfl,rfl,j3,nofun⟩
      ·simp only[if_neg h];exact⟨b,by rw[hb2],by rw[hb2],hb⟩
theorem Vk: ∃l b,GH x id=some (l,b,())/\IJ x' id=some (l,b,())/\l.length<=19:=by
 have vc:=FJ ok hv;have vc':=FJ ok' hv';obtain⟨c,d,d1,d2,d3,_,r5,_,inw,d6⟩:=Z7 ok hv;have rm:c.witnesses.length<=maxLen:=by unfold maxLen;omega
 have uA:HP id 0 4=true:=Fj.2 (by omega);have hgood:=aam ok' hv' hid;have d2':FL x'.master=some (c,d,()):=by rw[se.master];exact d2
 unfold GH IJ;simp only[d1,d2',hgood,ak,Fg,DE];cases d with
 |false=>
  have hc:=d6 rfl;subst hc
  rw[show LU ((id,(),(),false,(),false,0,()),(fx x,(0,0,(),(),()),()),([],[],[],()))=some (((),false,()),(),([],())) from me (by simp only[Gw];rfl)]
  exact⟨[],false,rfl,rfl,bH _⟩
 |true=>
  obtain⟨r,q,k1,k2⟩:=ND (B1:=Gw) (B2:=I5) c.witnesses.length (λk (b:List sf×Bool)=>((id,(),(),b.2,(),true,(k:Int),()),(fx x,(c.epoch,c.primary,(),(),()),()),(b.1,c.replicas,c.witnesses,()))) (λk b=>((id,(),(),(),b.2,(),(c.witnesses.length:Int),(k:Int),()),(fx x',(c.epoch,c.primary,(),(),()),()),(b.1,c.witnesses,c.replicas,()))) (λ_ b=>b.1.length<=19/\(b.2=false->b.1= [])) (λb=>(((),b.2,()),(),(b.1,()))) (λb=>(((),b.2,()),(),(b.1,())))
   (λb _=>by simp only[Gw,I5,jZ];exact⟨if_neg (by omega),if_neg (by omega)⟩)
   (λk b hk hb=>by
     have c1: (k:Int)< (c.witnesses.length:Int):=by omega
     have c2: (0:Int)<=(k:Int)/\(k:Int)< (c.witnesses.length:Int):=by omega
     have hz:=inw _ (dq hk);generalize hzz:c.witnesses[k] =z at hz;have hg:c.witnesses[k]? =some z:=by rw[<-hzz];exact an hk
     obtain⟨s,s1,s2,_⟩:=Jp ok vc hz;obtain⟨e,e1⟩:=se.srv _ _ s1;obtain⟨h1,_⟩:=Nb x ok vc hid hz;obtain⟨_,h2⟩:=Nb x' ok' vc' hid hz;rw[se.side,se.side] at h2;obtain⟨r,r1,r2,r3⟩:=W9 ok ok' hv hv' se hid (c:=c) (w:=s) (w':=⟨s.up,s.intact,s.version,e,s.config,s.first,s.log,s.commit,s.learned⟩) (z:=(c.witnesses.length:Int)) (j:=(k:Int)) s2 rfl rfl b hb;simp only[fx,fsv] at r2 r3
     simp only[Gw,I5,Mc,fx,jZ,Fg,DE,C9,if_pos c1,if_pos c2,cO,hg,ak,
      show (⟨x.now,x.servers,x.sides,(⟨x.master.configs,x.master.activated⟩:kB),x.masterUp,(⟨x.lease.epoch,x.lease.holder,x.lease.ends⟩:vz),x.places⟩:qN)=x from rfl,hv,FZ,uA,if_pos hz.1,s1,e1,h1,h2,r2,r3,kT rm hk]
     cases s.up<;>cases (s.config.epoch==c.epoch)<;>cases (IX x id==IX x z)<;>simp only[DE,CU,ak]<;>first |exact⟨b,rfl,rfl,hb⟩|exact⟨r,rfl,rfl,r1⟩)
   ([],false) ⟨bH _,λ_=>rfl⟩
  rw[show LU ((id,(),(),false,(),true,0,()),(fx x,(c.epoch,c.primary,(),(),()),()),([],c.replicas,c.witnesses,()))=_ from k1,
   show Qv ((id,(),(),(),false,(),(c.witnesses.length:Int),0,()),(fx x',(c.epoch,c.primary,(),(),()),()),([],c.witnesses,c.replicas,()))=_ from k2]
  simp only[ak];obtain⟨l,f⟩:=r;cases f with
  |true=>exact⟨l,true,rfl,rfl,q.1⟩
  |false=>have:=q.2 rfl;simp only at this;subst this;exact⟨[],false,rfl,rfl,bH _⟩
theorem Wm: ∃l b,Gp x id=some (l,b,())/\II x' id=some (l,b,())/\l.length<=1048576:=by
 have vc:=FJ ok hv;have uA:HP id 0 4=true:=Fj.2 (by omega);have hgood:=aam ok' hv' hid;obtain⟨n,n1,n2,n3⟩:=Ui ok ok' hv hv' se hid;obtain⟨l,b,l1,l2,l3⟩:=Vk ok ok' hv hv' se hid;unfold Gp II;rw[se.master];simp only[hv,hgood,FZ,uA,n1,n2,l1,l2,ak,Fg,DE];cases (x.master.activated==0) with
 |true=>exact⟨[],true,rfl,rfl,bH _⟩
 |false=>
  simp only[CU,jZ];rcases n3 with rfl|hn
  ·simp only[if_neg (show ¬ (-1:Int)≥0 by omega)];exact⟨l,b,rfl,rfl,by omega⟩
  ·obtain⟨s,s1,s2,_⟩:=Jp ok vc hn;obtain⟨e,e1⟩:=se.srv _ _ s1;simp only[if_pos (show n≥0 by omega),C9,if_pos hn.1,s1,e1,ak,(JX _ s2.2.1).1,(JX _ s2.2.1).2];exact⟨_,_,rfl,rfl,s2.2.1⟩
end
end
section
structure SV (m:kB) (s:qQ) (k:Int):Prop where
 val:Fi s k=some (true,())
 ep:s.epoch<=(m.configs.length:Int)
 lrn: ∃e,Iz s.learned=some (e,())/\e<=m.activated
 cfg:s.config=⟨0,0,[],[]⟩\/(G4 m s.config.epoch=some (s.config,true,())/\s.config.epoch<=m.activated)
theorem adE(x:qN)(ok:FF 1048576 x)(k:Nat)(hk:k<x.servers.length):
  (SV x.master x.servers[k] (k:Int)/\Fn (((),(k:Int),()),((x.now,x.servers,x.sides,x.master.configs,x.master.activated,x.masterUp,x.lease.epoch,x.lease.holder,x.lease.ends,x.places,()),()),())=some (.inl (((),((k+1:Nat):Int),()),((x.now,x.servers,x.sides,x.master.configs,x.master.activated,x.masterUp,x.lease.epoch,x.lease.holder,x.lease.ends,x.places,()),()),())))\/
  (¬SV x.master x.servers[k] (k:Int)/\Fn (((),(k:Int),()),((x.now,x.servers,x.sides,x.master.configs,x.master.activated,x.masterUp,x.lease.epoch,x.lease.holder,x.lease.ends,x.places,()),()),())=some (.inr (.inl ((false,()),(),())))):=by
 obtain⟨⟨hs1,hs2⟩,hsd,hml,hpl⟩:=ok;have hm:=Fl hs1;have c1: (k:Int)< (x.servers.length:Int):=by omega
 have c2: (0:Int)<=(k:Int):=by omega
 have hsk:=hs2 _ (dq hk);obtain⟨b,v1,v2⟩:=OF x.servers[k] (k:Int) hsk;obtain⟨n,n1,n2⟩:=KB x.servers[k].learned (Fl hsk.2.2);obtain⟨c,d,d1,d2,d3⟩:=MQ x.master x.servers[k].config.epoch hml;have hcfg:=Fr hsk.1
 simp only[Fn,jZ,C9,if_pos c1,if_pos c2,cO,an hk,ak,v1,n1,kT hm hk,Fg,
  show (⟨x.master.configs,x.master.activated⟩:kB)=x.master from rfl,d1,MN _ hcfg,(GD c x.servers[k].config d3).1]
 cases b with
 |false=>exact .inr ⟨(λh=>(by have h:=v1.symm.trans h.val;cases h)),rfl⟩
 |true=>
  simp only[DE];by_cases h1:x.servers[k].epoch>(x.master.configs.length:Int)
  ·simp only[if_pos h1];exact .inr ⟨λh=>by have:=h.ep;omega,trivial⟩
  ·simp only[if_neg h1];by_cases h2:n>x.master.activated
   ·simp only[if_pos h2];refine .inr ⟨λh=> ?_,trivial⟩;obtain⟨e,e1,e2⟩:=h.lrn;rw[n1] at e1;simp only[af,au,and_true] at e1;omega
   ·simp only[if_neg h2];by_cases h3:x.servers[k].config=⟨0,0,[],[]⟩
    ·simp only[if_pos h3];exact .inl ⟨⟨v1,by omega,⟨n,n1,by omega⟩,.inl h3⟩,trivial⟩
    ·simp only[if_neg h3];cases d with
     |false=>
      refine .inr ⟨λh=> ?_,rfl⟩;rcases h.cfg with h| ⟨h,_⟩
      ·exact h3 h
      ·rw[d1] at h;cases h
     |true=>
      simp only[DE];by_cases h4:c=x.servers[k].config
      ·simp only[if_pos h4];by_cases h5:x.servers[k].config.epoch>x.master.activated
       ·simp only[if_pos h5];refine .inr ⟨λh=> ?_,trivial⟩;rcases h.cfg with h| ⟨_,h⟩
        ·exact h3 h
        ·omega
       ·simp only[if_neg h5];exact .inl ⟨⟨v1,by omega,⟨n,n1,by omega⟩,.inr ⟨by rw[d1,h4],by omega⟩⟩,trivial⟩
      ·simp only[if_neg h4];refine .inr ⟨λh=> ?_,trivial⟩;rcases h.cfg with h| ⟨h,_⟩
       ·exact h3 h
       ·rw[d1] at h;simp only[af,au,and_true] at h;exact h4 h
theorem W8(x:qN)(ok:FF 1048576 x):
  ((∀k (hk:k<x.servers.length),SV x.master x.servers[k] (k:Int))/\HA (((),0,()),((x.now,x.servers,x.sides,x.master.configs,x.master.activated,x.masterUp,x.lease.epoch,x.lease.holder,x.lease.ends,x.places,()),()),())=some (.inr (((),()),(),())))\/
  ((∃k,∃hk:k<x.servers.length,¬SV x.master x.servers[k] (k:Int))/\HA (((),0,()),((x.now,x.servers,x.sides,x.master.configs,x.master.activated,x.masterUp,x.lease.epoch,x.lease.holder,x.lease.ends,x.places,()),()),())=some (.inl ((false,()),(),()))):=by
 have fm:=DJ (B1:=Fn) (B2:=Fn) x.servers.length (λk=>(((),(k:Int),()),((x.now,x.servers,x.sides,x.master.configs,x.master.activated,x.masterUp,x.lease.epoch,x.lease.holder,x.lease.ends,x.places,()),()),())) (λk=>(((),(k:Int),()),((x.now,x.servers,x.sides,x.master.configs,x.master.activated,x.masterUp,x.lease.epoch,x.lease.holder,x.lease.ends,x.places,()),()),())) (.inr (((),()),(),())) (.inr (((),()),(),())) (λ_=> .inl ((false,()),(),())) (λ_=> .inl ((false,()),(),()))
  (λk=> ∀hk:k<x.servers.length,SV x.master x.servers[k] (k:Int)) (λk=> ∃hk:k<x.servers.length,¬SV x.master x.servers[k] (k:Int))
  (by simp only[Fn];rw[jZ,if_neg (by omega)])
  (by simp only[Fn];rw[jZ,if_neg (by omega)])
  (λk hk=>by
    rcases adE x ok k hk with ⟨h1,h2⟩| ⟨h1,h2⟩
    ·exact .inl ⟨h2,h2,λ_=>h1⟩
    ·exact .inr ⟨h2,h2,hk,h1⟩)
 rcases fm with ⟨k1,_,k3⟩| ⟨k,hk,k1,_,k3⟩
 ·exact .inl ⟨λk hk=>k3 k hk hk,k1⟩
 ·exact .inr ⟨⟨k,k3⟩,k1⟩
theorem Tz{x:qN}(ok:FF 1048576 x)(hv:Ff x=some (true,())): ∀k (hk:k<x.servers.length),SV x.master x.servers[k] (k:Int):=by
 rcases W8 x ok with ⟨h,_⟩| ⟨_,h⟩
 ·exact h
 ·exfalso;obtain⟨b1,a1,_⟩:=NL x.sides (Fl ok.2.1);obtain⟨b2,m1,_⟩:=masterLog x.master (GS ok.2.2.1);obtain⟨b3,l1,_⟩:=PH x.lease;obtain⟨b4,p1,_⟩:=NH x.places (Fl ok.2.2.2);unfold Ff at hv;simp only[FZ,a1,m1,l1,p1,ak,h,EO] at hv;revert hv;cases HP x.now 0 999<;>cases ((x.servers.length:Int)==5)<;>cases b1<;>cases b2<;>cases HP x.masterUp 0 3<;>cases b3<;>cases b4<;>cases decide (x.lease.epoch>x.master.activated)<;>intro hv<;>cases hv
theorem adB{x:qN}(ok:FF 1048576 x)(hv:Ff x=some (true,()))(S:List qQ)(hl:S.length=x.servers.length)(hok: ∀s∈S,FN 1048576 s)(hS: ∀k (hk:k<S.length),SV x.master S[k] (k:Int)):
  FF 1048576 ⟨x.now,S,x.sides,x.master,x.masterUp,x.lease,x.places⟩/\Ff ⟨x.now,S,x.sides,x.master,x.masterUp,x.lease,x.places⟩=some (true,()):=by
 have ok2:FF 1048576 ⟨x.now,S,x.sides,x.master,x.masterUp,x.lease,x.places⟩:=⟨⟨by show S.length<=_;rw[hl];exact ok.1.1,hok⟩,ok.2.1,ok.2.2.1,ok.2.2.2⟩
 refine⟨ok2,?_⟩;rcases W8 x ok with ⟨_,h1⟩| ⟨⟨k,hk,h0⟩,_⟩
 ·rcases W8 ⟨x.now,S,x.sides,x.master,x.masterUp,x.lease,x.places⟩ ok2 with ⟨_,h2⟩| ⟨⟨k,hk,h0⟩,_⟩
  ·have hv':=hv;unfold Ff at hv' ⊢;rw[h1] at hv';rw[h2];simp only[hl];exact hv'
  ·exact absurd (hS k hk) h0
 ·exact absurd (Tz ok hv k hk) h0
theorem SV.old{m:kB}{s:qQ}{k:Int}(h:SV m s k)(hm:Mx 1048576 m)(hv:Fv m=some (true,())):s.config.epoch<=(m.configs.length:Int):=by
 obtain⟨_,f2,f3⟩:=OB (GS hm) hv;rcases h.cfg with h| ⟨_,h⟩
 ·rw[h];show (0:Int)<=_;omega
 ·omega
end
section
theorem Wa{α:Type}{w:α->Int}: ∀ {a b:List α},a.length=b.length->(∀ (j:Nat) (ha:j<a.length) (hb:j<b.length),w a[j] =w b[j])->M2 w a=M2 w b
 | [],[],_,_=>rfl
 |x::a,y::b,h,h2=>by
  have h0:=h2 0 (by simp) (by simp);simp only[List.getElem_cons_zero] at h0
  have ih:=Wa (w:=w) (a:=a) (b:=b) (by simpa using h) λj ha hb=>by have:=h2 (j+1) (by simpa using ha) (by simpa using hb);simpa using this
  unfold M2;rw[h0,ih]
abbrev Nn(s:qQ)(e:Int):qQ:=⟨s.up,s.intact,s.version,e,s.config,s.first,s.log,s.commit,s.learned⟩
theorem ad3{s:qQ}{id:Int}(h:FN 1048576 s)(hv:Fi s id=some (true,())):s.config.epoch<=s.epoch:=by
 have hc:=Fr h.1;obtain⟨_,_,_,_,_,_,_,e0,_⟩:=L4 h hv;by_cases hz:s.config=⟨0,0,[],[]⟩
 ·rw[hz];exact e0
 ·refine Int.not_lt.1 λhlt=> ?_;unfold Fi at hv;simp only[FZ,ak,Fg,MN s.config hc,jZ,if_neg hz,if_pos hlt] at hv;cases h1:HP s.version 1 2 with
  |false=>rw[h1] at hv;cases hv
  |true=>
  cases h2:HP s.epoch 0 20 with
  |false=>rw[h1,h2] at hv;cases hv
  |true=>
  rcases isLog s.log (Fl h.2.1) with ⟨a1,a2,a3⟩| ⟨a1,a2⟩
  case inr=>simp only[h1,h2,a1,ak,DE,CU] at hv;cases hv
  rcases isLog s.learned (Fl h.2.2) with ⟨b1,b2,b3⟩| ⟨b1,b2⟩
  case inr=>simp only[h1,h2,a1,b1,ak,DE,CU] at hv;cases hv
  simp only[h1,h2,a1,b1,ak,DE] at hv;cases h3:HP s.first 0 16<;>rw[h3] at hv
  ·cases hv
  ·cases h4:HP (IntKind.wrap .i64 (s.first+(s.log.length:Int))) 0 16<;>rw[h4] at hv
   ·cases hv
   ·cases h5:HP s.commit 0 (IntKind.wrap .i64 (s.first+(s.log.length:Int)))<;>rw[h5] at hv
    ·cases hv
    ·cases h6:s.intact<;>rw[h6] at hv<;>cases hv
theorem acn{s:qQ}{id:Int}(h:FN 1048576 s)(hv:Fi s id=some (true,())){e:Int}(h1:s.epoch<=e)(h2:e<=20):Fi (Nn s e) id=some (true,()):=by have hle:=ad3 h hv;obtain⟨_,_,_,_,_,_,_,e0,e20⟩:=L4 h hv;have w1:HP s.epoch 0 20=true:=Fj.2 (by omega);have w2:HP e 0 20=true:=Fj.2 (by omega);unfold Fi at hv ⊢;simp only[FZ,ak,jZ,w1,w2,if_neg (show ¬s.epoch<s.config.epoch by omega),if_neg (show ¬e<s.config.epoch by omega)] at hv ⊢;exact hv
theorem aei{m:kB}{s:qQ}{k:Int}(ok:FN 1048576 s)(h:SV m s k){e:Int}(h1:s.epoch<=e)(h2:e<=(m.configs.length:Int))(h3:m.configs.length<=20):SV m (Nn s e) k:=
 ⟨acn ok h.val h1 (by omega),h2,h.lrn,h.cfg⟩
theorem YP(s:qQ)(e:Int)(h:FN 1048576 s): ∃ep b,HE s e=some (Nn s ep,b,())/\Lw s e=some (Nn s ep,b,())/\(ep=s.epoch\/(ep=e/\s.epoch<=e)):=by
 unfold HE Lw;simp only[(Ov s h).1,(Ov s h).2,FZ,Kz,ak,Fg,jZ];cases HP e 1 20 with
 |false=>exact⟨s.epoch,false,rfl,rfl,.inl rfl⟩
 |true=>
  simp only[DE];by_cases h1:e<=s.epoch
  ·by_cases h2:s.epoch<0
   ·simp only[if_pos h1,if_pos h2];exact⟨s.epoch,false,rfl,rfl,.inl rfl⟩
   ·simp only[if_pos h1,if_neg h2];exact⟨s.epoch,false,rfl,rfl,.inl rfl⟩
  ·by_cases h2:s.epoch<0
   ·simp only[if_neg h1,if_pos h2];exact⟨s.epoch,false,rfl,rfl,.inl rfl⟩
   ·simp only[if_neg h1,if_neg h2];exact⟨e,true,rfl,rfl,.inr ⟨rfl,by omega⟩⟩
abbrev Jl(x:qN)(S:List qQ):qN:=⟨x.now,S,x.sides,x.master,x.masterUp,x.lease,x.places⟩
theorem Tx(x:qN)(ok:FF 1048576 x)(hv:Ff x=some (true,())){id e:Int}(hid:0<=id/\id<5): ∃S,GC x id e=some (Jl x S,())/\HC x id e=some (Jl x S,())/\FF 1048576 (Jl x S)/\Ff (Jl x S)=some (true,())/\Z6 x (Jl x S)/\M2 Py S=M2 Py x.servers:=by
 have vc:=FJ ok hv;have hml:=Zj ok.2.2.1 vc.ml;obtain⟨v,v1,v2⟩:=FR x ok;rw[hv] at v1;simp only[af,au,and_true] at v1;subst v1;obtain⟨c,d,d1,d2,d3,_⟩:=Z7 ok hv;obtain⟨m,m1,m2,m3,m4,m5,_⟩:=Mv c d3;have mm:m.length<=maxLen:=by unfold maxLen;omega
 have same:Jl x x.servers=x:=rfl;unfold GC HC;simp only[(GV x ok).1,(GV x ok).2,d1,d2,hv,v2,FZ,Kz,ak,Fg,DE];cases d with
 |false=>exact⟨x.servers,rfl,rfl,ok,hv,Z6.refl x,rfl⟩
 |true=>
  simp only[DE];cases hw:HP e 1 (x.master.configs.length:Int) with
  |false=>exact⟨x.servers,rfl,rfl,ok,hv,Z6.refl x,rfl⟩
  |true=>
   have hw:=Fj.1 hw
   obtain⟨S,q,k1,k2⟩:=ND (B1:=GB) (B2:=GY) m.length
    (λk (S:List qQ)=>((id,e,(),(),(),(),(k:Int),()),(fx x,(0,(),(),(),0,0,0,0,0,(),()),(x.now,(),(),(),x.master.activated,x.masterUp,x.lease.epoch,x.lease.holder,x.lease.ends,(),()),()),(m,S,x.sides,x.master.configs,x.places,())))
    (λk S=>((id,e,(),(),(),(),(m.length:Int),(k:Int),()),(fx x,(0,(),(),(),0,0,0,0,0,(),()),(x.now,(),(),(),x.master.activated,x.masterUp,x.lease.epoch,x.lease.holder,x.lease.ends,(),()),()),(m,S,x.sides,x.master.configs,x.places,())))
    (λk S=>S.length=x.servers.length/\ ∀ (j:Nat) (s:qQ),x.servers[j]? =some s-> ∃ep,S[j]? =some (Nn s ep)/\(ep=s.epoch\/(ep=e/\s.epoch<=e))/\((∀y∈m.drop k,y≠(j:Int))\/ep=s.epoch))
    (λS=>(((),(),()),((0,(),(),(),0,0,0,0,0,(),()),(x.now,(),(),(),x.master.activated,x.masterUp,x.lease.epoch,x.lease.holder,x.lease.ends,(),()),()),(S,x.sides,x.master.configs,x.places,())))
    (λS=>(((),(),()),((0,(),(),(),0,0,0,0,0,(),()),(x.now,(),(),(),x.master.activated,x.masterUp,x.lease.epoch,x.lease.holder,x.lease.ends,(),()),()),(S,x.sides,x.master.configs,x.places,())))
    (λS _=>by simp only[GB,GY,jZ];exact⟨if_neg (by omega),if_neg (by omega)⟩)
    (λk S hk hS=>by
      have c1: (k:Int)< (m.length:Int):=by omega
      have c2: (0:Int)<=(k:Int)/\(k:Int)< (m.length:Int):=by omega
      have hz:=m4 _ (dq hk);have hdr:m.drop k=m[k]::m.drop (k+1):=co hk
      have hnot: ∀y∈m.drop (k+1),y≠m[k] :=by have h2:SS (m.drop k):=List.Pairwise.sublist (List.drop_sublist k m) m5;rw[hdr] at h2;intro y hy;have:=(EU.1 h2).1 y hy;omega
      generalize hzz:m[k] =z at hz hdr hnot;have hg:m[k]? =some z:=by rw[<-hzz];exact an hk
      obtain⟨s,s1,s2,_⟩:=Jp ok vc hz;obtain⟨h1,h2⟩:=Nb x ok vc hid hz
      have hSz:S[z.toNat]? =some s:=by
       obtain⟨ep,p1,_,p3⟩:=hS.2 _ s s1;rcases p3 with p3|rfl
       ·exact absurd (by omega:z=(z.toNat:Int)) (p3 z (by rw[hdr];exact aG))
       ·exact p1
      have hlt:z.toNat<S.length:=yw hSz;have c3:0<=z/\z< (S.length:Int):=by omega
      obtain⟨ep,b,q1,q2,q3⟩:=YP s e s2
      have hkeep:S.length=x.servers.length/\ ∀ (j:Nat) (s:qQ),x.servers[j]? =some s-> ∃ep,S[j]? =some (Nn s ep)/\(ep=s.epoch\/(ep=e/\s.epoch<=e))/\((∀y∈m.drop (k+1),y≠(j:Int))\/ep=s.epoch):=by refine⟨hS.1,λj t ht=> ?_⟩;obtain⟨ep,p1,p2,p3⟩:=hS.2 j t ht;exact⟨ep,p1,p2,p3.imp (λh y hy=>h y (by rw[hdr];exact aK _ hy)) (λh=>h)⟩
      simp only[GB,GY,fx,jZ,C9,if_pos c1,if_pos c2,cO,hg,ak,if_pos hz.1,if_pos c3,s1,hSz,h1,h2,aM,az,if_true,cF,EJ,q1,q2,kT mm hk];cases s.up with
      |false=>exact⟨S,rfl,rfl,hkeep⟩
      |true=>
       cases (IX x id==IX x z) with
       |false=>exact⟨S,rfl,rfl,hkeep⟩
       |true=>
        refine⟨S.set z.toNat (Nn s ep),rfl,rfl,by simp[hS.1],λj t ht=> ?_⟩;by_cases hj:j=z.toNat
        ·subst hj;rw[s1] at ht;have ht:=Option.some.inj ht;subst ht;refine⟨ep,by rw[Fb hlt],q3,.inl λy hy h=>hnot y hy (by omega)⟩
        ·obtain⟨ep',p1,p2,p3⟩:=hkeep.2 j t ht;exact⟨ep',by rw[EV (λh=>hj h.symm)];exact p1,p2,p3⟩)
    x.servers ⟨rfl,λj s h=>⟨s.epoch,h,.inl rfl,.inr rfl⟩⟩
   simp only[DE,m1,m2,ak]
   rw[show Ng ((id,e,(),(),(),(),0,()),(fx x,(0,(),(),(),0,0,0,0,0,(),()),(x.now,(),(),(),x.master.activated,x.masterUp,x.lease.epoch,x.lease.holder,x.lease.ends,(),()),()),(m,x.servers,x.sides,x.master.configs,x.places,()))=_ from k1,
    show Nf ((id,e,(),(),(),(),(m.length:Int),0,()),(fx x,(0,(),(),(),0,0,0,0,0,(),()),(x.now,(),(),(),x.master.activated,x.masterUp,x.lease.epoch,x.lease.holder,x.lease.ends,(),()),()),(m,x.servers,x.sides,x.master.configs,x.places,()))=_ from k2]
   have at_: ∀j (hj:j<S.length),∃s,x.servers[j]? =some s/\ ∃ep,S[j] =Nn s ep/\(ep=s.epoch\/(ep=e/\s.epoch<=e)):=by
    intro j hj;have hj':j<x.servers.length:=by rw[<-q.1];exact hj
    obtain⟨ep,p1,p2,_⟩:=q.2 j _ (an hj');rw[an hj] at p1;exact⟨_,an hj',ep,Option.some.inj p1,p2⟩
   have sv:=Tz ok hv
   have fin:=adB ok hv S q.1 (λs hs=>by
     obtain⟨j,hj,rfl⟩:=aQ hs;obtain⟨t,t1,ep,t2,_⟩:=at_ j hj;rw[t2];exact ok.1.2 t (ay t1))
    (λj hj=>by obtain⟨t,t1,ep,t2,t3⟩:=at_ j hj;have hj':j<x.servers.length:=yw t1;have svj:=sv j hj';rw[an hj'] at t1;rw[Option.some.inj t1] at svj;have okt:=ok.1.2 x.servers[j] (dq hj');rw[Option.some.inj t1] at okt;rw[t2];have:=svj.ep;exact aei okt svj (by omega) (by omega) hml)
   refine⟨S,rfl,rfl,fin.1,fin.2,⟨rfl,rfl,λj s h=>by obtain⟨ep,p1,_⟩:=q.2 j s h;exact⟨ep,p1⟩⟩,Wa q.1 λj ha hb=> ?_⟩
   obtain⟨t,t1,ep,t2,_⟩:=at_ j ha;rw[an hb] at t1;rw[t2,<-Option.some.inj t1];rfl
end
section
abbrev z0:Int×Unit×Unit×Unit×Int×Int×Int×Int×Int×Unit×Unit:=(0,(),(),(),0,0,0,0,0,(),())
abbrev fy(x:qN):Int×Unit×Unit×Unit×Int×Int×Int×Int×Int×Unit×Unit:=(x.now,(),(),(),x.master.activated,x.masterUp,x.lease.epoch,x.lease.holder,x.lease.ends,(),())
theorem X8(x:qN)(S:List qQ)(hS:S.length=5/\ ∀s∈S,FN 1048576 s)(n:om)(hn:GA 1048576 n)(htn:S7 n<=20)(l:List sf)(hl:l.length<=1048576)(m:List Int)(m3:m.length<=10)(m4: ∀y∈m,0<=y/\y<5): ∃T,((T.length=5/\ ∀s∈T,FN 1048576 s)/\M2 Py T<=M2 Py S+(m.length:Int)*1048600)/\
  MO (((),(),(),(),(),(),0,()),(fx x,z0,fy x,(n.epoch,n.primary,(),(),()),()),(l,m,S,x.sides,x.master.configs,x.places,n.replicas,n.witnesses,()))=some (((),(),(),(),()),(fx x,z0,fy x,(n.epoch,n.primary,(),(),()),()),(T,x.sides,x.master.configs,x.places,n.replicas,n.witnesses,()))/\
  Rc (((),(),(),(),(),(m.length:Int),0,()),(z0,(n.epoch,n.primary,(),(),()),fy x,()),(l,m,n.replicas,n.witnesses,S,x.sides,x.master.configs,x.places,()))=some (((),(),(),()),(z0,(n.epoch,n.primary,(),(),()),fy x,()),(n.replicas,n.witnesses,T,x.sides,x.master.configs,x.places,())):=by
 have mm:m.length<=maxLen:=by unfold maxLen;omega
 refine ND (B1:=H1) (B2:=JN) m.length (λk (S:List qQ)=>(((),(),(),(),(),(),(k:Int),()),(fx x,z0,fy x,(n.epoch,n.primary,(),(),()),()),(l,m,S,x.sides,x.master.configs,x.places,n.replicas,n.witnesses,()))) (λk S=>(((),(),(),(),(),(m.length:Int),(k:Int),()),(z0,(n.epoch,n.primary,(),(),()),fy x,()),(l,m,n.replicas,n.witnesses,S,x.sides,x.master.configs,x.places,()))) (λk S'=>(S'.length=5/\ ∀s∈S',FN 1048576 s)/\M2 Py S'<=M2 Py S+(k:Int)*1048600)
  (λT=>(((),(),(),(),()),(fx x,z0,fy x,(n.epoch,n.primary,(),(),()),()),(T,x.sides,x.master.configs,x.places,n.replicas,n.witnesses,()))) (λT=>(((),(),(),()),(z0,(n.epoch,n.primary,(),(),()),fy x,()),(n.replicas,n.witnesses,T,x.sides,x.master.configs,x.places,())))
  (λS _=> ?_) (λk S' hk hS'=> ?_) S ⟨hS,by omega⟩
 ·simp only[H1,JN,jZ];exact⟨if_neg (by omega),if_neg (by omega)⟩
 ·have c1: (k:Int)< (m.length:Int):=by omega
  have c2: (0:Int)<=(k:Int)/\(k:Int)< (m.length:Int):=by omega
  have hz:=m4 _ (dq hk);generalize hzz:m[k] =z at hz;have hg:m[k]? =some z:=by rw[<-hzz];exact an hk
  obtain⟨hS',hsum⟩:=hS';have hlt:z.toNat<S'.length:=by rw[hS'.1];omega
  have c3:0<=z/\z< (S'.length:Int):=by rw[hS'.1];omega
  have s1:S'[z.toNat]? =some S'[z.toNat] :=an hlt;have s2:=hS'.2 _ (dq hlt);generalize S'[z.toNat] =s at s1 s2;obtain⟨r,b,r1,r2,r3,r4,_⟩:=Vm s n z l s2 hn hl;have zl:Ko l=(l.length:Int):=rfl;simp only[H1,JN,fx,fy,z0,jZ,C9,if_pos c1,if_pos c2,cO,hg,ak,if_pos c3,s1,aM,az,if_true,cF,EJ,r1,r2,kT mm hk];refine⟨S'.set z.toNat r,rfl,rfl,⟨by simp[hS'.1],λt ht=> ?_⟩,by rw[aao s1];omega⟩;rcases db ht with h|h
  ·exact hS'.2 t h
  ·rw[h];exact r3
theorem abw(x:qN)(ok:FF 1048576 x)(vc:VC x)(S:List qQ)(ok':FF 1048576 (Jl x S))(vc':VC (Jl x S))(se:Z6 x (Jl x S))(n:om)(l:List sf)(m:List Int)(m3:m.length<=10)(m4: ∀y∈m,0<=y/\y<5):
  (OJ (((),(),(),(),(),(),0,()),(fx x,z0,fy x,(n.epoch,n.primary,(),(),()),()),(l,m,S,x.sides,x.master.configs,x.places,n.replicas,n.witnesses,()))=some (.inr (((),(),(),(),(),(),(),()),(fx x,z0,fy x,(n.epoch,n.primary,(),(),()),()),(l,m,S,x.sides,x.master.configs,x.places,n.replicas,n.witnesses,())))/\FG m (Jl x S)=some (false,()))\/
  (OJ (((),(),(),(),(),(),0,()),(fx x,z0,fy x,(n.epoch,n.primary,(),(),()),()),(l,m,S,x.sides,x.master.configs,x.places,n.replicas,n.witnesses,()))=some (.inl (((),(),10,(),(),(),(),()),(fx x,fy x,fy x,(n.epoch,n.primary,(),(),()),()),(l,m,S,x.sides,x.master.configs,x.places,n.replicas,n.witnesses,())))/\FG m (Jl x S)=some (true,())):=by
 have mm:m.length<=maxLen:=by unfold maxLen;omega
 have hsl:=Kn (Fl ok.2.1) vc.sides;have hsl':=Kn (Fl ok'.2.1) vc'.sides
 have fm:=DJ (B1:=H0) (B2:=FP) m.length (λk=>(((),(),(),(),(),(),(k:Int),()),(fx x,z0,fy x,(n.epoch,n.primary,(),(),()),()),(l,m,S,x.sides,x.master.configs,x.places,n.replicas,n.witnesses,()))) (λk=>((m,(Jl x S,()),(m.length:Int),(k:Int),()),(),()))
  (.inr (((),(),(),(),(),(),(),()),(fx x,z0,fy x,(n.epoch,n.primary,(),(),()),()),(l,m,S,x.sides,x.master.configs,x.places,n.replicas,n.witnesses,()))) (.inr (((),()),(),()))
  (λ_=> .inl (((),(),10,(),(),(),(),()),(fx x,fy x,fy x,(n.epoch,n.primary,(),(),()),()),(l,m,S,x.sides,x.master.configs,x.places,n.replicas,n.witnesses,()))) (λk=> .inl (((k:Int),()),(),()))
  (λ_=>True) (λ_=>True)
  (by simp only[H0];rw[jZ,if_neg (by omega)])
  (by simp only[FP];rw[jZ,if_neg (by omega)])
  (λk hk=>by
    have c1: (k:Int)< (m.length:Int):=by omega
    have c2: (0:Int)<=(k:Int)/\(k:Int)< (m.length:Int):=by omega
    have hz:=m4 _ (dq hk);generalize hzz:m[k] =z at hz;have hg:m[k]? =some z:=by rw[<-hzz];exact an hk
    obtain⟨s,s1,s2,_⟩:=Jp ok vc hz;obtain⟨e,e1⟩:=se.srv _ _ s1;have hside:z.toNat<x.sides.length:=by omega
    have d1:x.sides[z.toNat]? =some x.sides[z.toNat] :=an hside
    have hu:KI z (Jl x S)=some (!(s.up&&(x.sides[z.toNat] ==0)),()):=by have e1':S[z.toNat]? =some (Nn s e):=e1;unfold KI PF;simp only[C9,if_pos hz.1,e1',ak,d1];cases s.up<;>rfl
    simp only[H0,FP,fx,fy,z0,jZ,Fg,C9,if_pos c1,if_pos c2,if_pos c2.1,cO,hg,ak,if_pos hz.1,s1,d1,hu,kT mm hk];cases s.up with
    |false=>exact .inr ⟨rfl,rfl,trivial⟩
    |true=>
     cases (x.sides[z.toNat] ==0) with
     |false=>exact .inr ⟨rfl,rfl,trivial⟩
     |true=>exact .inl ⟨rfl,rfl,trivial⟩)
 unfold FG GO;rcases fm with ⟨k1,k2,_⟩| ⟨k,_,k1,k2,_⟩
 ·refine .inl ⟨k1,?_⟩;rw[show Hp ((m,(Jl x S,()),(m.length:Int),0,()),(),())=_ from k2];rfl
 ·refine .inr ⟨k1,?_⟩;rw[show Hp ((m,(Jl x S,()),(m.length:Int),0,()),(),())=_ from k2];simp only[ak,EO];rw[decide_eq_true (by omega)]
theorem YH(x:qN)(ok:FF 1048576 x)(vc:VC x)(S:List qQ)(se:Z6 x (Jl x S))(n:om)(l:List sf)(m:List Int)(m3:m.length<=10)(m4: ∀y∈m,0<=y/\y<5){b:Bool}(hb:FO l=some (b,())):
  (KX (((),(),(),(),(),(),0,()),(fx x,z0,fy x,(n.epoch,n.primary,(),(),()),()),(l,m,S,x.sides,x.master.configs,x.places,n.replicas,n.witnesses,()))=some (.inr (((),(),(),(),(),(),(),()),(fx x,z0,fy x,(n.epoch,n.primary,(),(),()),()),(l,m,S,x.sides,x.master.configs,x.places,n.replicas,n.witnesses,())))/\(b=false\/FH m (Jl x S)=some (false,())))\/
  (KX (((),(),(),(),(),(),0,()),(fx x,z0,fy x,(n.epoch,n.primary,(),(),()),()),(l,m,S,x.sides,x.master.configs,x.places,n.replicas,n.witnesses,()))=some (.inl (((),(),6,(),(),(),(),()),(fx x,fy x,fy x,(n.epoch,n.primary,(),(),()),()),(l,m,S,x.sides,x.master.configs,x.places,n.replicas,n.witnesses,())))/\b=true/\FH m (Jl x S)=some (true,())):=by
 have mm:m.length<=maxLen:=by unfold maxLen;omega
 have common: ∀k,(hk:k<m.length)-> ∃s:qQ,GU (((),(),(),(),(),(),(k:Int),()),(fx x,z0,fy x,(n.epoch,n.primary,(),(),()),()),(l,m,S,x.sides,x.master.configs,x.places,n.replicas,n.witnesses,()))=(if (s.version==1&&b)=true then some (.inr (.inl (((),(),6,(),(),(),(),()),(fx x,fy x,fy x,(n.epoch,n.primary,(),(),()),()),(l,m,S,x.sides,x.master.configs,x.places,n.replicas,n.witnesses,())))) else some (.inl (((),(),(),(),(),(),((k+1:Nat):Int),()),(fx x,z0,fy x,(n.epoch,n.primary,(),(),()),()),(l,m,S,x.sides,x.master.configs,x.places,n.replicas,n.witnesses,()))))/\
   FA ((m,(Jl x S,()),(m.length:Int),(k:Int),()),(),())=(if (s.version==1)=true then some (.inr (.inl (((k:Int),()),(),()))) else some (.inl ((m,(Jl x S,()),(m.length:Int),((k+1:Nat):Int),()),(),()))):=by
  intro k hk;have c1: (k:Int)< (m.length:Int):=by omega
  have c2: (0:Int)<=(k:Int)/\(k:Int)< (m.length:Int):=by omega
  have hz:=m4 _ (dq hk);generalize hzz:m[k] =z at hz;have hg:m[k]? =some z:=by rw[<-hzz];exact an hk
  obtain⟨s,s1,s2,_⟩:=Jp ok vc hz;obtain⟨e,e1⟩:=se.srv _ _ s1;have e1':S[z.toNat]? =some (Nn s e):=e1;refine⟨s,?_,?_⟩
  ·simp only[GU,fx,fy,z0,jZ,C9,if_pos c1,if_pos c2,cO,hg,ak,if_pos hz.1,s1,hb,kT mm hk];cases (s.version==1)<;>cases b<;>rfl
  ·simp only[FA,MG,jZ,C9,if_pos c1,if_pos c2.1,cO,hg,ak,if_pos hz.1,e1',kT mm hk];cases (s.version==1)<;>rfl
 cases b with
 |false=>
  have fm:=tC (B:=GU) m (λk (_:Unit)=>(((),(),(),(),(),(),(k:Int),()),(fx x,z0,fy x,(n.epoch,n.primary,(),(),()),()),(l,m,S,x.sides,x.master.configs,x.places,n.replicas,n.witnesses,()))) (λ_ _=>True) (λ_ _ _=> .inr (((),(),(),(),(),(),(),()),(fx x,z0,fy x,(n.epoch,n.primary,(),(),()),()),(l,m,S,x.sides,x.master.configs,x.places,n.replicas,n.witnesses,())))
   (λ_ _=>by simp only[GU];rw[jZ,if_neg (by omega)])
   (λk _ z hz _=>by obtain⟨s,h1,_⟩:=common k (yw hz);exact .inl ⟨(),by rw[h1];simp,trivial,rfl⟩)
   0 () (bH _) trivial
  exact .inl ⟨fm,.inl rfl⟩
 |true=>
  have fm:=DJ (B1:=GU) (B2:=FA) m.length (λk=>(((),(),(),(),(),(),(k:Int),()),(fx x,z0,fy x,(n.epoch,n.primary,(),(),()),()),(l,m,S,x.sides,x.master.configs,x.places,n.replicas,n.witnesses,()))) (λk=>((m,(Jl x S,()),(m.length:Int),(k:Int),()),(),()))
   (.inr (((),(),(),(),(),(),(),()),(fx x,z0,fy x,(n.epoch,n.primary,(),(),()),()),(l,m,S,x.sides,x.master.configs,x.places,n.replicas,n.witnesses,()))) (.inr (((),()),(),()))
   (λ_=> .inl (((),(),6,(),(),(),(),()),(fx x,fy x,fy x,(n.epoch,n.primary,(),(),()),()),(l,m,S,x.sides,x.master.configs,x.places,n.replicas,n.witnesses,()))) (λk=> .inl (((k:Int),()),(),()))
   (λ_=>True) (λ_=>True)
   (by simp only[GU];rw[jZ,if_neg (by omega)])
   (by simp only[FA];rw[jZ,if_neg (by omega)])
   (λk hk=>by
     obtain⟨s,h1,h2⟩:=common k hk;rw[h1,h2];cases (s.version==1) with
     |true=>exact .inr ⟨rfl,rfl,trivial⟩
     |false=>exact .inl ⟨rfl,rfl,trivial⟩)
  unfold FH GP;rcases fm with ⟨k1,k2,_⟩| ⟨k,_,k1,k2,_⟩
  ·refine .inl ⟨k1,.inr ?_⟩;rw[show Hq ((m,(Jl x S,()),(m.length:Int),0,()),(),())=_ from k2];rfl
  ·refine .inr ⟨k1,rfl,?_⟩;rw[show Hq ((m,(Jl x S,()),(m.length:Int),0,()),(),())=_ from k2];simp only[ak,EO];rw[decide_eq_true (by omega)]
end
section
theorem Oo.filter{l:List Int}(h:Oo l)(p:Int->Bool):Oo (l.filter p):=by refine P9 (h.pair.filter p) λy hy=> ?_;obtain⟨k,hk,rfl⟩:=aQ (EZ.1 hy).1;have:=(h k hk).1;omega
theorem YR:Oo [0,1,2,3,4] :=by refine P9 (by simp[SS]) λy hy=> ?_;simp at hy;omega
end
section
theorem Z8(x:qN)(ok:FF 1048576 x): ∃y n,HQ x=some (y,n,())/\NM x=some (y,n,())/\FF 1048576 y/\Z2 y<=Z2 x+10486010:=by
 obtain⟨v,v1,v2⟩:=FR x ok;obtain⟨c,d,c1,c2,c3⟩:=MQ x.master (x.master.configs.length:Int) ok.2.2.1
 have d1:HD x.master=some (c,d,()):=by unfold HD;rw[c1];rfl
 have d2:Lt x.master=some (c,d,()):=by unfold Lt;rw[c2];rfl
 obtain⟨q,q1,q2⟩:=Qt x.lease x.now;unfold HQ NM JR;simp only[(GV x ok).1,(GV x ok).2,d1,d2,v1,v2,q1,q2,ak,Fg];have dn: ∀n:Int,∃y k,some (x,n,())=some (y,k,())/\some (x,n,())=some (y,k,())/\FF 1048576 y/\Z2 y<=Z2 x+10486010:=λn=>⟨x,n,rfl,rfl,ok,by omega⟩
 cases v with
 |false=>exact dn 1
 |true=>
  cases d with
  |false=>exact dn 1
  |true=>
   have vc:=FJ ok v1;obtain⟨_,f2,f3⟩:=OB (GS ok.2.2.1) vc.ml
   have hval:Fk c=some (true,())/\c.epoch=(x.master.configs.length:Int):=by obtain⟨c',b',e1,_,_,_,e5,_⟩:=J1 x.master (x.master.configs.length:Int) ok.2.2.1 vc.ml;rw[c1] at e1;simp only[af,au,and_true] at e1;obtain⟨rfl,rfl⟩:=e1;exact e5 rfl
   obtain⟨a1,a2,hpr,_⟩:=HV c3 hval.1;have hok:GA 1048576 c:=⟨by have:=a1.len;omega,by have:=a2.len;omega⟩
   have hp:0<=c.primary/\c.primary<5:=by obtain⟨k,hk,e⟩:=aQ hpr;have:=(a1 k hk).1;omega
   obtain⟨s,s1,s2,_⟩:=Jp ok vc hp;have hup:=vc.up;have hsl:=Kn (Fl ok.2.1) vc.sides;have hside:c.primary.toNat<x.sides.length:=by omega
   have g1:x.sides[c.primary.toNat]? =some x.sides[c.primary.toNat] :=an hside;have w1:IntKind.wrap .i64 (x.masterUp*2)=x.masterUp*2:=of (by omega) (by omega);have w2:IntKind.wrap .i64 (2*x.masterUp)=x.masterUp*2:=by rw[of (by omega) (by omega),Int.mul_comm]
   simp only[DE,jZ,Io,w1,w2,hval.2];by_cases h1: (x.master.configs.length:Int)=x.master.activated
   ·simp only[if_pos h1,if_pos (show (x.master.configs.length:Int)<=x.master.activated by omega)];exact dn 1
   ·simp only[if_neg h1,if_neg (show ¬ (x.master.configs.length:Int)<=x.master.activated by omega)];by_cases h2:x.masterUp*2<=3
    ·simp only[if_pos h2,if_neg (show ¬x.masterUp*2>3 by omega)];exact dn 8
    ·simp only[if_neg h2,if_pos (show x.masterUp*2>3 by omega),DE,CU,C9,if_pos hp.1,s1,g1,ak];cases s.up with
     |false=>exact dn 2
     |true=>
      simp only[DE];by_cases h3:x.sides[c.primary.toNat] =0
      case neg=>simp only[if_neg h3];exact dn 10
      simp only[if_pos h3];cases q with
      |false=>exact dn 7
      |true=>
       simp only[DE];obtain⟨S,t1,t2,ok',hv',se,sS⟩:=Tx x ok v1 (id:=c.primary) (e:=(x.master.configs.length:Int)) hp;have vc':=FJ ok' hv';obtain⟨l,b,l1,l2,l3⟩:=Wm ok ok' v1 hv' se hp;obtain⟨m,m1,m2,m3,m4,_⟩:=Mv c c3;obtain⟨nf,n1,n2⟩:=abc l (Fl l3);have okS:S.length=5/\ ∀s∈S,FN 1048576 s:=⟨vc'.len,ok'.1.2⟩
       have htc:S7 c<=20:=by have:=a1.len;have:=a2.len;unfold S7 Ko;omega
       obtain⟨T,⟨t3,t4⟩,i1,i2⟩:=X8 x S okS c hok htc l l3 m m3 m4
       have zS:Ko S=Ko x.servers:=by unfold Ko;rw[okS.1,vc.len]
       have zT:Ko T=Ko x.servers:=by unfold Ko;rw[t3.1,vc.len]
       obtain⟨r,rb,r1,r2,r3,r4,_⟩:=Ug x.master (x.master.configs.length:Int) ok.2.2.1;have un:=abw x ok vc S ok' vc' se c l m m3 m4;have ov:=YH x ok vc S se c l m m3 m4 n1;simp only[fx,fy,z0,hval.2] at i1 i2 un ov
       have fin: ∀n:Int,∃y k,some (Jl x S,n,())=some (y,k,())/\some (Jl x S,n,())=some (y,k,())/\FF 1048576 y/\Z2 y<=Z2 x+10486010:=λn=>⟨Jl x S,n,rfl,rfl,ok',by unfold Z2 tSs;show Ko S+M2 Py S+Ko x.sides+tMl x.master+Ko x.places<=_;omega⟩
       have last:FF 1048576 ⟨x.now,T,x.sides,r,x.masterUp,⟨0,0,0⟩,x.places⟩/\Z2 ⟨x.now,T,x.sides,r,x.masterUp,⟨0,0,0⟩,x.places⟩<=Z2 x+10486010:=⟨⟨⟨by show T.length<=_;omega,t3.2⟩,ok.2.1,r3,ok.2.2.2⟩,by unfold Z2 tSs;show Ko T+M2 Py T+Ko x.sides+tMl r+Ko x.places<=_;omega⟩
       simp only[t1,t2,l1,l2,ak];cases b with
       |false=>exact fin 9
       |true=>
        simp only[DE,m1,m2,ak];rcases un with ⟨u1,u2⟩| ⟨u1,u2⟩
        ·simp only[u1,u2,n2,ak,ET,CU];rcases ov with ⟨o1,o2⟩| ⟨o1,rfl,o2⟩
         ·simp only[o1,ak,ET,i1,i2,show (⟨x.master.configs,x.master.activated⟩:kB)=x.master from rfl,r1,r2];rcases o2 with rfl|o2
          ·exact⟨_,_,rfl,rfl,last⟩
          ·simp only[o2,ak,CU];cases nf<;>exact⟨_,_,rfl,rfl,last⟩
         ·simp only[o1,o2,ak,EO,DE];exact fin 6
        ·simp only[u1,u2,ak,EO,DE];exact fin 10
theorem XN(x:qN)(ok:FF 1048576 x)(c:om)(hc:GA 1048576 c): ∃y n,GX x c=some (y,n,())/\KJ x c=some (y,n,())/\FF 1048576 y/\y.lease=x.lease/\y.now=x.now/\Z2 y<=Z2 x+1+S7 c:=by
 have hcn:=Ue c;obtain⟨v,v1,v2⟩:=FR x ok;obtain⟨r,b,r1,r2,r3,r4,_⟩:=VS x.master c ok.2.2.1 hc;unfold GX KJ JR;simp only[(GV x ok).1,(GV x ok).2,v1,v2,r1,r2,ak,Fg];cases v with
 |false=>exact⟨x,1,rfl,rfl,ok,rfl,rfl,by omega⟩
 |true=>
  have hup:=(FJ ok v1).up;rw[of (n:=x.masterUp*2) (by omega) (by omega),of (n:=2*x.masterUp) (by omega) (by omega),Int.mul_comm 2 x.masterUp];simp only[DE,jZ];by_cases h2:x.masterUp*2<=3
  ·simp only[if_pos h2,if_neg (show ¬x.masterUp*2>3 by omega)];exact⟨x,8,rfl,rfl,ok,rfl,rfl,by omega⟩
  ·simp only[if_neg h2,if_pos (show x.masterUp*2>3 by omega)];cases b with
   |false=>exact⟨x,1,rfl,rfl,ok,rfl,rfl,by omega⟩
   |true=>exact⟨⟨x.now,x.servers,x.sides,r,x.masterUp,x.lease,x.places⟩,0,rfl,rfl,⟨ok.1,ok.2.1,r3,ok.2.2.2⟩,rfl,rfl,by unfold Z2;show tSs x.servers+Ko x.sides+tMl r+Ko x.places<=_;omega⟩
theorem X7(l:vz)(e h n t:Int): ∃r b,Ly l e h n t=some (r,b,())/\RQ l e h n t=some (r,b,()):=by obtain⟨b,h1,h2⟩:=PH l;obtain⟨q,q1,q2⟩:=Qt l n;unfold Ly RQ;simp only[h1,h2,q1,q2,FZ,Kz,ak];cases (l.epoch==e)<;>cases b<;>cases HP e 1 20<;>cases HP h 0 4<;>cases HP n 0 999<;>cases HP t 1 50<;>cases (l.holder==h)<;>cases q<;>exact⟨_,_,rfl,rfl⟩
end
section
def RC:List nY->Int->Nat
 | [],_=>0
 |x::l,c=>if x.client<c then RC l c+1 else 0
theorem ab6(l:List nY)(c:Int):RC l c<=l.length:=by
 induction l with
 |nil=>exact az _
 |cons x l ih=>
  unfold RC;split
  ·simp only[bD];omega
  ·exact bH _
theorem ab7{l:List nY}{c:Int}(h: ∃x∈l,x.client=c):RC l c<l.length:=by
 induction l with
 |nil=>obtain⟨x,hx,_⟩:=h;cases hx
 |cons y l ih=>
  unfold RC;split
  ·rename_i hy;obtain⟨x,hx,hc⟩:=h;rcases aX.1 hx with rfl|hx
   ·omega
   ·have:=ih ⟨x,hx,hc⟩;simp only[bD];omega
  ·simp
theorem aeh(b d:Bool)(v:Int)(o:Op)(objs:List Int)(l:List nY)(hl:l.length<=1000):NE (((),(),(),(),b,(),0,()),((o.client,o.seq,o.kind,o.object,o.old,o.value,()),((),(),()),(false,0,()),((),(),()),(d,v,()),()),objs,l,())=
  some (((),(),(),(),b,(),((RC l o.client:Nat):Int),()),((o.client,o.seq,o.kind,o.object,o.old,o.value,()),((),(),()),(false,0,()),((),(),()),(d,v,()),()),objs,l,()):=by
 have ml:l.length<=maxLen:=by unfold maxLen;omega
 have fm:=tC (B:=Kq) l (λk (_:Unit)=>(((),(),(),(),b,(),(k:Int),()),((o.client,o.seq,o.kind,o.object,o.old,o.value,()),((),(),()),(false,0,()),((),(),()),(d,v,()),()),objs,l,())) (λ_ _=>True)
  (λk r _=>(((),(),(),(),b,(),((k+RC r o.client:Nat):Int),()),((o.client,o.seq,o.kind,o.object,o.old,o.value,()),((),(),()),(false,0,()),((),(),()),(d,v,()),()),objs,l,()))
  (λ_ _=>by simp only[Kq];rw[jZ,if_neg (by omega)];rfl)
  (λk _ x hx _=>by
    have hk:=yw hx;have c1: (k:Int)< (l.length:Int):=by omega
    have c2: (0:Int)<=(k:Int)/\(k:Int)< (l.length:Int):=by omega
    simp only[Kq,jZ,C9,if_pos c1,if_pos c2,cO,hx,ak,kT ml hk];by_cases h:x.client<o.client
    ·rw[if_pos h];refine .inl ⟨(),rfl,trivial,?_⟩;rw[RC,if_pos h,show k+(RC (l.drop (k+1)) o.client+1)=k+1+RC (l.drop (k+1)) o.client by omega]
    ·rw[if_neg h];refine .inr ?_;rw[RC,if_neg h];rfl) 0 () (bH _) trivial
 simp only[aM,cF] at fm;exact fm
theorem Zl{o:Op}(h:F2 o=some (true,())):0<=o.object/\o.object<=2:=by
 unfold F2 at h;simp only[FZ,ak] at h;cases h1:HP o.client 0 2 with
 |false=>rw[h1] at h;cases h
 |true=>
  cases h2:HP o.seq 1 99 with
  |false=>rw[h1,h2] at h;cases h
  |true=>
   cases h3:HP o.object 0 2 with
   |false=>rw[h1,h2,h3] at h;cases h
   |true=>exact Fj.1 h3
def opB(o:Op):Bool:=match F2 o with |some (b,_)=>b|none=>false
theorem PR(o:Op):F2 o=some (opB o,()):=by obtain⟨b,h,_⟩:=Zp o;unfold opB;rw[h]
def ZN(l:List sf)(k:Nat):Bool:=match l[k]? with
 |some e=>HP e.epoch 1 20&&(opB e.op&&(decide (k=0)||match l[k-1]? with |some d=> !decide (d.epoch>e.epoch)|none=>false))
 |none=>false
theorem O3(l:List sf)(hl:l.length<=maxLen):F9 l=some (true,())↔l.length<=16/\ ∀k,k<l.length->ZN l k=true:=by
 have fm:=O9 (B:=Ks) l.length (λk=>((l,(k:Int),()),(),())) (.inr ((l,(),()),(),())) (λ_=> .inl ((l,false,()),(),())) (λk=> !ZN l k)
  (by simp only[Ks];rw[jZ,if_neg (by omega)])
  (λk hk=>by
    have c1: (k:Int)< (l.length:Int):=by omega
    have c2: (0:Int)<=(k:Int):=by omega
    simp only[Ks,jZ,C9,if_pos c1,if_pos c2,cO,an hk,ak,PR,FZ,kT hl hk,Fg,ZN];cases HP l[k].epoch 1 20 with
    |false=>rfl
    |true=>
     cases opB l[k].op with
     |false=>rfl
     |true=>
      by_cases h0:0<k
      ·have c3: (k:Int)>0:=by omega
       have c4: (0:Int)<=((k-1:Nat):Int):=by omega
       have c5: ¬k=0:=by omega
       have e2:l[k-1]? =some l[k-1] :=an (by omega);simp only[DE,if_pos c3,CQ h0 (by omega),if_pos c4,cO,e2,ak,decide_eq_false c5,dH,cd,Bool.not_not];by_cases hlt:l[k-1].epoch>l[k].epoch
       ·rw[if_pos hlt,decide_eq_true hlt];rfl
       ·rw[if_neg hlt,decide_eq_false hlt];rfl
      ·have c3: ¬ (k:Int)>0:=by omega
       have c5:k=0:=by omega
       simp only[DE,if_neg c3,decide_eq_true c5];rfl)
 unfold F9;rcases fm with ⟨k1,k2⟩| ⟨k,h0,k1,k2,_⟩
 ·rw[show Pa ((l,0,()),(),())=_ from k1];simp only[ak,ET,af,au,and_true,decide_eq_true_eq];constructor
  ·intro h;exact⟨by omega,λk hk=>by simpa using k2 k hk⟩
  ·intro h;omega
 ·rw[show Pa ((l,0,()),(),())=_ from k1];simp only[ak,EO,af,au,and_true];constructor
  ·intro h;cases h
  ·rintro⟨_,h⟩
   have:=h k h0;rw[this] at k2;cases k2
structure VM (m:nX):Prop where
 vlen:m.objects.length=3
 vobj: ∀v∈m.objects,HP v 0 9=true
 vses: ∀x∈m.sessions,HP x.client 0 2=true/\HP x.seq 1 99=true/\HP x.result.value 0 9=true
 vasc:m.sessions.Pairwise λx y=>x.client<y.client
theorem ady{o:Op}(h:opB o=true):HP o.client 0 2=true/\HP o.seq 1 99=true/\HP o.value 0 9=true:=by
 have h0:F2 o=some (true,()):=by rw[PR,h]
 unfold F2 at h0;simp only[FZ,ak] at h0;cases h1:HP o.client 0 2 with
 |false=>rw[h1] at h0;cases h0
 |true=>
  cases h2:HP o.seq 1 99 with
  |false=>rw[h1,h2] at h0;cases h0
  |true=>
   cases h3:HP o.object 0 2 with
   |false=>rw[h1,h2,h3] at h0;cases h0
   |true=>
    cases h4:HP o.value 0 9 with
    |false=>rw[h1,h2,h3,h4] at h0;cases h0
    |true=>exact⟨rfl,rfl,rfl⟩
end
section
theorem Q1(x:qN)(ok:FF 1048576 x)(id:Int): ∃b,HF x id=some (b,())/\GW x id=some (b,())/\(b=true->Ff x=some (true,())/\0<=id/\id<5/\ ∀s,x.servers[id.toNat]? =some s->FT s id=some (true,())):=by
 obtain⟨v,v1,v2⟩:=FR x ok;cases v with
 |false=>
  refine⟨false,?_,?_,nofun⟩
  ·unfold HF;simp only[v1,ak,CU]
  ·unfold GW FK;simp only[v2,ak,CU]
 |true=>
  cases hw:HP id 0 4 with
  |false=>
   refine⟨false,?_,?_,nofun⟩
   ·unfold HF;simp only[v1,FZ,hw,ak,DE,CU]
   ·unfold GW FK;simp only[v2,Kz,hw,ak,DE,CU]
  |true=>
   have hid:=Fj.1 hw;obtain⟨s,s1,s2,s3⟩:=Jp ok (FJ ok v1) (a:=id) (by omega);obtain⟨b,b1,b2⟩:=My s id s2;refine⟨b,?_,?_,λhb=>⟨v1,hid.1,by omega,λs' hs=> ?_⟩⟩
   ·unfold HF;simp only[v1,FZ,hw,ak,DE,C9,if_pos hid.1,s1,b1]
   ·unfold GW FK;simp only[v2,Kz,hw,ak,DE,C9,if_pos hid.1,s1,b2]
   ·rw[s1] at hs;obtain rfl:=Option.some.inj hs;rw[b1,hb]
theorem YM(c:om)(y:Int)(h:GA maxLen c)(hv:Fk c=some (true,())): ∃n,F8 c y=some (n,())/\Lu c y=some (n,())/\(n=0↔ ¬ (y∈c.replicas\/y∈c.witnesses))/\(n=3->y≠c.primary):=by
 obtain⟨v,v1,v2⟩:=HH c h;rw[hv] at v1;simp only[af,au,and_true] at v1;subst v1;have hp:=(HV h hv).2.2.1;unfold F8 Lu;simp only[hv,v2,ak,(FI c.replicas y h.1).1,(FI c.replicas y h.1).2,(FI c.witnesses y h.2).1,(FI c.witnesses y h.2).2,Fg,Io,DE,jZ];by_cases he:y=c.primary
 ·simp only[if_pos he];exact⟨1,rfl,rfl,⟨λh=>(by cases h),λh=>absurd (.inl (he ▸ hp)) h⟩,λh=>(by cases h)⟩
 ·simp only[if_neg he];by_cases h1:y∈c.replicas
  ·simp only[if_pos h1];exact⟨2,rfl,rfl,⟨λh=>(by cases h),λh=>absurd (.inl h1) h⟩,λh=>(by cases h)⟩
  ·simp only[if_neg h1];by_cases h2:y∈c.witnesses
   ·simp only[if_pos h2];exact⟨3,rfl,rfl,⟨λh=>(by cases h),λh=>absurd (.inr h2) h⟩,λ_=>he⟩
   ·simp only[if_neg h2];exact⟨0,rfl,rfl,⟨λ_ h=>h.elim h1 h2,λ_=>rfl⟩,λh=>(by cases h)⟩
theorem abi(l:List sf)(hl:l.length<=1048576)(hv:F9 l=some (true,())):Qh l=some (((cutAt l:Nat):Int),l.drop (cutAt l),()):=by
 unfold Qh QW;have hc:cutAt l<=l.length:=by unfold cutAt;omega
 have c1: (0:Int)<=((cutAt l:Nat):Int)/\((cutAt l:Nat):Int)<=(l.length:Int)/\(l.length:Int)<=(l.length:Int):=by omega
 have ht: ((l.drop (cutAt l)).take (l.length-cutAt l))=l.drop (cutAt l):=bS (by simp);simp only[hv,ak,dk,CU,Ul l hl,C9,if_pos c1,cO,ht,(JX (l.drop (cutAt l)) (by simp;omega)).1]
end
section
def Tt{α:Type}(Q:α->Prop)(r:Option α):Prop:=∃a,r=some a/\Q a
section
variable {α β σ ε:Type} {Q:α->Prop} {Q':β->Prop}
theorem Tt.ret{a:α}(h:Q a):Tt Q (some a):=⟨a,rfl,h⟩
theorem Tt.bind{r:Option α}{k:α->Option β}(h:Tt Q r)(hk: ∀a,Q a->Tt Q' (k a)):Tt Q' (r.bind k):=by obtain⟨a,rfl,h⟩:=h;exact hk a h
theorem Tt.mono{Q2:α->Prop}{r:Option α}(h:Tt Q r)(hq: ∀a,Q a->Q2 a):Tt Q2 r:=h.imp λ_ h=>⟨h.1,hq _ h.2⟩
theorem Tt.ip{p:Prop}{d:Decidable p}{x y:Option α}(hp:p)(h:Tt Q x):Tt Q (@iteP _ p d x y):=by rw[jo hp];exact h
theorem Tt.br{b:Bool}{x y:Option α}(h1:b=true->Tt Q x)(h2:b=false->Tt Q y):Tt Q (br b x y):=by
 cases b with
 |true=>exact h1 rfl
 |false=>exact h2 rfl
theorem Tt.get{γ:Type}{l:List γ}{i:Nat}{k:γ->Option α}(hi:i<l.length)(h: ∀x,l[i]? =some x->x∈l->Tt Q (k x)):Tt Q ((l[i]?).bind k):=by rw[an hi];exact h _ (an hi) (dq hi)
theorem Tt.loop{B:σ->Option (σ⊕ε)}{E:ε->Prop}(I:σ->Prop)(μ:σ->Nat)(h: ∀s,I s->Tt (Sum.elim (λs'=>I s'/\μ s'<μ s) E) (B s)){s:σ}(hs:I s):Tt E (md B s):=
 AF I μ E (λs hs=>by
  obtain⟨r,h1,h2⟩:=h s hs;cases r with
  |inl s'=>exact .inl ⟨s',h1,h2.1,h2.2⟩
  |inr e=>exact .inr ⟨e,h1,h2⟩) hs
theorem Tt.go{p:Prop}[Decidable p]{x y:Option α}(hp:p)(h:Tt Q x):Tt Q (Go.Proofs.YtkghndikalnipaaGreat.En.br (decide p) x y):=by rw[jZ,if_pos hp];exact h
theorem Tt.end{p:Prop}[Decidable p]{x y:Option α}(hp: ¬p)(h:Tt Q y):Tt Q (Go.Proofs.YtkghndikalnipaaGreat.En.br (decide p) x y):=by rw[jZ,if_neg hp];exact h
theorem Tt.count{B:σ->Option (σ⊕ε)}{E:ε->Prop}(n:Nat)(m:Nat->β->σ)(J:Nat->β->Prop)(h0: ∀b,J n b->Tt (Sum.elim (λ_=>False) E) (B (m n b)))
  (h1: ∀k b,k<n->J k b->Tt (Sum.elim (λs=> ∃b',s=m (k+1) b'/\J (k+1) b') E) (B (m k b))) (b:β) (hb:J 0 b):Tt E (md B (m 0 b)):=by
 have go: ∀ (d k:Nat) (b:β),k+d=n->J k b->Tt E (md B (m k b)):=by
  intro d
  induction d with
  |zero=>
   intro k b hk hb;obtain rfl:k=n:=hk;obtain⟨r,e1,e2⟩:=h0 b hb;cases r with
   |inl s=>exact e2.elim
   |inr e=>exact⟨e,by rw[ki,e1];rfl,e2⟩
  |succ d ih=>
   intro k b hk hb;obtain⟨r,e1,e2⟩:=h1 k b (by omega) hb;cases r with
   |inl s=>obtain⟨b',rfl,hb'⟩:=e2;rw[ki,e1];exact ih (k+1) b' (by omega) hb'
   |inr e=>exact⟨e,by rw[ki,e1];rfl,e2⟩
 exact go n 0 b (aM n) hb
end
abbrev T1{α:Type}(_:α):Prop:=True
theorem K0{l:List Int}(ha:Oo l): ∀y∈l,0<=y/\y<5:=by intro y hy;obtain⟨k,hk,rfl⟩:=aQ hy;have:=(ha k hk).1;omega
theorem Pm(c:om)(h:GA maxLen c):Tt (λy=>y.1.length<=10/\ ∀z∈y.1,0<=z/\z<5) (FV c):=by obtain⟨v,v1,_⟩:=HH c h;unfold FV;rw[v1,ak,Fg];refine .br (λe=> ?_) λ_=> .ret ⟨bH _,nofun⟩;subst e;obtain⟨a1,a2,_⟩:=HV h v1;have l1:=a1.len;have l2:=a2.len;obtain⟨r,r1,_,r4,r5⟩:=YO c.replicas c.witnesses (by omega) (by omega);rw[r1];exact .ret ⟨by show r.length<=10;omega,λz hz=>((r4 z).1 hz).elim (K0 a1 z) (K0 a2 z)⟩
theorem XU{x:qN}(ok:FF 1048576 x)(vc:VC x)(a b:Int):Tt T1 (GN x.sides a b):=by have h5:=Kn (Fl ok.2.1) vc.sides;unfold GN;simp only[vc.sides,FZ,ak,DE];refine .br (λha=> .br (λhb=> ?_) λ_=> .ret trivial) λ_=> .ret trivial;have ha:=Fj.1 ha;have hb:=Fj.1 hb;exact .ip ha.1 (.get (by omega) λ_ _ _=> .ip hb.1 (.get (by omega) λ_ _ _=> .ret trivial))
theorem Tt.srv{α:Type}{Q:α->Prop}{x:qN}(ok:FF 1048576 x)(vc:VC x){a:Int}(ha:0<=a/\a<5){k:qQ->Option α}(h: ∀s,x.servers[a.toNat]? =some s->FN 1048576 s->Fi s a=some (true,())->Tt Q (k s)):Tt Q (iteP (0<=a) ((x.servers[a.toNat]?).bind k) none):=by obtain⟨s,s1,s2,s3⟩:=Jp ok vc ha;refine .ip ha.1 ?_;rw[s1];exact h s s1 s2 s3
theorem aap{x:qN}(ok:FF 1048576 x)(vc:VC x){a b:Int}(ha:0<=a/\a<5)(hb:0<=b/\b<5):Tt T1 (HU x a b):=by unfold HU;refine .srv ok vc hb λm m1 m2 _=> .bind (XU ok vc a b) λ_ _=> .br (λ_=> .br (λ_=> .srv ok vc ha λp p1 p2 _=> .br (λ_=> .srv ok vc ha λ_ _ _ _=> .br (λ_=> .srv ok vc ha λq _ _ _=> ?_) λ_=> .ret trivial) λ_=> .ret trivial) λ_=> .ret trivial) λ_=> .ret trivial;rw[(GD m.config q.config (Fr m2.1)).1];exact .ret trivial
theorem Qj{l:List sf}(h:l.length<=maxLen): ∃b,F9 l=some (b,())/\(b=true->l.length<=16):=by
 rcases isLog l h with ⟨h1,_,h2⟩| ⟨h1,_⟩
 ·exact⟨true,h1,λ_=>h2⟩
 ·exact⟨false,h1,nofun⟩
theorem RN{l:List sf}(h:l.length<=1048576):GM l=some (l,()):=(JX l h).1
theorem acr(l:List sf)(c q:Int)(hl:l.length<=maxLen):Tt (λy=>y.1= -1\/0<=y.1/\y.1< (l.length:Int)) (OW l c q):=by
 unfold OW;refine .bind (.count (B:=L9) (E:=Sum.elim (λy=>0<=y.1.1/\y.1.1< (l.length:Int)) λ_=>True) l.length (λk (_:Unit)=>((l,c,q,(k:Int),()),(),())) (λ_ _=>True) (λ_ _=> ?_) (λk _ hk _=> ?_) () trivial) λy hy=> ?_
 ·unfold L9;simp only[jZ];rw[if_neg (by omega)];exact .ret trivial
 ·unfold L9;simp only[jZ];rw[if_pos (by omega)];refine .ip (by omega) (.get (by omega) λ_ _ _=> .br (λ_=> .ip (by omega) (.get (by omega) λ_ _ _=> .br (λ_=> .ret ?_) λ_=> .ret ⟨(),by rw[kT hl hk],trivial⟩)) λ_=> .ret ⟨(),by rw[kT hl hk],trivial⟩);exact⟨by show (0:Int)<=k;omega,by show (k:Int)<_;omega⟩
 ·cases y with
  |inl y=>exact .ret (.inr hy)
  |inr y=>exact .ret (.inl rfl)
end
section
theorem RB{l:List qQ}(h:l.length<=1048576/\ ∀s∈l,FN 1048576 s){s:qQ}(hs:FN 1048576 s)(i:Nat): (l.set i s).length<=1048576/\ ∀s'∈l.set i s,FN 1048576 s':=
 ⟨by rw[EL];exact h.1,λs' hm=>(db hm).elim (h.2 s') λe=>e ▸ hs⟩
theorem adl(x:qN)(ok:FF 1048576 x)(id:Int): ∃y n,KM x id=some (y,n,())/\FF 1048576 y/\y.servers.length=x.servers.length:=by
 obtain⟨b,b1,_,b2⟩:=Um x id ok;unfold KM;simp only[(GV x ok).1,b1,ak,Fg];cases b with
 |false=>exact⟨x,1,rfl,ok,rfl⟩
 |true=>
  obtain⟨hv,h0,h5⟩:=b2 rfl;obtain⟨s,s1,_⟩:=Jp ok (FJ ok hv) ⟨h0,h5⟩;have hlt:=yw s1;have hs:=ok.1.2 s (ay s1);simp only[DE,C9,if_pos h0,s1,ak];rw[if_pos ⟨h0,by omega⟩];cases s.up with
  |false=>exact⟨x,2,rfl,ok,rfl⟩
  |true=>exact⟨_,0,rfl,⟨RB ok.1 (show FN 1048576 ⟨false,s.intact,s.version,s.epoch,s.config,s.first,s.log,s.commit,s.learned⟩ from hs) _,ok.2⟩,EL⟩
theorem abh(x:qN)(ok:FF 1048576 x)(id:Int): ∃y n,JG x id=some (y,n,())/\FF 1048576 y/\y.servers.length=x.servers.length:=by
 obtain⟨b,b1,_,b2⟩:=Um x id ok;unfold JG;simp only[(GV x ok).1,b1,ak,Fg];cases b with
 |false=>exact⟨x,1,rfl,ok,rfl⟩
 |true=>
  obtain⟨hv,h0,h5⟩:=b2 rfl;obtain⟨s,s1,_⟩:=Jp ok (FJ ok hv) ⟨h0,h5⟩;have hlt:=yw s1;have hs:=ok.1.2 s (ay s1);simp only[DE,C9,if_pos h0,s1,ak];rw[if_pos ⟨h0,by omega⟩];cases s.up with
  |true=>exact⟨x,1,rfl,ok,rfl⟩
  |false=>exact⟨_,0,rfl,⟨RB ok.1 (show FN 1048576 ⟨true,s.intact,s.version,s.epoch,s.config,s.first,s.log,s.commit,s.learned⟩ from hs) _,ok.2⟩,EL⟩
theorem adU(x:qN)(ok:FF 1048576 x)(id:Int): ∃y n,NT x id=some (y,n,())/\FF 1048576 y/\y.servers.length=x.servers.length:=by
 obtain⟨b,b1,_,b2⟩:=Um x id ok;unfold NT;simp only[(GV x ok).1,b1,ak,Fg];cases b with
 |false=>exact⟨x,1,rfl,ok,rfl⟩
 |true=>obtain⟨hv,h0,h5⟩:=b2 rfl;obtain⟨s,s1,_⟩:=Jp ok (FJ ok hv) ⟨h0,h5⟩;have hlt:=yw s1;simp only[DE,C9,if_pos h0,s1,ak,Ny];rw[if_pos ⟨h0,by omega⟩];exact⟨_,0,rfl,⟨RB ok.1 ⟨⟨bH _,bH _⟩,bH _,bH _⟩ _,ok.2⟩,EL⟩
theorem aa9(x:qN)(ok:FF 1048576 x)(n:Int): ∃y k,LG x n=some (y,k,())/\FF 1048576 y/\y.servers.length=x.servers.length:=by
 obtain⟨v,v1,_⟩:=FR x ok;unfold LG;simp only[(GV x ok).1,v1,FZ,ak,Fg];cases v with
 |false=>exact⟨x,1,rfl,ok,rfl⟩
 |true=>
  simp only[DE];cases HP n 0 3 with
  |false=>exact⟨x,1,rfl,ok,rfl⟩
  |true=>exact⟨_,0,rfl,ok,rfl⟩
theorem adV(x:qN)(ok:FF 1048576 x)(a b:Int): ∃y k,LB x a b=some (y,k,())/\FF 1048576 y/\y.servers.length=x.servers.length:=by
 obtain⟨v,v1,_⟩:=FR x ok;obtain⟨u,u1,_⟩:=NL x.sides (Fl ok.2.1)
 have hm: ∃l t,NU x.sides a b=some (l,t,())/\l.length=x.sides.length:=by
  unfold NU;simp only[bK,C9,u1,FZ,ak,Fg];rw[if_pos (show x.sides.length*8<=2 ^ 40 by have:=ok.2.1;omega)];cases u with
  |false=>exact⟨_,_,rfl,rfl⟩
  |true=>
   simp only[DE];cases hw:HP a 0 4 with
   |false=>exact⟨_,_,rfl,rfl⟩
   |true=>
    simp only[DE];cases HP b 0 3 with
    |false=>exact⟨_,_,rfl,rfl⟩
    |true=>have hw:=Fj.1 hw;have hl:=Kn (Fl ok.2.1) u1;simp only[DE];rw[if_pos ⟨hw.1,by omega⟩,an (by omega)];exact⟨_,_,rfl,EL⟩
 obtain⟨l,t,l1,l2⟩:=hm;unfold LB;simp only[(GV x ok).1,v1,l1,ak,Fg];cases v with
 |false=>exact⟨x,1,rfl,ok,rfl⟩
 |true=>
  cases t with
  |false=>exact⟨x,1,rfl,ok,rfl⟩
  |true=>exact⟨_,0,rfl,⟨ok.1,by show l.length<=1048576;rw[l2];exact ok.2.1,ok.2.2⟩,rfl⟩
theorem XT(x:qN)(ok:FF 1048576 x)(id:Int): ∃n:Int,Lm x id=some (n,())/\(n=0->Ff x=some (true,())/\0<=id/\id<5):=by
 obtain⟨v,v1,_⟩:=FR x ok;unfold Lm;simp only[v1,FZ,ak,Fg];cases v with
 |false=>exact⟨1,rfl,λh=>absurd h (by decide)⟩
 |true=>
  simp only[DE];cases hw:HP id 0 4 with
  |false=>exact⟨1,rfl,λh=>absurd h (by decide)⟩
  |true=>
   have hw:=Fj.1 hw;obtain⟨s,s1,_⟩:=Jp ok (FJ ok v1) ⟨hw.1,by omega⟩;simp only[DE,C9,if_pos hw.1,s1,ak];cases s.up with
   |false=>exact⟨2,rfl,λh=>absurd h (by decide)⟩
   |true=>exact⟨0,rfl,λ_=>⟨trivial,hw.1,by omega⟩⟩
end
end Go.Proofs.YtkghndikalnipaaGreat.En
