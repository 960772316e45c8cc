/- Plain laws. -/
import Derived.Test.YtkghndikalnipabGreatZBX
set_option linter.unusedSimpArgs false
set_option linter.unusedVariables false
namespace Go.Proofs.YtkghndikalnipabGreat.En
open Go
section
def FY[dL](c:qO):Prop:=∃l,ly c.b=some l/\l.length<=maxLen/\(∀m∈l,0<=m/\m<=255)/\0<=c.i/\c.i<=c.b.n
def Dn[dL]{α:Type}(Q:α->Prop)(r:Option (List qO×α)):Prop:=∃c a,r=some ([c],a)/\FY c/\Q a
section
variable [dL] {α β:Type} {Q:α->Prop} {Q':β->Prop}
theorem Dn.ret{c:qO}{a:α}(hc:FY c)(h:Q a):Dn Q (some ([c],a)):=⟨c,a,rfl,hc,h⟩
theorem Dn.bind{r:Option (List qO×α)}{k:List qO×α->Option (List qO×β)}(h:Dn Q r)(hk: ∀c a,FY c->Q a->Dn Q' (k ([c],a))):Dn Q' (r.bind k):=by obtain⟨c,a,rfl,h1,h2⟩:=h;exact hk c a h1 h2
theorem Dn.mono{Q2:α->Prop}{r:Option (List qO×α)}(h:Dn Q r)(hq: ∀a,Q a->Q2 a):Dn Q2 r:=by obtain⟨c,a,h1,h2,h3⟩:=h;exact⟨c,a,h1,h2,hq a h3⟩
theorem Dn.iteP{p:Prop}[Decidable p]{x y:Option (List qO×α)}(hp:p)(h:Dn Q x):Dn Q (iteP p x y):=by rw[jq hp];exact h
theorem Dn.br{b:Bool}{x y:Option (List qO×α)}(h1:b=true->Dn Q x)(h2:b=false->Dn Q y):Dn Q (br b x y):=by
 cases b with
 |true=>exact h1 rfl
 |false=>exact h2 rfl
theorem Dn.get{γ:Type}{l:List γ}{i:Nat}{k:γ->Option (List qO×α)}(hi:i<l.length)(h: ∀x∈l,Dn Q (k x)):Dn Q ((l[i]?).bind k):=by rw[an hi];exact h _ (dq hi)
end
theorem UP(x:Int):0<=bits .and .i64 x 255/\bits .and .i64 x 255<=255:=by
 have h: (BitVec.ofInt 64 x&&& BitVec.ofInt 64 255).toNat<=255:=by rw[BitVec.toNat_and];exact Nat.and_le_right
 show 0<=IntKind.wrap .i64 _/\IntKind.wrap .i64 _<=255;have e:IntKind.wrap .i64 ((BitVec.ofInt 64 x&&& BitVec.ofInt 64 255).toNat:Int)=((BitVec.ofInt 64 x&&& BitVec.ofInt 64 255).toNat:Int):=of (by omega) (by omega);have e2:bits .and .i64 x 255=IntKind.wrap .i64 ((BitVec.ofInt 64 x&&& BitVec.ofInt 64 255).toNat:Int):=rfl;rw[<-e2] at e;constructor
 ·show 0<=bits .and .i64 x 255;omega
 ·show bits .and .i64 x 255<=255;omega
theorem WM{x n:Int}(hx:0<=x)(hn:0<n):0<=x.tmod n/\x.tmod n<n:=⟨Int.tmod_nonneg _ hx,Int.tmod_lt_of_pos _ hn⟩
section
variable [dL]
theorem aag{x:Hd}{l:List Int}(h:ly x=some l)(hl:l.length<=maxLen)(hb: ∀m∈l,0<=m/\m<=255):Dn (λ_:Unit=>True) (TY x):=by unfold TY D7;rw[h];exact⟨_,(),rfl,⟨l,h,hl,hb,c9 _,EI _⟩,trivial⟩
theorem PU{c:qO}(h:FY c):Dn (λy:Int×Unit=>0<=y.1/\y.1<=255) (Nf [c]):=by
 obtain⟨l,h1,h2,h3,h4,h5⟩:=h;show Dn _ ((DH c).map λy=>([y.1],y.2,()));unfold DH;have hlen:=(B4 h1).1;by_cases hi:c.i< (c.b.n:Int)
 ·rw[if_pos hi,if_pos h4,h1,ak,an (by omega)];refine⟨_,_,rfl,⟨l,h1,h2,h3,?_,?_⟩,UP _⟩
  ·show 0<=RowKit.wrap64 (c.i+1);unfold RowKit.wrap64;simp only[maxLen] at h2;omega
  ·show RowKit.wrap64 (c.i+1)<=c.b.n;unfold RowKit.wrap64;simp only[maxLen] at h2;omega
 ·rw[if_neg hi];exact⟨_,_,rfl,⟨l,h1,h2,h3,h4,h5⟩,UP _⟩
theorem Gf{c:qO}(h:FY c)(n:Int):Dn (λy:Int×Unit=>0<=y.1/\(y.1<n\/n<=0/\y.1=0)) (Fj [c] n):=by
 unfold Fj;refine .br (λhn=> .ret h ⟨c9 _,.inr ⟨of_decide_eq_true hn,rfl⟩⟩) λhn=> ?_;have hn:=of_decide_eq_false hn;refine .br (λ_=> .bind (PU h) λc1 y h1 hy=> .iteP rfl ?_) λ_=> .bind (PU h) λc1 y h1 hy=> .iteP rfl (.bind (PU h1) λc2 y2 h2 hy2=> .iteP rfl (.bind (PU h2) λc3 y3 h3 hy3=> .iteP rfl (.bind (PU h3) λc4 y4 h4 hy4=> .iteP rfl ?_)))
 ·rw[C8 (by omega)];have:=WM hy.1 (show 0<n by omega);exact .ret h1 ⟨this.1,.inl this.2⟩
 ·rw[C8 (by omega)];simp only;rw[of (n:=y.1*16777216) (by omega) (by omega),of (n:=y2.1*65536) (by omega) (by omega),of (n:=y3.1*256) (by omega) (by omega),of (n:=y.1*16777216+y2.1*65536) (by omega) (by omega),of (n:=y.1*16777216+y2.1*65536+y3.1*256) (by omega) (by omega),of (n:=y.1*16777216+y2.1*65536+y3.1*256+y4.1) (by omega) (by omega)];have:=WM (show 0<=y.1*16777216+y2.1*65536+y3.1*256+y4.1 by omega) (show 0<n by omega);exact .ret h4 ⟨this.1,.inl this.2⟩
theorem Jj{c:qO}(h:FY c){n:Int}(hn:0<n):Dn (λy:Int×Unit=>0<=y.1/\y.1<n) (Fj [c] n):=(Gf h n).mono λy hy=>⟨hy.1,by omega⟩
theorem HS{c:qO}(h:FY c)(n:Int):Dn (λ_:Bool×Unit=>True) (Gg [c] n):=by unfold Gg;exact .bind (Gf h n) λc1 y h1 hy=> .iteP rfl (.ret h1 trivial)
theorem G2{c:qO}(h:FY c){l:List Int}(hl:l≠ []):Dn (λy:Int×Unit=>y.1∈l) (Fq [c] l):=by unfold Fq;have h0:0<l.length:=List.length_pos_iff.2 hl;refine .bind (Jj h (show 0< (l.length:Int) by omega)) λc1 y h1 hy=> .iteP rfl (.iteP hy.1 (.get (by show y.1.toNat<l.length;have:=hy.1;have:=hy.2;omega) λx hx=> .ret h1 hx))
theorem Vk{c:qO}(h:FY c):Dn (λ_:Op×Unit=>True) (MT [c]):=by
 unfold MT
 repeat first |exact .ret (by assumption) trivial|refine .iteP rfl ?_|refine .br (λ_=> ?_) λ_=> ?_|refine .bind (Gf (by assumption) _) λ_ _ _ _=> ?_|refine .bind (HS (by assumption) _) λ_ _ _ _=> ?_|refine .bind (G2 (by assumption) (by simp)) λ_ _ _ _=> ?_
theorem XU{c:qO}(h:FY c):Dn (λ_:vz×Unit=>True) (Ok [c]):=by
 unfold Ok;dsimp only
 repeat first |exact .ret (by assumption) trivial|refine .iteP rfl ?_|refine .br (λ_=> ?_) λ_=> ?_|refine .bind (Gf (by assumption) _) λ_ _ _ _=> ?_|refine .bind (HS (by assumption) _) λ_ _ _ _=> ?_|refine .bind (G2 (by assumption) (by simp)) λ_ _ _ _=> ?_
theorem XB{c:qO}(h:FY c):Dn (λ_:xx×Unit=>True) (Mh [c]):=by
 unfold Mh;dsimp only
 repeat first |exact .ret (by assumption) trivial|refine .iteP rfl ?_|refine .br (λ_=> ?_) λ_=> ?_|refine .bind (Gf (by assumption) _) λ_ _ _ _=> ?_|refine .bind (HS (by assumption) _) λ_ _ _ _=> ?_|refine .bind (G2 (by assumption) (by simp)) λ_ _ _ _=> ?_|refine .bind (Vk (by assumption)) λ_ _ _ _=> ?_
def Ro{σ ε:Type}(I:σ->Prop)(E:ε->Prop)(r:Option (σ⊕ε)):Prop:=(∃s,r=some (.inl s)/\I s)\/ ∃e,r=some (.inr e)/\E e
section
variable {σ ε α:Type} {I:σ->Prop} {E:ε->Prop} {Q:α->Prop}
omit [dL] in
theorem Ro.again{s:σ}(h:I s):Ro I E (some (.inl s)):=.inl ⟨s,rfl,h⟩
omit [dL] in
theorem Ro.done{e:ε}(h:E e):Ro I E (some (.inr e)):=.inr ⟨e,rfl,h⟩
omit [dL] in
theorem Ro.iteP{p:Prop}[Decidable p]{x y:Option (σ⊕ε)}(hp:p)(h:Ro I E x):Ro I E (iteP p x y):=by rw[jq hp];exact h
omit [dL] in
theorem Ro.br{b:Bool}{x y:Option (σ⊕ε)}(h1:b=true->Ro I E x)(h2:b=false->Ro I E y):Ro I E (br b x y):=by
 cases b with
 |true=>exact h1 rfl
 |false=>exact h2 rfl
theorem Ro.draw{r:Option (List qO×α)}{k:List qO×α->Option (σ⊕ε)}(h:Dn Q r)(hk: ∀c a,FY c->Q a->Ro I E (k ([c],a))):Ro I E (r.bind k):=by obtain⟨c,a,rfl,h1,h2⟩:=h;exact hk c a h1 h2
omit [dL] in
theorem Uw{B:σ->Option (σ⊕ε)}(μ:σ->Nat)(h: ∀s,I s->Ro (λs'=>I s'/\μ s'<μ s) E (B s)){s:σ}(hs:I s): ∃e,md B s=some e/\E e:=
 AF I μ E (λs hs=>(h s hs).imp (λ⟨s',a,b,c⟩=>⟨s',a,b,c⟩) id) hs
end
theorem UR{c:qO}(h:FY c){n:Int}(h0:0<=n){evs:List xx}{M:Nat}(hM:evs.length+n.toNat<=M)(hM2:M<=1000):Dn (λy:List xx×Unit=>y.1.length<=M) ((Lf (((),(),n,()),(()),[c],evs,())).bind λe=>some e.2.2):=by
 unfold Lf
 obtain⟨⟨_,_,l,ps,_⟩,h1,c2,rfl,h2,h3⟩:=Uw (B:=Jl) (I:=λs=> ∃c,s.2.2.1= [c] /\FY c/\0<=s.1.2.2.1/\s.2.2.2.1.length+s.1.2.2.1.toNat<=M) (E:=λe=> ∃c,e.2.2.1= [c] /\FY c/\e.2.2.2.1.length<=M) (λs=>s.1.2.2.1.toNat) (by
  rintro⟨⟨_,_,k,_⟩,_,l,ps,_⟩ ⟨c,rfl,hc,h0,h1⟩
  simp only at h0 h1;unfold Jl;refine .br (λhk=> ?_) λhk=> .done ⟨c,rfl,hc,by show ps.length<=M;omega⟩;have hk:k>0:=of_decide_eq_true hk;have e:IntKind.wrap .i64 (k-1)=k-1:=of (by omega) (by omega)
  have fm: ∀ (c:qO) (x:xx),FY c->Ro (λs': (Unit×Unit×Int×Unit)×Unit×List qO×List xx×Unit=>(∃c,s'.2.2.1= [c] /\FY c/\0<=s'.1.2.2.1/\s'.2.2.2.1.length+s'.1.2.2.1.toNat<=M)/\s'.1.2.2.1.toNat<k.toNat) (λe: (Unit×Unit)×Unit×List qO×List xx×Unit=> ∃c,e.2.2.1= [c] /\FY c/\e.2.2.2.1.length<=M) (iteP ((ps++ [x]).length*80<=2 ^ 40) (some (.inl (((),(),IntKind.wrap .i64 (k-1),()),(()),[c],ps++ [x],()))) none):=λc x hc=>by refine .iteP (by simp only[be,cn];omega) (.again ?_);simp only[e];exact⟨⟨c,rfl,hc,by omega,by simp only[be,cn];omega⟩,by omega⟩
  refine .draw (XB hc) λc1 _ h1 _=> .iteP rfl (.br (λ_=> .draw (HS h1 _) λc2 _ h2 _=> .iteP rfl (.br (λ_=> .draw (G2 h2 (by simp)) λc3 _ h3 _=> .iteP rfl (fm _ _ h3)) λ_=>fm _ _ h2)) λ_=>fm _ _ h1)) (s:=(((),(),n,()),(()),[c],evs,())) ⟨c,rfl,h,h0,hM⟩
 rw[h1];exact⟨c2,_,rfl,h2,h3⟩
theorem WS{c:qO}(h:FY c){n:Int}(h0:0<=n)(hn:n<=100):Dn (λy:List xx×Unit=>y.1.length<=200) (Ls [c] n):=by
 unfold Ls;rw[of (n:=n+1) (by omega) (by omega)];refine .bind (Gf h _) λc1 _ h1 _=> .iteP rfl (.bind (Gf h1 _) λc2 _ h2 _=> .iteP rfl (.bind (HS h2 _) λc3 _ h3 _=> .iteP rfl (.br (λ_=> ?_) λ_=> ?_)))
 ·exact .bind (Jj h3 (by omega)) λc4 y h4 hy=> .iteP rfl (UR h4 hy.1 (by have:=hy.2;simp only[bD,bX];omega) (by omega))
 ·exact .bind (Jj h3 (by omega)) λc4 y h4 hy=> .iteP rfl (UR h4 hy.1 (by have:=hy.2;simp only[bD,bX];omega) (by omega))
theorem Yv{c:qO}(h:FY c):Dn (λy:List Int×Unit=>y.1.length=5) (Me [c]):=by
 unfold Me Qd
 obtain⟨⟨_,_,l,ps,_⟩,h1,c2,rfl,h2,h3⟩:=Uw (B:=Ka) (I:=λs=> ∃c,s.2.2.1= [c] /\FY c/\0<=s.1.2.2.1/\s.1.2.2.1<=5/\(s.2.2.2.1.length:Int)=s.1.2.2.1) (E:=λe=> ∃c,e.2.2.1= [c] /\FY c/\e.2.2.2.1.length=5) (λs=>(5-s.1.2.2.1).toNat) (by
  rintro⟨⟨_,_,k,_⟩,_,l,ps,_⟩ ⟨c,rfl,hc,h0,h1,h2⟩
  simp only at h0 h1 h2;unfold Ka;refine .br (λhk=> ?_) λhk=> .done ⟨c,rfl,hc,by have : ¬k<5:=of_decide_eq_false hk;show ps.length=5;omega⟩;have hk:k<5:=of_decide_eq_true hk;refine .draw (G2 hc (by simp)) λc1 _ h1 _=> .iteP rfl (.iteP (by simp only[be,cn];omega) (.again ?_));simp only;rw[of (n:=k+1) (by omega) (by omega)];exact⟨⟨c1,rfl,h1,by omega,by omega,by simp only[be,cn];omega⟩,by omega⟩) (s:=(((),(),0,()),(()),[c],([]:List Int),())) ⟨c,rfl,h,c9 _,by simp,by simp⟩
 rw[h1];exact⟨c2,_,rfl,h2,h3⟩
theorem XV{c:qO}(h:FY c):Dn (λy:List sf×Unit=>y.1.length<=6) (O2 [c]):=by
 unfold O2;refine .bind (Jj h (by decide)) λc0 y0 hc0 hy0=> .iteP rfl ?_;unfold TJ
 obtain⟨⟨_,_,l,ps,_⟩,h1,c2,rfl,h2,h3⟩:=Uw (B:=M8) (I:=λs=> ∃c,s.2.2.1= [c] /\FY c/\0<=s.1.2.2.2.1/\s.2.2.2.1.length+s.1.2.2.2.1.toNat<=6) (E:=λe=> ∃c,e.2.2.1= [c] /\FY c/\e.2.2.2.1.length<=6) (λs=>s.1.2.2.2.1.toNat) (by
  rintro⟨⟨_,_,g,k,_⟩,_,l,ps,_⟩ ⟨c,rfl,hc,h0,h1⟩
  simp only at h0 h1;unfold M8;refine .br (λhk=> ?_) λhk=> .done ⟨c,rfl,hc,by show ps.length<=6;omega⟩;have hk:k>0:=of_decide_eq_true hk;have e:IntKind.wrap .i64 (k-1)=k-1:=of (by omega) (by omega);refine .draw (HS hc _) λc1 _ h1 _=> .iteP rfl (.br (λ_=> .draw (Vk h1) λc2 _ h2 _=> .iteP rfl (.iteP (by simp only[be,cn];omega) (.again ?_))) λ_=> .draw (Vk h1) λc2 _ h2 _=> .iteP rfl (.iteP (by simp only[be,cn];omega) (.again ?_)))
  all_goals
   simp only[e];exact⟨⟨c2,rfl,h2,by omega,by simp only[be,cn];omega⟩,by omega⟩) (s:=(((),(),1,y0.1,()),(()),[c0],([]:List sf),())) ⟨c0,rfl,hc0,hy0.1,by have:=hy0.2;simp;omega⟩
 rw[h1];exact⟨c2,_,rfl,h2,h3⟩
theorem Yl{c:qO}(h:FY c):Dn (λ_:Op×Unit=>True) (PZ [c]):=by
 unfold PZ;refine .bind (Vk h) λ_ _ _ _=> ?_
 repeat first |exact .ret (by assumption) trivial|refine .iteP rfl ?_|refine .br (λ_=> ?_) λ_=> ?_|refine .bind (Gf (by assumption) _) λ_ _ _ _=> ?_|refine .bind (HS (by assumption) _) λ_ _ _ _=> ?_|refine .bind (G2 (by assumption) (by simp)) λ_ _ _ _=> ?_
theorem W9{c:qO}(h:FY c):Dn (λy:List sf×Unit=>y.1.length<=17) (P0 [c]):=by
 unfold P0;refine .bind (XV h) λc1 y h1 hy=> .iteP rfl (.bind (Gf h1 _) λc2 _ h2 _=> .iteP rfl (.br (λ_=> ?_) λ_=> .br (λ_=> ?_) λ_=> .ret h2 (by show y.1.length<=17;omega)))
 ·refine .bind (G2 h2 (by simp)) λc3 _ h3 _=> .iteP rfl (.bind (Yl h3) λc4 z h4 _=> .iteP rfl ?_);have e: ∀x:sf,(y.1++ [x]).length<=17:=λx=>by simp only[be,cn];omega
  exact .iteP (ba (bg _ (e _)) (by decide)) (.ret h4 (e _))
 ·unfold TH
  obtain⟨⟨_,_,l,ps,_⟩,h1,c2,rfl,h2,h3⟩:=Uw (B:=L3) (I:=λs=> ∃c,s.2.2.1= [c] /\FY c/\s.2.2.2.1.length<=17) (E:=λe=> ∃c,e.2.2.1= [c] /\FY c/\e.2.2.2.1.length<=17) (λs=>17-s.2.2.2.1.length) (by
   rintro⟨⟨_,_,_⟩,_,l,ps,_⟩ ⟨c,rfl,hc,h0⟩
   simp only at h0;unfold L3;refine .br (λhk=> ?_) λhk=> .done ⟨c,rfl,hc,h0⟩;have hk: (ps.length:Int)<17:=of_decide_eq_true hk;refine .draw (Vk hc) λc1 _ h1 _=> .iteP rfl (.iteP (by simp only[be,cn];omega) (.again ?_));exact⟨⟨c1,rfl,h1,by simp only[be,cn];omega⟩,by simp only[be,cn];omega⟩) (s:=(((),(),()),(()),[c2],y.1,())) ⟨c2,rfl,h2,by show y.1.length<=17;omega⟩
  show Dn _ ((md L3 (((),(),()),(()),[_],y.1,())).bind _);rw[h1];exact⟨c2,_,rfl,h2,h3⟩
end
end
section
def GQ(M:Nat)(c:om):Prop:=c.replicas.length<=M/\c.witnesses.length<=M
def F1(M:Nat)(s:qQ):Prop:=GQ M s.config/\s.log.length<=M/\s.learned.length<=M
def MI(M:Nat)(m:kB):Prop:=m.configs.length<=M/\ ∀c∈m.configs,GQ M c
def FS(M:Nat)(c:qN):Prop:=(c.servers.length<=M/\ ∀s∈c.servers,F1 M s)/\c.sides.length<=M/\MI M c.master/\c.places.length<=M
theorem Fu{n:Nat}(h:n<=1048576):n<=maxLen:=by unfold maxLen;omega
end
section
theorem Ih{ρ:Type}(a b:Int)(x y:ρ):br (a==b) x y=if a=b then x else y:=by rw[BP];by_cases h:a=b<;>simp[h]
theorem Fh{ρ:Type}(b:Bool)(x y:ρ):br (!b) x y=br b y x:=by cases b<;>rfl
def IT(x a b:Int):Bool:=decide (a<=x)&&decide (x<=b)
theorem Gn(x a b:Int):Fn x a b=some (IT x a b,()):=by unfold Fn IT;rw[j6];split<;>rename_i h<;>simp[h]
theorem MU(x a b:Int):Fr x a b=some (IT x a b,()):=by unfold Fr IT;rw[j6];split<;>rename_i h<;>simp[h]
theorem Ft{x a b:Int}:IT x a b=true↔a<=x/\x<=b:=by simp[IT]
def MG(l:List Int):Prop:=∀k (h:k<l.length),(0<=l[k] /\l[k] <=4)/\ ∀_:0<k,l[k-1]'(by omega)<l[k]
theorem NJ(l:List Int)(hl:l.length<=maxLen): (Gd l=some (true,())/\G1 l=some (true,())/\MG l)\/(Gd l=some (false,())/\G1 l=some (false,())):=by
 have fm:=DL (B1:=Gt) (B2:=Gs) l.length (λk=>((l,(k:Int),()),(),())) (λk=>((l,l,(l.length:Int),(k:Int),()),(),())) (.inr (((),()),(),())) (.inr (((),()),(),())) (λ_=> .inl ((false,()),(),())) (λ_=> .inl ((false,()),(),()))
  (λk=> ∀h:k<l.length,(0<=l[k] /\l[k] <=4)/\ ∀_:0<k,l[k-1]'(by omega)<l[k]) (λ_=>True)
  (by simp only[Gt];rw[j6,if_neg (by omega)])
  (by simp only[Gs];rw[j6,if_neg (by omega)])
  (λk hk=>by
    have c1: (k:Int)< (l.length:Int):=by omega
    have c2: (0:Int)<=(k:Int):=by omega
    have e1:l[k]? =some l[k] :=an hk;simp only[Gt,Gs,j6,C7,if_pos c1,if_pos c2,cO,e1,ak,Gn,MU];cases hw:IT l[k] 0 4 with
    |false=>exact .inr ⟨rfl,rfl,trivial⟩
    |true=>
     simp only[dk,CS];have hw:=Ft.1 hw;by_cases h0:0<k
     ·have c3: (k:Int)>0:=by omega
      have c4: (0:Int)<=((k-1:Nat):Int):=by omega
      have e2:l[k-1]? =some l[k-1] :=an (by omega);simp only[if_pos c3,CO h0 (by omega),if_pos c4,cO,e2,ak];by_cases hlt:l[k-1]<l[k]
      ·rw[if_neg (by omega),if_neg (by omega),kT hl hk];exact .inl ⟨rfl,rfl,λ_=>⟨hw,λ_=>hlt⟩⟩
      ·rw[if_pos (by omega),if_pos (by omega)];exact .inr ⟨rfl,rfl,trivial⟩
     ·rw[if_neg (by omega),if_neg (by omega),kT hl hk];exact .inl ⟨rfl,rfl,λ_=>⟨hw,λh=>absurd h h0⟩⟩)
 unfold Gd G1;rcases fm with ⟨k1,k2,k3⟩| ⟨k,_,k1,k2,_⟩
 ·rw[show KA ((l,0,()),(),())=_ from k1,show Kz ((l,l,(l.length:Int),0,()),(),())=_ from k2];exact .inl ⟨rfl,rfl,λk hk=>k3 k hk hk⟩
 ·rw[show KA ((l,0,()),(),())=_ from k1,show Kz ((l,l,(l.length:Int),0,()),(),())=_ from k2];exact .inr ⟨rfl,rfl⟩
theorem MG.lt{l:List Int}(h:MG l): ∀ (d i:Nat) (h2:i+d+1<l.length),l[i]'(by omega)<l[i+d+1] :=by
 intro d
 induction d with
 |zero=>intro i h2;exact (h (i+1) h2).2 (by omega)
 |succ d ih=>intro i h2;have h1:=ih i (by omega);have h3:=(h (i+d+1+1) h2).2 (by omega);exact Int.lt_trans h1 h3
theorem MG.pair{l:List Int}(h:MG l):l.Pairwise (· < ·):=by rw[EN];intro i j hi hj hij;have:=h.lt (j-i-1) i (by omega);simpa [show i+(j-i-1)+1=j by omega] using this
theorem MG.len{l:List Int}(h:MG l):l.length<=5:=by
 have ge: ∀k (hk:k<l.length),(k:Int)<=l[k] :=by
  intro k
  induction k with
  |zero=>intro hk;exact (h 0 hk).1.1
  |succ k ih=>intro hk;have h1:=ih (by omega);have h2:=(h (k+1) hk).2 (by omega);simp only[bP] at h2;omega
 rcases cU 5 l.length with hlt|hge
 ·have h1:=ge 5 hlt;have h2:=(h 5 hlt).1.2;omega
 ·exact hge
theorem FD(l:List Int)(x:Int)(hl:l.length<=maxLen):FK l x=some (decide (x∈l),())/\Ib l x=some (decide (x∈l),()):=by
 have fm:=DL (B1:=IA) (B2:=HV) l.length (λk=>((l,x,(k:Int),()),(),())) (λk=>((l,x,(l.length:Int),(k:Int),()),(),())) (.inr (((),()),(),())) (.inr (((),()),(),())) (λ_=> .inl ((true,()),(),())) (λk=> .inl (((k:Int),()),(),()))
  (λk=>l[k]? ≠some x) (λk=>l[k]? =some x)
  (by simp only[IA];rw[j6,if_neg (by omega)])
  (by simp only[HV];rw[j6,if_neg (by omega)])
  (λk hk=>by
    have c1: (k:Int)< (l.length:Int):=by omega
    have c2: (0:Int)<=(k:Int):=by omega
    have e1:l[k]? =some l[k] :=an hk;simp only[IA,HV,j6,C7,if_pos c1,if_pos c2,cO,e1,ak,kT hl hk,Ih];by_cases he:l[k] =x
    ·rw[if_pos he,if_pos he.symm,he];exact .inr ⟨rfl,rfl,rfl⟩
    ·rw[if_neg he,if_neg (λh=>he h.symm)];exact .inl ⟨rfl,rfl,λh=>he (Option.some.inj h)⟩)
 unfold FK Ib JF LU;rcases fm with ⟨k1,k2,k3⟩| ⟨k,hk,k1,k2,k3⟩
 ·rw[show MY ((l,x,0,()),(),())=_ from k1,show Mr ((l,x,(l.length:Int),0,()),(),())=_ from k2]
  have hn:x∉l:=λh=>by obtain⟨k,hk,he⟩:=aQ h;exact k3 k hk (by rw[an hk,he])
  rw[decide_eq_false hn];exact⟨rfl,rfl⟩
 ·rw[show MY ((l,x,0,()),(),())=_ from k1,show Mr ((l,x,(l.length:Int),0,()),(),())=_ from k2];rw[decide_eq_true (ay k3)];refine⟨rfl,?_⟩;simp only[ak,Fe];rw[decide_eq_true (by omega)]
end
section
theorem IQ{n:Nat}(h:n<=1048576):n*8<=2 ^ 40:=by
 have : (2:Nat) ^ 40=1099511627776:=by decide
 omega
theorem UE(l:List Int)(x:Int)(hl:l.length<=1000)(h: ∀y∈l,y<x):HQ l x=some (l++ [x],()):=by
 have hm:l.length<=maxLen:=by unfold maxLen;omega
 have fm:=tC (B:=Jc) l (λk (_:Unit)=>((l,x,(k:Int),()),(),())) (λ_ _=>True) (λk r _=>((l,x,((k+r.length:Nat):Int),()),(),()))
  (λb hb=>by simp only[Jc];rw[j6,if_neg (by omega)];rfl)
  (λk b y hy hb=>by
    have hk:=yw hy;have c1: (k:Int)< (l.length:Int):=by omega
    have c2: (0:Int)<=(k:Int):=by omega
    refine .inl ⟨(),?_,trivial,?_⟩
    ·simp only[Jc,j6,C7,if_pos c1,if_pos c2,cO,hy,ak,if_pos (h y (ay hy)),kT hm hk]
    ·rw[bD,show k+((l.drop (k+1)).length+1)=k+1+(l.drop (k+1)).length by omega])
  0 () (bH _) trivial
 unfold HQ;rw[show QG ((l,x,0,()),(),())=_ from fm];simp only[ak,cF,aM];have c0: ¬ ((l.length:Int)< (l.length:Int)):=by omega
 have d1: (0:Int)<=0/\(0:Int)<=(l.length:Int)/\(l.length:Int)<=(l.length:Int):=by omega
 have d2: (0:Int)<=(l.length:Int)/\(l.length:Int)<=(l.length:Int)/\(l.length:Int)<=(l.length:Int):=by omega
 simp only[j6,if_neg c0,C7,if_pos d1,if_pos d2,cO,Fg,cF,Fb,de,dE,bI,EM,bK];rw[if_pos (IQ (by omega)),if_pos (IQ (by simp;omega))];exact if_pos (IQ (by simp;omega))
theorem Qs(a b:List Int)(ha:MG a)(hb:b.length<=maxLen):GX a b=some (a.filter λx=>decide (x∈b),()):=by
 have hl:=ha.len;have hm:a.length<=maxLen:=by unfold maxLen;omega
 have hp:=ha.pair
 have fm:=tC (B:=GS) a (λk (out:List Int)=>((a,b,(),(k:Int),()),(),(out,()))) (λk out=>out=(a.take k).filter λx=>decide (x∈b)) (λk r out=>(((),()),(),(out++r.filter λx=>decide (x∈b),())))
  (λout hb=>by simp only[GS];rw[j6,if_neg (by omega)];simp)
  (λk out x hx hout=>by
    have hk:=yw hx;have c1: (k:Int)< (a.length:Int):=by omega
    have c2: (0:Int)<=(k:Int):=by omega
    have hxe:a[k] =x:=by rw[an hk] at hx;exact Option.some.inj hx
    simp only[GS,j6,C7,if_pos c1,if_pos c2,cO,hx,ak,(FD b x hb).1,kT hm hk];by_cases hin:x∈b
    ·have hlt: ∀y∈out,y<x:=by
      intro y hy;rw[hout,EZ] at hy;obtain⟨i,hi,he⟩:=aQ hy.1;have hi':i<k:=by simp at hi;omega
      rw[E0] at he;rw[<-he,<-hxe];exact EN.1 hp i k (by omega) hk hi'
     have hol:out.length<=1000:=by rw[hout];have:=Fd (λx=>decide (x∈b)) (a.take k);simp at this;omega
     simp only[if_pos hin,UE out x hol hlt,ak];refine .inl ⟨out++ [x],rfl,?_,?_⟩
     ·rw[hout,EO,hx,EV];simp[hin]
     ·simp[hin]
    ·simp only[if_neg hin];refine .inl ⟨out,rfl,?_,?_⟩
     ·rw[hout,EO,hx,EV];simp[hin]
     ·simp[hin])
  0 [] (bH _) rfl
 unfold GX;rw[show MO ((a,b,(),0,()),(),([],()))=_ from fm];rfl
theorem RQ{n:Nat}(hn:n<=5): ∃m,Og (IntKind.wrap .u64 (n:Int))=some (m,()):=by
 have :n=0\/n=1\/n=2\/n=3\/n=4\/n=5:=by omega
 rcases this with rfl|rfl|rfl|rfl|rfl|rfl
 ·exact⟨0,by kernel_rfl⟩
 ·exact⟨1,by kernel_rfl⟩
 ·exact⟨2,by kernel_rfl⟩
 ·exact⟨2,by kernel_rfl⟩
 ·exact⟨3,by kernel_rfl⟩
 ·exact⟨3,by kernel_rfl⟩
theorem WW(l:List Int)(ha:MG l):Fy l 0 (l.length:Int)=some (l,()):=by
 have hl:=ha.len;have hm:l.length<=maxLen:=by unfold maxLen;omega
 have inner: ∀k (hk:k<l.length),0<k->Ga (((),0,(l.length:Int),(k:Int),(k:Int),()),(),(l,()))=some (((),0,(l.length:Int),(k:Int),()),(),(l,())):=by
  intro k hk h0;refine me ?_;have c1: (k:Int)>0:=by omega
  have c2: (0:Int)<=(k:Int)/\(k:Int)< (l.length:Int):=by omega
  have c3: (0:Int)<=((k-1:Nat):Int)/\((k-1:Nat):Int)< (l.length:Int):=by omega
  have e1:l[k]? =some l[k] :=an hk;have e2:l[k-1]? =some l[k-1] :=an (by omega);have hlt:=(ha k hk).2 h0
  have less:Im l[k] l[k-1] =some (false,()):=by unfold Im IC;simp only[beq_self_eq_true,dk,ak,CS];rw[decide_eq_false (by omega)]
  simp only[Fv,j6,C7,if_pos c1,if_pos c2,CO h0 (by omega),if_pos c3,cO,e1,e2,ak,less,CS]
 have outer:=AF (B:=Fm) (λs=> ∃k:Nat,0<k/\s=(((),0,(l.length:Int),(k:Int),()),(),(l,()))) (λs=>l.length-s.1.2.2.2.1.toNat) (λe=>e=((()),(),(l,())))
  (λs hs=>by
    obtain⟨k,h0,rfl⟩:=hs;by_cases hk:k<l.length
    ·have c1: (k:Int)< (l.length:Int):=by omega
     refine .inl ⟨(((),0,(l.length:Int),((k+1:Nat):Int),()),(),(l,())),?_,⟨k+1,by omega,rfl⟩,?_⟩
     ·simp only[Fm,j6,if_pos c1,inner k hk h0,ak,kT hm hk]
     ·simp only[cO];omega
    ·have c1: ¬ (k:Int)< (l.length:Int):=by omega
     exact .inr ⟨_,by simp only[Fm,j6,if_neg c1],rfl⟩)
  (s:=(((),0,(l.length:Int),((1:Nat):Int),()),(),(l,()))) ⟨1,by omega,rfl⟩
 obtain⟨e,h1,rfl⟩:=outer;unfold Fy;rw[show IntKind.wrap .i64 ((0:Int)+1)=((1:Nat):Int) from by rw[of (by omega) (by omega)];rfl,show F9 (((),0,(l.length:Int),((1:Nat):Int),()),(),(l,()))=_ from h1];rfl
theorem Yx(l:List Int)(ha:MG l):Hl l=some (l,()):=by
 have hl:=ha.len;obtain⟨m,hm⟩:=RQ hl
 have hp:FO l 0 (l.length:Int) m=some (l,()):=by
  unfold FO
  have :Hm (((),0,(l.length:Int),m,true,true,()),(),(l,()))=some ((()),(),(l,())):=by refine me ?_;simp only[Gb];rw[of (by omega) (by omega),j6,if_pos (by omega),WW l ha,ak,jq rfl]
  rw[this];rfl
 unfold Hl;simp only[hm,ak,hp];exact jq trivial _ _
theorem UQ(l:List Int)(ha:MG l):Gy l=some (l,()):=by
 have hl:=ha.len;have hm:l.length<=maxLen:=by unfold maxLen;omega
 unfold Gy;rw[j6];split
 ·rfl
 ·have fm:=AF (B:=FJ) (λs=> ∃k:Nat,0<k/\k<=l.length/\s=(((),(k:Int),()),(),(l,()))) (λs=>l.length-s.1.2.1.toNat) (λe=>e= .inr (((),(),()),(),(l,())))
   (λs hs=>by
     obtain⟨k,h0,hkl,rfl⟩:=hs;by_cases hk:k<l.length
     ·have c1: (k:Int)< (l.length:Int):=by omega
      have c2: (0:Int)<=(k:Int)/\(k:Int)< (l.length:Int):=by omega
      have c3: (0:Int)<=((k-1:Nat):Int)/\((k-1:Nat):Int)< (l.length:Int):=by omega
      have e1:l[k]? =some l[k] :=an hk;have e2:l[k-1]? =some l[k-1] :=an (by omega);have hlt:=(ha k hk).2 h0;refine .inl ⟨(((),((k+1:Nat):Int),()),(),(l,())),?_,⟨k+1,by omega,by omega,rfl⟩,?_⟩
      ·simp only[FJ,j6,C7,if_pos c1,if_pos c2,CO h0 (by omega),if_pos c3,cO,e1,e2,ak,Ih,kT hm hk];rw[if_neg (by omega)]
      ·simp only[cO];omega
     ·have c1: ¬ (k:Int)< (l.length:Int):=by omega
      exact .inr ⟨_,by simp only[FJ,j6,if_neg c1],rfl⟩)
   (s:=(((),((1:Nat):Int),()),(),(l,()))) ⟨1,by omega,by omega,rfl⟩
  obtain⟨e,h1,rfl⟩:=fm;rw[show Jk (((),1,()),(),(l,()))=_ from h1];rfl
theorem WP(l:List Int)(ha:MG l):Ie l=some (l,()):=by have hl:=ha.len;unfold Ie Ip;rw[jq (IQ (by omega)),ak,Yx l ha,ak,jq rfl,UQ l ha];rfl
end
section
theorem Nq{σ ε:Type}{B:σ->Option (σ⊕ε)}(n:Nat)(m:Nat->σ)(t:ε)(f:Nat->ε)(p:Nat->Bool)(h0:B (m n)=some (.inr t))(h: ∀k,k<n->B (m k)=some (if p k=true then .inr (f k) else .inl (m (k+1)))):
  (md B (m 0)=some t/\ ∀k,k<n->p k=false)\/ ∃k,k<n/\md B (m 0)=some (f k)/\p k=true/\ ∀j,j<k->p j=false:=by
 have fm: ∀d j,j+d=n->(md B (m j)=some t/\ ∀k,j<=k->k<n->p k=false)\/ ∃k,k<n/\md B (m j)=some (f k)/\p k=true/\ ∀i,j<=i->i<k->p i=false:=by
  intro d
  induction d with
  |zero=>
   intro j hj;have :j=n:=by omega
   subst this;exact .inl ⟨me h0,λk a b=>by omega⟩
  |succ d ih=>
   intro j hj;have h1:=h j (by omega);cases hp:p j with
   |true=>rw[hp,if_pos rfl] at h1;exact .inr ⟨j,by omega,me h1,hp,λi a b=>by omega⟩
   |false=>
    rw[hp,if_neg (by simp)] at h1;rw[tD h1];rcases ih (j+1) (by omega) with ⟨k1,k2⟩| ⟨k,k0,k1,k2,k3⟩
    ·refine .inl ⟨k1,λk a b=> ?_⟩;rcases Nat.eq_or_lt_of_le a with rfl|a
     ·exact hp
     ·exact k2 k a b
    ·refine .inr ⟨k,k0,k1,k2,λi a b=> ?_⟩;rcases Nat.eq_or_lt_of_le a with rfl|a
     ·exact hp
     ·exact k3 i a b
 rcases fm n 0 (by omega) with ⟨a,b⟩| ⟨k,a,b,c,d⟩
 ·exact .inl ⟨a,λk hk=>b k (bH _) hk⟩
 ·exact .inr ⟨k,a,b,c,λj hj=>d j (bH _) hj⟩
theorem RM{σ1 ε1 σ2 ε2 β:Type}{B1:σ1->Option (σ1⊕ε1)}{B2:σ2->Option (σ2⊕ε2)}(n:Nat)(m1:Nat->β->σ1)(m2:Nat->β->σ2)(J:Nat->β->Prop)(E1:β->ε1)(E2:β->ε2)
  (h0: ∀b,J n b->B1 (m1 n b)=some (.inr (E1 b))/\B2 (m2 n b)=some (.inr (E2 b)))
  (h1: ∀k b,k<n->J k b-> ∃b',B1 (m1 k b)=some (.inl (m1 (k+1) b'))/\B2 (m2 k b)=some (.inl (m2 (k+1) b'))/\J (k+1) b')
  (b:β) (hb:J 0 b): ∃b',J n b'/\md B1 (m1 0 b)=some (E1 b')/\md B2 (m2 0 b)=some (E2 b'):=by
 have go: ∀ (d k:Nat) (b:β),k+d=n->J k b-> ∃b',J n b'/\md B1 (m1 k b)=some (E1 b')/\md B2 (m2 k b)=some (E2 b'):=by
  intro d
  induction d with
  |zero=>
   intro k b hk hj;have :k=n:=by omega
   subst this;exact⟨b,hj,me (h0 b hj).1,me (h0 b hj).2⟩
  |succ d ih=>intro k b hk hj;obtain⟨b',p1,p2,p3⟩:=h1 k b (by omega) hj;obtain⟨c,q1,q2,q3⟩:=ih (k+1) b' (by omega) p3;exact⟨c,q1,by rw[tD p1];exact q2,by rw[tD p2];exact q3⟩
 exact go n 0 b (by omega) hb
theorem QX{l:List Int}{p:Int->Bool}(h: ∀x∈l,p x=true):l.filter p=l:=List.filter_eq_self.2 h
theorem VA(a b:List Int)(ha:a.length<=1000)(hb:b.length<=maxLen):Fz a b=some (a.filter λx=> !decide (x∈b),()):=by
 have hm:a.length<=maxLen:=by unfold maxLen;omega
 have hm':a.length<=9223372036854775807:=hm
 have has: ∀x,GA x b=some (decide (x∈b),()):=by intro x;unfold GA;rw[(FD b x hb).2];rfl
 have find:=Nq (B:=Fs) a.length (λk=>((a,(b,()),(a.length:Int),(k:Int),()),(),())) (.inr (((),()),(),())) (λk=> .inl (((k:Int),()),(),())) (λk=>match a[k]? with |some x=>decide (x∈b)|none=>false)
  (by simp only[Fs];rw[j6,if_neg (by omega)])
  (λk hk=>by
    have c1: (k:Int)< (a.length:Int):=by omega
    have c2: (0:Int)<=(k:Int):=by omega
    simp only[Fs,j6,C7,if_pos c1,if_pos c2,cO,an hk,ak,has,kT hm hk];by_cases hin:a[k] ∈b<;>simp[hin])
 unfold Fz FW;rcases find with ⟨k1,k2⟩| ⟨i,hi,k1,k2,k3⟩
 ·rw[show Ge ((a,(b,()),(a.length:Int),0,()),(),())=_ from k1];simp only[ak,Fc,beq_self_eq_true,DG];rw[QX λx hx=> ?_];obtain⟨k,hk,rfl⟩:=aQ hx;have:=k2 k hk;rw[an hk] at this;simpa using this
 ·rw[show Ge ((a,(b,()),(a.length:Int),0,()),(),())=_ from k1]
  have hne: ((i:Int)== -1)=false:=by simp only[beq_eq_false_iff_ne,ne_eq];omega
  simp only[ak,Fe,hne,CS,kT hm hi];rw[an hi] at k2
  have loop:=AF (B:=Fp) (λs=> ∃ (i j:Nat) (v:List Int),s=(((),(b,()),(i:Int),(j:Int),()),(),(v,()))/\i<=j/\j<=a.length/\v.length=a.length/\v.take i=(a.take j).filter (λx=> !decide (x∈b))/\v.drop j=a.drop j) (λs=>a.length-s.1.2.2.2.1.toNat)
   (λe=> ∃ (i:Nat) (v:List Int),e=(((),(i:Int),()),(),(v,()))/\i<=a.length/\v.length=a.length/\v.take i=a.filter (λx=> !decide (x∈b)))
   (λs hs=>by
     obtain⟨i,j,v,rfl,hij,hj,hv,ht,hd⟩:=hs;by_cases hlt:j<a.length
     ·have c1: (j:Int)< (v.length:Int):=by omega
      have c2: (0:Int)<=(j:Int)/\(j:Int)< (v.length:Int):=by omega
      have c3: (0:Int)<=(i:Int)/\(i:Int)< (v.length:Int):=by omega
      have e1:v[j]? =some a[j] :=by have:=congrArg (λl:List Int=>l[0]?) hd;simpa [bn,an hlt] using this
      have e2:v[i]? =some (v[i]'(by omega)):=an _;have hta:a.take (j+1)=a.take j++ [a[j]] :=by rw[EO,an hlt];rfl
      have hdd:v.drop (j+1)=a.drop (j+1):=by have:=congrArg (List.drop 1) hd;simpa [cw,b8] using this
      left;simp only[Fp,j6,C7,if_pos c1,if_pos c2,cO,e1,ak,has,if_pos c3,e2,kT hm hlt,Fh,kT hm (show i<a.length by omega)];by_cases hin:a[j] ∈b
      ·rw[if_pos hin];refine⟨_,rfl,⟨i,j+1,v,rfl,by omega,by omega,hv,?_,hdd⟩,?_⟩
       ·rw[ht,hta,EV];simp[hin]
       ·simp only[cO];omega
      ·rw[if_neg hin];refine⟨_,rfl,⟨i+1,j+1,v.set i a[j],rfl,by omega,by omega,by simp[hv],?_,?_⟩,?_⟩
       ·rw[qi _ (by omega),ht,hta,EV];simp[hin]
       ·rw[List.drop_set_of_lt (by omega),hdd]
       ·simp only[cO];omega
     ·have :j=a.length:=by omega
      subst this;right;refine⟨_,by simp only[Fp];rw[j6,if_neg (by omega)],⟨i,v,rfl,hij,hv,?_⟩⟩;rw[ht,EM])
   (s:=(((),(b,()),(i:Int),((i+1:Nat):Int),()),(),(a,()))) ⟨i,i+1,a,rfl,by omega,by omega,rfl,by
     have hta:a.take (i+1)=a.take i++ [a[i]] :=by rw[EO,an hi];rfl
     rw[hta,EV,QX (l:=a.take i) λx hx=> ?_]
     ·simp only[decide_eq_true_eq] at k2;simp[k2]
     ·obtain⟨j,hj,rfl⟩:=aQ hx;have hj':j<i:=by simp at hj;omega
      have:=k3 j hj';rw[an (by omega)] at this;rw[E0];simpa using this,rfl⟩
  obtain⟨e,h1,i',v,rfl,h2,h3,h4⟩:=loop;rw[show GC (((),(b,()),(i:Int),((i+1:Nat):Int),()),(),(a,()))=_ from h1];have d1: (0:Int)<=(i':Int)/\(i':Int)<=(v.length:Int)/\(v.length:Int)<=((v.length:Nat):Int):=by omega
  have d2:i'+(v.length-i')<=v.length:=by omega
  have d3: (0:Int)<=0/\(0:Int)<=(i':Int)/\(i':Int)<=((v.length:Nat):Int):=by omega
  simp only[ak,cO,Fg,aM,Fb,C7,if_pos d1,if_pos d2,if_pos d3];rw[if_pos ⟨trivial,by simp;omega⟩];rw[aY,List.take_append_of_le_length (by simp;omega),List.take_take,Nat.min_self,h4]
theorem UU(a b:List Int)(ha:MG a)(hb:b.length<=maxLen):Hb a b=some (a.filter λx=> !decide (x∈b),()):=by have hl:=ha.len;unfold Hb;rw[WP a ha,ak,VA a b (by omega) hb];rfl
theorem YL(a b:List Int)(ha:MG a)(hb:b.length<=maxLen):It a b=some (a.filter λx=>decide (x∈b),()):=by
 have hl:=ha.len;unfold It;rw[UU a b ha hb];simp only[ak]
 rw[UU a (a.filter λx=> !decide (x∈b)) ha (by have:=Fd (λx=> !decide (x∈b)) a;unfold maxLen;omega)]
 simp only[ak]
 congr 2
 apply List.filter_congr;intro x hx;simp[EZ,hx]
theorem Ig(c:om)(h:GQ maxLen c):Eh (Fk c) (GW c):=by
 unfold Fk GW;simp only[Gn,MU,ak];cases IT c.epoch 1 20 with
 |false=>exact⟨_,rfl,rfl⟩
 |true=>
  rcases NJ c.replicas h.1 with ⟨a1,a2,a3⟩| ⟨a1,a2⟩
  ·rcases NJ c.witnesses h.2 with ⟨b1,b2,b3⟩| ⟨b1,b2⟩
   ·simp only[a1,a2,b1,b2,ak,DG,(FD c.replicas c.primary h.1).1,(FD c.replicas c.primary h.1).2,Qs _ _ a3 h.2,YL _ _ a3 h.2];cases decide (c.primary∈c.replicas)<;>exact⟨_,rfl,rfl⟩
   ·simp only[a1,a2,b1,b2,ak,DG,CS];exact⟨_,rfl,rfl⟩
  ·simp only[a1,a2,ak,DG,CS];exact⟨_,rfl,rfl⟩
end
section
theorem Od(l:List Int)(hl:l.length<=maxLen):Eh (Hh l) (JJ l):=by
 have fm:=DL (B1:=I8) (B2:=FC) l.length (λk=>((l,(k:Int),()),(),())) (λk=>((l,(),(l.length:Int),(k:Int),()),(),())) (.inr ((l,(),()),(),())) (.inr (((),()),(),())) (λ_=> .inl ((l,false,()),(),())) (λk=> .inl (((k:Int),()),(),()))
  (λ_=>True) (λ_=>True)
  (by simp only[I8];rw[j6,if_neg (by omega)])
  (by simp only[FC];rw[j6,if_neg (by omega)])
  (λk hk=>by
    have c1: (k:Int)< (l.length:Int):=by omega
    have c2: (0:Int)<=(k:Int):=by omega
    simp only[I8,FC,j6,C7,if_pos c1,if_pos c2,cO,an hk,ak,Lb,Gn,MU,kT hl hk];cases IT l[k] 0 3 with
    |false=>exact .inr ⟨rfl,rfl,trivial⟩
    |true=>exact .inl ⟨rfl,rfl,trivial⟩)
 unfold Hh JJ F7 Gh;rcases fm with ⟨k1,k2,_⟩| ⟨k,_,k1,k2,_⟩
 ·rw[show NR ((l,0,()),(),())=_ from k1,show GF ((l,(),(l.length:Int),0,()),(),())=_ from k2];simp only[ak,Fc];cases ((l.length:Int)==5)<;>exact⟨_,rfl,rfl⟩
 ·rw[show NR ((l,0,()),(),())=_ from k1,show GF ((l,(),(l.length:Int),0,()),(),())=_ from k2];simp only[ak,Fe];rw[decide_eq_true (by omega)];cases ((l.length:Int)==5)<;>exact⟨_,rfl,rfl⟩
theorem masterLog(m:kB)(h:MI maxLen m): ∃b,FU m=some (b,())/\IH m=some (b,()):=by
 obtain⟨hl,hc⟩:=h
 have fm:=DL (B1:=FR) (B2:=Hp) m.configs.length (λk=>(((),(k:Int),()),((m.configs,m.activated,()),()),())) (λk=>(((),m.configs,(m.configs.length:Int),(k:Int),()),((m.configs,m.activated,()),()),())) (.inr (((),(),()),((m.configs,m.activated,()),()),())) (.inr (((),(),()),((m.configs,m.activated,()),()),())) (λ_=> .inl (((),false,()),((m.configs,m.activated,()),()),())) (λ_=> .inl (((),false,()),((m.configs,m.activated,()),()),()))
  (λ_=>True) (λ_=>True)
  (by simp only[FR];rw[j6,if_neg (by omega)])
  (by simp only[Hp];rw[j6,if_neg (by omega)])
  (λk hk=>by
    have c1: (k:Int)< (m.configs.length:Int):=by omega
    have c2: (0:Int)<=(k:Int):=by omega
    obtain⟨b,v1,v2⟩:=Ig m.configs[k] (hc _ (dq hk));simp only[FR,Hp,j6,C7,if_pos c1,if_pos c2,cO,an hk,ak,v1,v2,kT hl hk,Fh];cases b with
    |false=>exact .inr ⟨rfl,rfl,trivial⟩
    |true=>
     cases (m.configs[k].epoch==((k+1:Nat):Int)) with
     |false=>exact .inr ⟨rfl,rfl,trivial⟩
     |true=>exact .inl ⟨rfl,rfl,trivial⟩)
 unfold FU IH;rcases fm with ⟨k1,k2,_⟩| ⟨k,_,k1,k2,_⟩
 ·rw[show Iy (((),0,()),((m.configs,m.activated,()),()),())=_ from k1,show LC (((),m.configs,(m.configs.length:Int),0,()),((m.configs,m.activated,()),()),())=_ from k2];simp only[ak,Fc,Gn,MU];exact⟨_,rfl,rfl⟩
 ·rw[show Iy (((),0,()),((m.configs,m.activated,()),()),())=_ from k1,show LC (((),m.configs,(m.configs.length:Int),0,()),((m.configs,m.activated,()),()),())=_ from k2];exact⟨_,rfl,rfl⟩
theorem O4(x:vz):Eh (H3 x) (IG x):=by unfold H3 IG;simp only[Gn,MU,ak];cases ((x.epoch==0)&&((x.holder==0)&&((x.ends==0)&&true)))<;>cases IT x.epoch 1 20<;>cases IT x.holder 0 4<;>exact⟨_,rfl,rfl⟩
theorem M7(l:List vB)(hl:l.length<=maxLen):Eh (FQ l) (JT l):=by
 have fm:=DL (B1:=HJ) (B2:=Fx) l.length (λk=>((l,(k:Int),()),(),())) (λk=>((l,(),(l.length:Int),(k:Int),()),(),())) (.inr ((l,(),()),(),())) (.inr (((),()),(),())) (λ_=> .inl ((l,false,()),(),())) (λk=> .inl (((k:Int),()),(),()))
  (λ_=>True) (λ_=>True)
  (by simp only[HJ];rw[j6,if_neg (by omega)])
  (by simp only[Fx];rw[j6,if_neg (by omega)])
  (λk hk=>by
    have c1: (k:Int)< (l.length:Int):=by omega
    have c2: (0:Int)<=(k:Int):=by omega
    simp only[HJ,Fx,j6,C7,if_pos c1,if_pos c2,cO,an hk,ak,Kb,Gn,MU,kT hl hk];cases IT l[k].rack 0 9 with
    |false=>exact .inr ⟨rfl,rfl,trivial⟩
    |true=>
     cases IT l[k].capacity 0 9 with
     |false=>exact .inr ⟨rfl,rfl,trivial⟩
     |true=>
      cases IT l[k].load 0 99 with
      |false=>exact .inr ⟨rfl,rfl,trivial⟩
      |true=>exact .inl ⟨rfl,rfl,trivial⟩)
 unfold FQ JT FV F8;rcases fm with ⟨k1,k2,_⟩| ⟨k,_,k1,k2,_⟩
 ·rw[show MX ((l,0,()),(),())=_ from k1,show Gm ((l,(),(l.length:Int),0,()),(),())=_ from k2];simp only[ak,Fc];cases ((l.length:Int)==5)<;>exact⟨_,rfl,rfl⟩
 ·rw[show MX ((l,0,()),(),())=_ from k1,show Gm ((l,(),(l.length:Int),0,()),(),())=_ from k2];simp only[ak,Fe];rw[decide_eq_true (by omega)];cases ((l.length:Int)==5)<;>exact⟨_,rfl,rfl⟩
theorem WN(x:Op):Eh (FL x) (JU x):=by unfold FL JU;simp only[Gn,MU,ak];cases IT x.client 0 2<;>cases IT x.seq 1 99<;>cases IT x.object 0 2<;>cases IT x.value 0 9<;>cases (x.kind==1)<;>cases (x.kind==2)<;>cases (x.old==0)<;>exact⟨_,rfl,rfl⟩
theorem isLog(l:List sf)(hl:l.length<=maxLen): (Gp l=some (true,())/\Kd l=some (true,())/\l.length<=16)\/(Gp l=some (false,())/\Kd l=some (false,())):=by
 have fm:=DL (B1:=I9) (B2:=L0) l.length (λk=>((l,(k:Int),()),(),())) (λk=>((l,l,(l.length:Int),(k:Int),()),(),())) (.inr ((l,(),()),(),())) (.inr ((l,(),()),(),())) (λ_=> .inl ((l,false,()),(),())) (λ_=> .inl ((l,false,()),(),()))
  (λ_=>True) (λ_=>True)
  (by simp only[I9];rw[j6,if_neg (by omega)])
  (by simp only[L0];rw[j6,if_neg (by omega)])
  (λk hk=>by
    have c1: (k:Int)< (l.length:Int):=by omega
    have c2: (0:Int)<=(k:Int):=by omega
    obtain⟨b,v1,v2⟩:=WN l[k].op;simp only[I9,L0,j6,C7,if_pos c1,if_pos c2,cO,an hk,ak,v1,v2,Gn,MU,kT hl hk,Fh];cases IT l[k].epoch 1 20 with
    |false=>exact .inr ⟨rfl,rfl,trivial⟩
    |true=>
     simp only[DG];by_cases h0:0<k
     ·have c3: (k:Int)>0:=by omega
      have c4: (0:Int)<=((k-1:Nat):Int):=by omega
      have e2:l[k-1]? =some l[k-1] :=an (by omega);simp only[if_pos c3,CO h0 (by omega),if_pos c4,cO,e2,ak];by_cases hlt:l[k].epoch<l[k-1].epoch
      ·rw[if_pos hlt,if_pos (show l[k-1].epoch>l[k].epoch from hlt)];cases b<;>exact .inr ⟨rfl,rfl,trivial⟩
      ·rw[if_neg hlt,if_neg (show ¬l[k-1].epoch>l[k].epoch from hlt)];cases b with
       |false=>exact .inr ⟨rfl,rfl,trivial⟩
       |true=>exact .inl ⟨rfl,rfl,trivial⟩
     ·have c3: ¬ (k:Int)>0:=by omega
      simp only[if_neg c3];cases b with
      |false=>exact .inr ⟨rfl,rfl,trivial⟩
      |true=>exact .inl ⟨rfl,rfl,trivial⟩)
 unfold Gp Kd;rcases fm with ⟨k1,k2,_⟩| ⟨k,_,k1,k2,_⟩
 ·rw[show Nr ((l,0,()),(),())=_ from k1,show QD ((l,l,(l.length:Int),0,()),(),())=_ from k2];simp only[ak,Fc];by_cases h: (l.length:Int)<=16
  ·rw[decide_eq_true h];exact .inl ⟨rfl,rfl,by omega⟩
  ·rw[decide_eq_false h];exact .inr ⟨rfl,rfl⟩
 ·rw[show Nr ((l,0,()),(),())=_ from k1,show QD ((l,l,(l.length:Int),0,()),(),())=_ from k2];exact .inr ⟨rfl,rfl⟩
theorem LP(a b:List Int)(ha:a.length<=maxLen):H1 a b=some (decide (a=b),())/\HX a b=some (decide (a=b),()):=by
 unfold H1 HX Iq;by_cases hlen:a.length=b.length
 ·have hbe: (!((a.length:Int)==(b.length:Int)))=false:=by simp[hlen]
  have fm:=DL (B1:=G6) (B2:=Hf) a.length (λk=>((a,b,(k:Int),()),(),())) (λk=>((a,b,(a.length:Int),(k:Int),()),(),())) (.inr (((),()),(),())) (.inr (((),()),(),())) (λ_=> .inl ((false,()),(),())) (λ_=> .inl ((false,()),(),()))
   (λk=>a[k]? =b[k]?) (λk=>a[k]? ≠b[k]?)
   (by simp only[G6];rw[j6,if_neg (by omega)])
   (by simp only[Hf];rw[j6,if_neg (by omega)])
   (λk hk=>by
     have c1: (k:Int)< (a.length:Int):=by omega
     have c2: (0:Int)<=(k:Int):=by omega
     simp only[G6,Hf,j6,C7,if_pos c1,if_pos c2,cO,an hk,an (show k<b.length by omega),ak,kT ha hk,Fh,Ih];by_cases he:a[k] =b[k]'(by omega)
     ·simp only[if_pos he];exact .inl ⟨trivial,trivial,by rw[he]⟩
     ·simp only[if_neg he];exact .inr ⟨trivial,trivial,λh=>he (Option.some.inj h)⟩)
  rw[hbe,CS,CS];rcases fm with ⟨k1,k2,k3⟩| ⟨k,hk,k1,k2,k3⟩
  ·rw[show KW ((a,b,0,()),(),())=_ from k1,show Mq ((a,b,(a.length:Int),0,()),(),())=_ from k2]
   have :a=b:=bE λk=>by
    rcases cU k a.length with h|h
    ·exact k3 k h
    ·rw[cz h,cz (by omega)]
   rw[decide_eq_true this];exact⟨rfl,rfl⟩
  ·rw[show KW ((a,b,0,()),(),())=_ from k1,show Mq ((a,b,(a.length:Int),0,()),(),())=_ from k2];have :a≠b:=λh=>k3 (by rw[h]);rw[decide_eq_false this];exact⟨rfl,rfl⟩
 ·have hbe: (!((a.length:Int)==(b.length:Int)))=true:=by
   simp only[bT,beq_eq_false_iff_ne,ne_eq];omega
  rw[hbe,DG,DG,decide_eq_false (λh=>hlen (by rw[h]))];exact⟨rfl,rfl⟩
theorem Gk(a b:om)(ha:GQ maxLen a):Gv a b=some (decide (a=b),())/\Gj a b=some (decide (a=b),()):=by unfold Gv Gj;simp only[(LP a.replicas b.replicas ha.1).1,(LP a.replicas b.replicas ha.1).2,(LP a.witnesses b.witnesses ha.2).1,(LP a.witnesses b.witnesses ha.2).2,ak,Ih,j6];obtain⟨a1,a2,a3,a4⟩:=a;obtain⟨b1,b2,b3,b4⟩:=b;simp only[om.mk.injEq];by_cases h1:a1=b1<;>by_cases h2:a2=b2<;>by_cases h3:a3=b3<;>by_cases h4:a4=b4<;>simp[h1,h2,h3,h4]
theorem Np(l:List sf)(hl:l.length<=maxLen): ∃n,JZ l=some (n,())/\JV l=some (n,()):=by
 unfold JZ JV;rcases bu l.length with h|h
 ·have : ((l.length:Int)==0)=true:=by simp[h]
  rw[this];exact⟨_,rfl,rfl⟩
 ·have : ((l.length:Int)==0)=false:=by
   simp only[beq_eq_false_iff_ne,ne_eq];omega
  rw[this,CS,CO h hl,jq (by omega),cO,an (show l.length-1<l.length by omega)];exact⟨_,rfl,rfl⟩
theorem M6(c:om)(x:Int)(h:GQ maxLen c): ∃n,GO c x=some (n,())/\Jm c x=some (n,())/\(n=0\/n=1\/n=2\/n=3):=by unfold GO Jm;obtain⟨b,v1,v2⟩:=Ig c h;simp only[v1,v2,ak,(FD c.replicas x h.1).1,(FD c.replicas x h.1).2,(FD c.witnesses x h.2).1,(FD c.witnesses x h.2).2];cases b<;>cases (x==c.primary)<;>cases decide (x∈c.replicas)<;>cases decide (x∈c.witnesses)<;>exact⟨_,rfl,rfl,by decide⟩
end
section
theorem Fl{c:om}(h:GQ 1048576 c):GQ maxLen c:=⟨Fu h.1,Fu h.2⟩
theorem Jh{m:kB}(h:MI 1048576 m):MI maxLen m:=⟨Fu h.1,λc hc=>Fl (h.2 c hc)⟩
theorem O6(c:om)(h:GQ maxLen c):IK c=some (decide (c=⟨0,0,[],[]⟩),()):=by unfold IK;rw[(Gk c _ h).1];rfl
theorem MS(s:qQ)(id:Int)(h:F1 1048576 s):Eh (FA s id) (Hv s id):=by
 have hc:=Fl h.1;unfold FA Hv;simp only[Gn,MU,ak,Fh];cases IT s.version 1 2 with
 |false=>exact⟨_,rfl,rfl⟩
 |true=>
 cases IT s.epoch 0 20 with
 |false=>exact⟨_,rfl,rfl⟩
 |true=>
 rcases isLog s.log (Fu h.2.1) with ⟨a1,a2,a3⟩| ⟨a1,a2⟩
 case inr=>simp only[a1,a2,ak,DG,CS];exact⟨_,rfl,rfl⟩
 rcases isLog s.learned (Fu h.2.2) with ⟨b1,b2,b3⟩| ⟨b1,b2⟩
 case inr=>simp only[a1,a2,b1,b2,ak,DG,CS];exact⟨_,rfl,rfl⟩
 simp only[a1,a2,b1,b2,ak,DG];cases hw:IT s.first 0 16 with
 |false=>exact⟨_,rfl,rfl⟩
 |true=>
 have hf:=Ft.1 hw;rw[of (n:=s.first+(s.log.length:Int)) (by omega) (by omega)];by_cases h16:s.first+(s.log.length:Int)<=16
 case neg=>
  have e1:IT (s.first+(s.log.length:Int)) 0 16=false:=by unfold IT;simp;omega
  simp only[e1,DG,CS,j6,if_pos (show s.first+(s.log.length:Int)>16 by omega)];exact⟨_,rfl,rfl⟩
 have e1:IT (s.first+(s.log.length:Int)) 0 16=true:=Ft.2 ⟨by omega,h16⟩;simp only[e1,DG,j6,if_neg (show ¬s.first+(s.log.length:Int)>16 by omega),O6 s.config hc,(Gk s.config ⟨0,0,[],[]⟩ hc).2,ak];cases IT s.commit 0 (s.first+(s.log.length:Int)) with
 |false=>exact⟨_,rfl,rfl⟩
 |true=>
 simp only[DG];by_cases hz:s.config=⟨0,0,[],[]⟩
 ·simp only[if_pos hz];cases (s.first==0)<;>cases (s.commit==0)<;>cases ((s.log.length:Int)==0)<;>exact⟨_,rfl,rfl⟩
 ·simp only[if_neg hz];cases s.intact with
  |false=>exact⟨_,rfl,rfl⟩
  |true=>
  simp only[DG];by_cases he:s.epoch<s.config.epoch
  ·simp only[if_pos he];exact⟨_,rfl,rfl⟩
  ·simp only[if_neg he];obtain⟨n,n1,n2⟩:=Np s.log (Fu h.2.1);simp only[n1,n2,ak];by_cases hn:n>s.config.epoch
   ·simp only[if_pos hn];exact⟨_,rfl,rfl⟩
   ·simp only[if_neg hn];obtain⟨r,r1,r2,r3⟩:=M6 s.config id hc;simp only[r1,r2,ak];rcases r3 with rfl|rfl|rfl|rfl
    ·exact⟨_,rfl,rfl⟩
    ·exact⟨_,rfl,rfl⟩
    ·exact⟨_,rfl,rfl⟩
    ·have ht:Oh s.first s.log=some (decide ((s.log.length:Int)<=3)&&((s.first==0)||((s.log.length:Int)==3)),()):=by
      unfold Oh;simp only[a2,MU,ak,DG,j6];rw[of (by omega) (by omega),show IT s.first 0 (16-(s.log.length:Int))=true from Ft.2 ⟨by omega,by omega⟩];by_cases h3: (s.log.length:Int)<=3
      ·rw[if_pos h3,decide_eq_true h3];cases (s.first==0)<;>cases ((s.log.length:Int)==3)<;>rfl
      ·rw[if_neg h3,decide_eq_false h3];rfl
     rw[ht];by_cases h3: (s.log.length:Int)<=3
     ·rw[if_pos h3,decide_eq_true h3];cases (s.first==0)<;>cases ((s.log.length:Int)==3)<;>exact⟨_,rfl,rfl⟩
     ·rw[if_neg h3,decide_eq_false h3];exact⟨_,rfl,rfl⟩
theorem RR(m:kB)(e:Int)(h:MI 1048576 m): ∃c b,Hi m e=some (c,b,())/\JK m e=some (c,b,())/\GQ maxLen c:=by
 obtain⟨b,m1,m2⟩:=masterLog m (Jh h);have zero:GQ maxLen ⟨0,0,[],[]⟩:=⟨bH _,bH _⟩
 have hl:=h.1;unfold Hi JK;simp only[m1,m2,Gn,MU,ak,Fh];cases b with
 |false=>exact⟨_,_,rfl,rfl,zero⟩
 |true=>
  cases hw:IT e 1 (m.configs.length:Int) with
  |false=>exact⟨_,_,rfl,rfl,zero⟩
  |true=>
   have hw:=Ft.1 hw;simp only[DG];rw[of (n:=e-1) (by omega) (by omega)];have hlt: (e-1).toNat<m.configs.length:=by omega
   have hk:=h.2 _ (dq hlt)
   have copy: ∀c:om,GQ 1048576 c->H6 c=some (c,())/\Gu c=some (c,()):=by intro c hc;unfold H6 Gu;simp only[bK];rw[jq (IQ hc.1),jq (IQ hc.2)];exact⟨rfl,rfl⟩
   rw[jq (by omega),jq (by omega),an hlt];simp only[ak,(copy _ hk).1,(copy _ hk).2];exact⟨_,_,rfl,rfl,Fl hk⟩
theorem HI(x:qN)(h:FS 1048576 x):Eh (Fi x) (HY x):=by
 obtain⟨⟨hs1,hs2⟩,hsd,hml,hpl⟩:=h;have hm:=Fu hs1
 have fm:=DL (B1:=Fw) (B2:=GJ) x.servers.length (λk=>(((),(k:Int),()),((x.now,x.servers,x.sides,x.master.configs,x.master.activated,x.masterUp,x.lease.epoch,x.lease.holder,x.lease.ends,x.places,()),()),())) (λk=>(((),x.servers,(x.servers.length:Int),(k:Int),()),((x.now,x.servers,x.sides,x.master.configs,x.master.activated,x.masterUp,x.lease.epoch,x.lease.holder,x.lease.ends,x.places,()),()),())) (.inr (((),()),(),())) (.inr (((),()),(),())) (λ_=> .inl ((false,()),(),())) (λ_=> .inl ((false,()),(),()))
  (λ_=>True) (λ_=>True)
  (by simp only[Fw];rw[j6,if_neg (by omega)])
  (by simp only[GJ];rw[j6,if_neg (by omega)])
  (λk hk=>by
    have c1: (k:Int)< (x.servers.length:Int):=by omega
    have c2: (0:Int)<=(k:Int):=by omega
    have hsk:=hs2 _ (dq hk);obtain⟨b,v1,v2⟩:=MS x.servers[k] (k:Int) hsk;obtain⟨n,n1,n2⟩:=Np x.servers[k].learned (Fu hsk.2.2);obtain⟨c,d,d1,d2,d3⟩:=RR x.master x.servers[k].config.epoch hml;have hcfg:=Fl hsk.1
    simp only[Fw,GJ,j6,C7,if_pos c1,if_pos c2,cO,an hk,ak,v1,v2,n1,n2,kT hm hk,Fh,
     show (⟨x.master.configs,x.master.activated⟩:kB)=x.master from rfl,d1,d2,O6 _ hcfg,(Gk _ (⟨0,0,[],[]⟩:om) hcfg).2,(Gk c x.servers[k].config d3).1,(Gk c x.servers[k].config d3).2]
    cases b with
    |false=>exact .inr ⟨rfl,rfl,trivial⟩
    |true=>
     simp only[DG];by_cases h1:x.servers[k].epoch>(x.master.configs.length:Int)
     ·simp only[if_pos h1];exact .inr ⟨trivial,trivial,trivial⟩
     ·simp only[if_neg h1];by_cases h2:n>x.master.activated
      ·simp only[if_pos h2];exact .inr ⟨trivial,trivial,trivial⟩
      ·simp only[if_neg h2];by_cases h3:x.servers[k].config=⟨0,0,[],[]⟩
       ·simp only[if_pos h3];exact .inl ⟨trivial,trivial,trivial⟩
       ·simp only[if_neg h3];cases d with
        |false=>exact .inr ⟨rfl,rfl,trivial⟩
        |true=>
         simp only[DG];by_cases h4:c=x.servers[k].config
         ·simp only[if_pos h4];by_cases h5:x.servers[k].config.epoch>x.master.activated
          ·simp only[if_pos h5];exact .inr ⟨trivial,trivial,trivial⟩
          ·simp only[if_neg h5];exact .inl ⟨trivial,trivial,trivial⟩
         ·simp only[if_neg h4];exact .inr ⟨trivial,trivial,trivial⟩)
 unfold Fi HY;obtain⟨b1,a1,a2⟩:=Od x.sides (Fu hsd);obtain⟨b2,m1,m2⟩:=masterLog x.master (Jh hml);obtain⟨b3,l1,l2⟩:=O4 x.lease;obtain⟨b4,p1,p2⟩:=M7 x.places (Fu hpl);simp only[Gn,MU,a1,a2,m1,m2,l1,l2,p1,p2,ak,Fh,j6];cases IT x.now 0 999 with
 |false=>exact⟨_,rfl,rfl⟩
 |true=>
 cases ((x.servers.length:Int)==5) with
 |false=>exact⟨_,rfl,rfl⟩
 |true=>
 cases b1 with
 |false=>exact⟨_,rfl,rfl⟩
 |true=>
 cases b2 with
 |false=>exact⟨_,rfl,rfl⟩
 |true=>
 cases IT x.masterUp 0 3 with
 |false=>cases b3<;>cases b4<;>exact⟨_,rfl,rfl⟩
 |true=>
 cases b3 with
 |false=>exact⟨_,rfl,rfl⟩
 |true=>
 cases b4 with
 |false=>exact⟨_,rfl,rfl⟩
 |true=>
 simp only[DG];by_cases h1:x.lease.epoch>x.master.activated
 ·simp only[if_pos h1];exact⟨_,rfl,rfl⟩
 ·simp only[if_neg h1];rcases fm with ⟨k1,k2,_⟩| ⟨k,_,k1,k2,_⟩
  ·rw[show Ir (((),0,()),((x.now,x.servers,x.sides,x.master.configs,x.master.activated,x.masterUp,x.lease.epoch,x.lease.holder,x.lease.ends,x.places,()),()),())=_ from k1,show JN (((),x.servers,(x.servers.length:Int),0,()),((x.now,x.servers,x.sides,x.master.configs,x.master.activated,x.masterUp,x.lease.epoch,x.lease.holder,x.lease.ends,x.places,()),()),())=_ from k2];exact⟨_,rfl,rfl⟩
  ·rw[show Ir (((),0,()),((x.now,x.servers,x.sides,x.master.configs,x.master.activated,x.masterUp,x.lease.epoch,x.lease.holder,x.lease.ends,x.places,()),()),())=_ from k1,show JN (((),x.servers,(x.servers.length:Int),0,()),((x.now,x.servers,x.sides,x.master.configs,x.master.activated,x.masterUp,x.lease.epoch,x.lease.holder,x.lease.ends,x.places,()),()),())=_ from k2];exact⟨_,rfl,rfl⟩
end
section
theorem L5{c:om}(h:GQ maxLen c)(hv:Fk c=some (true,())):MG c.replicas/\MG c.witnesses/\c.primary∈c.replicas/\1<=c.epoch/\c.epoch<=20/\ ∀x∈c.replicas,x∉c.witnesses:=by
 unfold Fk at hv;simp only[Gn,ak] at hv;cases hw:IT c.epoch 1 20 with
 |false=>rw[hw] at hv;cases hv
 |true=>
  rw[hw] at hv;rcases NJ c.replicas h.1 with ⟨a1,a2,a3⟩| ⟨a1,a2⟩
  ·rcases NJ c.witnesses h.2 with ⟨b1,b2,b3⟩| ⟨b1,b2⟩
   ·simp only[a1,b1,ak,DG,(FD c.replicas c.primary h.1).1,Qs _ _ a3 h.2,j6] at hv;by_cases hp:c.primary∈c.replicas
    ·rw[if_pos hp] at hv;refine⟨a3,b3,hp,(Ft.1 hw).1,(Ft.1 hw).2,λx hx hxw=> ?_⟩
     have hz: ((((c.replicas.filter λx=>decide (x∈c.witnesses)).length:Nat):Int)==0)=true:=by simpa using hv
     have hz: (c.replicas.filter λx=>decide (x∈c.witnesses)).length=0:=by simp only[beq_iff_eq] at hz;omega
     have:=bh hz;have hm:x∈c.replicas.filter λx=>decide (x∈c.witnesses):=by simp[EZ,hx,hxw]
     rw[this] at hm;cases hm
    ·rw[if_neg hp] at hv;cases hv
   ·simp only[a1,b1,ak,DG,CS] at hv;cases hv
  ·simp only[a1,ak,DG,CS] at hv;cases hv
theorem UD{m:kB}(h:MI maxLen m)(hv:FU m=some (true,())): (∀k (hk:k<m.configs.length),Fk m.configs[k] =some (true,())/\m.configs[k].epoch=(k:Int)+1)/\0<=m.activated/\m.activated<=(m.configs.length:Int):=by
 obtain⟨hl,hc⟩:=h
 have fm:=DL (B1:=FR) (B2:=FR) m.configs.length (λk=>(((),(k:Int),()),((m.configs,m.activated,()),()),())) (λk=>(((),(k:Int),()),((m.configs,m.activated,()),()),())) (.inr (((),(),()),((m.configs,m.activated,()),()),())) (.inr (((),(),()),((m.configs,m.activated,()),()),())) (λ_=> .inl (((),false,()),((m.configs,m.activated,()),()),())) (λ_=> .inl (((),false,()),((m.configs,m.activated,()),()),()))
  (λk=> ∀hk:k<m.configs.length,Fk m.configs[k] =some (true,())/\m.configs[k].epoch=(k:Int)+1) (λ_=>True)
  (by simp only[FR];rw[j6,if_neg (by omega)])
  (by simp only[FR];rw[j6,if_neg (by omega)])
  (λk hk=>by
    have c1: (k:Int)< (m.configs.length:Int):=by omega
    have c2: (0:Int)<=(k:Int):=by omega
    obtain⟨b,v1,v2⟩:=Ig m.configs[k] (hc _ (dq hk))
    have step:FR (((),(k:Int),()),((m.configs,m.activated,()),()),())=br b (br (m.configs[k].epoch==((k+1:Nat):Int)) (some (.inl (((),((k+1:Nat):Int),()),((m.configs,m.activated,()),()),()))) (some (.inr (.inl (((),false,()),((m.configs,m.activated,()),()),()))))) (some (.inr (.inl (((),false,()),((m.configs,m.activated,()),()),())))):=by simp only[FR,j6,C7,if_pos c1,if_pos c2,cO,an hk,ak,v1,kT hl hk,Fh]
    rw[step];cases b with
    |false=>exact .inr ⟨rfl,rfl,trivial⟩
    |true=>
     rw[DG,Ih];by_cases he:m.configs[k].epoch=((k+1:Nat):Int)
     ·rw[if_pos he];exact .inl ⟨rfl,rfl,λ_=>⟨v1,by omega⟩⟩
     ·rw[if_neg he];exact .inr ⟨rfl,rfl,trivial⟩)
 unfold FU at hv;rcases fm with ⟨k1,_,k3⟩| ⟨k,_,k1,_,_⟩
 ·rw[show Iy (((),0,()),((m.configs,m.activated,()),()),())=_ from k1] at hv;simp only[ak,Fc,Gn,af,au,and_true] at hv;exact⟨λk hk=>k3 k hk hk,(Ft.1 hv).1,(Ft.1 hv).2⟩
 ·rw[show Iy (((),0,()),((m.configs,m.activated,()),()),())=_ from k1] at hv;cases hv
theorem NI{s:qQ}{id:Int}(h:F1 1048576 s)(hv:FA s id=some (true,())):0<=s.first/\s.first<=16/\s.log.length<=16/\0<=s.commit/\s.commit<=s.first+(s.log.length:Int)/\Gp s.log=some (true,())/\Gp s.learned=some (true,())/\0<=s.epoch/\s.epoch<=20:=by
 unfold FA at hv;simp only[Gn,ak,Fh] at hv;cases h1:IT s.version 1 2 with
 |false=>rw[h1] at hv;cases hv
 |true=>
 cases h2:IT s.epoch 0 20 with
 |false=>rw[h1,h2] at hv;cases hv
 |true=>
 rw[h1,h2] at hv;rcases isLog s.log (Fu h.2.1) with ⟨a1,a2,a3⟩| ⟨a1,a2⟩
 case inr=>simp only[a1,ak,DG,CS] at hv;cases hv
 rcases isLog s.learned (Fu h.2.2) with ⟨b1,b2,b3⟩| ⟨b1,b2⟩
 case inr=>simp only[a1,b1,ak,DG,CS] at hv;cases hv
 simp only[a1,b1,ak,DG] at hv;cases hw:IT s.first 0 16 with
 |false=>rw[hw] at hv;cases hv
 |true=>
 have hf:=Ft.1 hw;rw[hw,of (n:=s.first+(s.log.length:Int)) (by omega) (by omega)] at hv;simp only[DG] at hv;cases h3:IT (s.first+(s.log.length:Int)) 0 16 with
 |false=>rw[h3] at hv;cases hv
 |true=>
 cases h4:IT s.commit 0 (s.first+(s.log.length:Int)) with
 |false=>rw[h3,h4] at hv;cases hv
 |true=>
 exact⟨hf.1,hf.2,a3,(Ft.1 h4).1,(Ft.1 h4).2,a1,b1,(Ft.1 h2).1,(Ft.1 h2).2⟩
structure VC (x:qN):Prop where
 len:x.servers.length=5
 ml:FU x.master=some (true,())
 sides:Hh x.sides=some (true,())
 places:FQ x.places=some (true,())
 lease:H3 x.lease=some (true,())
 now:0<=x.now/\x.now<=999
 up:0<=x.masterUp/\x.masterUp<=3
 srv: ∀k (hk:k<x.servers.length),FA x.servers[k] (k:Int)=some (true,())
theorem Gl{x:qN}(h:FS 1048576 x)(hv:Fi x=some (true,())):VC x:=by
 obtain⟨⟨hs1,hs2⟩,hsd,hml,hpl⟩:=h;have hm:=Fu hs1
 have fm:=DL (B1:=Fw) (B2:=Fw) x.servers.length (λk=>(((),(k:Int),()),((x.now,x.servers,x.sides,x.master.configs,x.master.activated,x.masterUp,x.lease.epoch,x.lease.holder,x.lease.ends,x.places,()),()),())) (λk=>(((),(k:Int),()),((x.now,x.servers,x.sides,x.master.configs,x.master.activated,x.masterUp,x.lease.epoch,x.lease.holder,x.lease.ends,x.places,()),()),())) (.inr (((),()),(),())) (.inr (((),()),(),())) (λ_=> .inl ((false,()),(),())) (λ_=> .inl ((false,()),(),()))
  (λk=> ∀hk:k<x.servers.length,FA x.servers[k] (k:Int)=some (true,())) (λ_=>True)
  (by simp only[Fw];rw[j6,if_neg (by omega)])
  (by simp only[Fw];rw[j6,if_neg (by omega)])
  (λk hk=>by
    have c1: (k:Int)< (x.servers.length:Int):=by omega
    have c2: (0:Int)<=(k:Int):=by omega
    have hsk:=hs2 _ (dq hk);obtain⟨b,v1,v2⟩:=MS x.servers[k] (k:Int) hsk;obtain⟨n,n1,n2⟩:=Np x.servers[k].learned (Fu hsk.2.2);obtain⟨c,d,d1,d2,d3⟩:=RR x.master x.servers[k].config.epoch hml;have hcfg:=Fl hsk.1
    have step:Fw (((),(k:Int),()),((x.now,x.servers,x.sides,x.master.configs,x.master.activated,x.masterUp,x.lease.epoch,x.lease.holder,x.lease.ends,x.places,()),()),())=some (.inr (.inl ((false,()),(),())))\/(b=true/\Fw (((),(k:Int),()),((x.now,x.servers,x.sides,x.master.configs,x.master.activated,x.masterUp,x.lease.epoch,x.lease.holder,x.lease.ends,x.places,()),()),())=some (.inl (((),((k+1:Nat):Int),()),((x.now,x.servers,x.sides,x.master.configs,x.master.activated,x.masterUp,x.lease.epoch,x.lease.holder,x.lease.ends,x.places,()),()),()))):=by
     simp only[Fw,j6,C7,if_pos c1,if_pos c2,cO,an hk,ak,v1,n1,kT hm hk,Fh,
      show (⟨x.master.configs,x.master.activated⟩:kB)=x.master from rfl,d1,O6 _ hcfg,(Gk c x.servers[k].config d3).1]
     cases b with
     |false=>exact .inl rfl
     |true=>
      simp only[DG]
      repeat' split
      all_goals first |exact .inl trivial|exact .inr ⟨trivial,trivial⟩| (cases d<;>first |exact .inl rfl| (simp only[DG];repeat' split)<;>first |exact .inl trivial|exact .inr ⟨trivial,trivial⟩)
    rcases step with h1| ⟨rfl,h1⟩
    ·rw[h1];exact .inr ⟨rfl,rfl,trivial⟩
    ·rw[h1];exact .inl ⟨rfl,rfl,λ_=>v1⟩)
 unfold Fi at hv;obtain⟨b1,a1,a2⟩:=Od x.sides (Fu hsd);obtain⟨b2,m1,m2⟩:=masterLog x.master (Jh hml);obtain⟨b3,l1,l2⟩:=O4 x.lease;obtain⟨b4,p1,p2⟩:=M7 x.places (Fu hpl);simp only[Gn,a1,m1,l1,p1,ak,Fh,j6] at hv;cases h1:IT x.now 0 999 with
 |false=>rw[h1] at hv;cases hv
 |true=>
 cases h2: ((x.servers.length:Int)==5) with
 |false=>rw[h1,h2] at hv;cases hv
 |true=>
 cases b1 with
 |false=>rw[h1,h2] at hv;cases hv
 |true=>
 cases b2 with
 |false=>rw[h1,h2] at hv;cases hv
 |true=>
 cases h3:IT x.masterUp 0 3 with
 |false=>rw[h1,h2,h3] at hv;cases hv
 |true=>
 cases b3 with
 |false=>rw[h1,h2,h3] at hv;cases hv
 |true=>
 cases b4 with
 |false=>rw[h1,h2,h3] at hv;cases hv
 |true=>
 rw[h1,h2,h3] at hv;simp only[DG] at hv;by_cases h4:x.lease.epoch>x.master.activated
 ·rw[if_pos h4] at hv;cases hv
 ·rw[if_neg h4] at hv;rcases fm with ⟨k1,_,k3⟩| ⟨k,_,k1,_,_⟩
  ·refine⟨?_,m1,a1,p1,l1,Ft.1 h1,Ft.1 h3,λk hk=>k3 k hk hk⟩;simp only[beq_iff_eq] at h2;omega
  ·rw[show Ir (((),0,()),((x.now,x.servers,x.sides,x.master.configs,x.master.activated,x.masterUp,x.lease.epoch,x.lease.holder,x.lease.ends,x.places,()),()),())=_ from k1] at hv;cases hv
end
section

end
section
section
variable {α:Type}
end
end
section

end
section
theorem RK{n c:Nat}(h:n<=1048577)(hc:c<=1000):n*c<=2 ^ 40:=by
 have h1:n*c<=1048577*1000:=Nat.mul_le_mul h hc;have h2: (2:Nat) ^ 40=1099511627776:=by decide
 omega
theorem OZ(c:om)(h:GQ 1048576 c):H6 c=some (c,())/\Gu c=some (c,()):=by have a:=h.1;have b:=h.2;unfold H6 Gu;simp only[bK,C7,if_pos (RK (ET a) (show 8<=1000 by decide)),if_pos (RK (ET b) (show 8<=1000 by decide))];exact⟨trivial,trivial⟩
theorem ML(l:List sf)(h:l.length<=1048576):GP l=some (l,())/\H7 l=some (l,()):=by unfold GP H7;simp only[bK,C7,if_pos (RK (ET h) (show 56<=1000 by decide))];exact⟨trivial,trivial⟩
theorem YI(l:List Int)(h:l.length<=1048576):Ip l=some (l,()):=by unfold Ip;simp only[C7,if_pos (RK (ET h) (show 8<=1000 by decide))]
theorem Vy(l:List vB)(h:l.length<=1048576):Kt l=some (l,()):=by unfold Kt;simp only[C7,if_pos (RK (ET h) (show 24<=1000 by decide))]
theorem PV(s:qQ)(h:F1 1048576 s):Hy s=some (s,())/\Je s=some (s,()):=by unfold Hy Je;simp only[(OZ _ h.1).1,(OZ _ h.1).2,(ML _ h.2.1).1,(ML _ h.2.1).2,(ML _ h.2.2).1,(ML _ h.2.2).2,ak];exact⟨trivial,trivial⟩
theorem HN{α:Type}{l:List α}{k:Nat}{x:α}(h:l[k]? =some x):l.take (k+1)=l.take k++ [x] :=by rw[EO,h];rfl
theorem LZ{α:Type}(l:List α)(k:Nat)(x:α)(h:l.length<=1048576): (l.take k++ [x]).length<=1048577:=by rw[be,ci,cn];omega
theorem TX(m:kB)(h:MI 1048576 m):KP m=some (m,())/\Ke m=some (m,()):=by
 obtain⟨hl,hc⟩:=h
 have k1:=tC (B:=JR) m.configs (λk (b:List om)=>(((),(),(),(k:Int),()),((m.configs,m.activated,()),((),0,()),((),m.activated,()),()),(b,()))) (λk b=>b=m.configs.take k) (λ_ _ _=>(((),(),()),(((),0,()),((),m.activated,()),()),(m.configs,())))
  (λb hb=>by simp only[JR];rw[j6,if_neg (by omega),hb,EM])
  (λk b c hx hb=>by
    have hk:=yw hx;have c1: (k:Int)< (m.configs.length:Int):=by omega
    have c2: (0:Int)<=(k:Int):=by omega
    subst hb;refine .inl ⟨m.configs.take (k+1),?_,rfl,rfl⟩;simp only[JR,j6,C7,if_pos c1,if_pos c2,cO,hx,ak,(OZ c (hc c (ay hx))).1,kT (Fu hl) hk,if_pos (RK (LZ m.configs k c hl) (show 64<=1000 by decide)),HN hx])
  0 [] (bH _) rfl
 have k2:=tC (B:=HT) m.configs (λk (b:List om)=>(((),(),m.configs,(m.configs.length:Int),(k:Int),()),(((),0,()),((),m.activated,()),()),(b,()))) (λk b=>b=m.configs.take k) (λ_ _ _=>(((),(),()),(((),0,()),((),m.activated,()),()),(m.configs,())))
  (λb hb=>by simp only[HT];rw[j6,if_neg (by omega),hb,EM])
  (λk b c hx hb=>by
    have hk:=yw hx;have c1: (k:Int)< (m.configs.length:Int):=by omega
    have c2: (0:Int)<=(k:Int):=by omega
    subst hb;refine .inl ⟨m.configs.take (k+1),?_,rfl,rfl⟩;simp only[HT,j6,C7,if_pos c1,if_pos c2,cO,hx,ak,(OZ c (hc c (ay hx))).2,kT (Fu hl) hk,if_pos (RK (LZ m.configs k c hl) (show 64<=1000 by decide)),HN hx])
  0 [] (bH _) rfl
 unfold KP Ke;rw[show Q7 (((),(),(),0,()),((m.configs,m.activated,()),((),0,()),((),m.activated,()),()),(([]:List om),()))=_ from k1,show OE (((),(),m.configs,(m.configs.length:Int),0,()),(((),0,()),((),m.activated,()),()),(([]:List om),()))=_ from k2];exact⟨rfl,rfl⟩
theorem GM(x:qN)(ok:FS 1048576 x):FE x=some (x,())/\II x=some (x,()):=by
 obtain⟨⟨hl,hs⟩,hsd,hml,hpl⟩:=ok
 have k1:=tC (B:=JS) x.servers (λk (b:List qQ)=>(((),(),(),(k:Int),()),((x.now,x.servers,x.sides,x.master.configs,x.master.activated,x.masterUp,x.lease.epoch,x.lease.holder,x.lease.ends,x.places,()),(0,(),(),(),0,0,0,0,0,(),()),(x.now,(),x.sides,x.master.configs,x.master.activated,x.masterUp,x.lease.epoch,x.lease.holder,x.lease.ends,x.places,()),()),(b,()))) (λk b=>b=x.servers.take k) (λ_ _ _=>(((),(),(),()),((x.now,x.servers,x.sides,x.master.configs,x.master.activated,x.masterUp,x.lease.epoch,x.lease.holder,x.lease.ends,x.places,()),(0,(),(),(),0,0,0,0,0,(),()),(x.now,(),x.sides,x.master.configs,x.master.activated,x.masterUp,x.lease.epoch,x.lease.holder,x.lease.ends,x.places,()),()),(x.servers,())))
  (λb hb=>by simp only[JS];rw[j6,if_neg (by omega),hb,EM])
  (λk b c hx hb=>by
    have hk:=yw hx;have c1: (k:Int)< (x.servers.length:Int):=by omega
    have c2: (0:Int)<=(k:Int):=by omega
    subst hb;refine .inl ⟨x.servers.take (k+1),?_,rfl,rfl⟩;simp only[JS,j6,C7,if_pos c1,if_pos c2,cO,hx,ak,(PV c (hs c (ay hx))).1,kT (Fu hl) hk,if_pos (RK (LZ x.servers k c hl) (show 152<=1000 by decide)),HN hx])
  0 [] (bH _) rfl
 have k2:=tC (B:=Hq) x.servers (λk (b:List qQ)=>(((),(),(),x.servers,(x.servers.length:Int),(k:Int),()),((x.now,x.servers,x.sides,x.master.configs,x.master.activated,x.masterUp,x.lease.epoch,x.lease.holder,x.lease.ends,x.places,()),(0,(),(),(),0,0,0,0,0,(),()),(x.now,(),x.sides,x.master.configs,x.master.activated,x.masterUp,x.lease.epoch,x.lease.holder,x.lease.ends,x.places,()),()),(b,()))) (λk b=>b=x.servers.take k) (λ_ _ _=>(((),(),(),()),((x.now,x.servers,x.sides,x.master.configs,x.master.activated,x.masterUp,x.lease.epoch,x.lease.holder,x.lease.ends,x.places,()),(0,(),(),(),0,0,0,0,0,(),()),(x.now,(),x.sides,x.master.configs,x.master.activated,x.masterUp,x.lease.epoch,x.lease.holder,x.lease.ends,x.places,()),()),(x.servers,())))
  (λb hb=>by simp only[Hq];rw[j6,if_neg (by omega),hb,EM])
  (λk b c hx hb=>by
    have hk:=yw hx;have c1: (k:Int)< (x.servers.length:Int):=by omega
    have c2: (0:Int)<=(k:Int):=by omega
    subst hb;refine .inl ⟨x.servers.take (k+1),?_,rfl,rfl⟩;simp only[Hq,j6,C7,if_pos c1,if_pos c2,cO,hx,ak,(PV c (hs c (ay hx))).2,kT (Fu hl) hk,if_pos (RK (LZ x.servers k c hl) (show 152<=1000 by decide)),HN hx])
  0 [] (bH _) rfl
 unfold FE II
 rw[show Q8 (((),(),(),0,()),((x.now,x.servers,x.sides,x.master.configs,x.master.activated,x.masterUp,x.lease.epoch,x.lease.holder,x.lease.ends,x.places,()),(0,(),(),(),0,0,0,0,0,(),()),(x.now,(),x.sides,x.master.configs,x.master.activated,x.masterUp,x.lease.epoch,x.lease.holder,x.lease.ends,x.places,()),()),(([]:List qQ),()))=_ from k1,
  show N1 (((),(),(),x.servers,(x.servers.length:Int),0,()),((x.now,x.servers,x.sides,x.master.configs,x.master.activated,x.masterUp,x.lease.epoch,x.lease.holder,x.lease.ends,x.places,()),(0,(),(),(),0,0,0,0,0,(),()),(x.now,(),x.sides,x.master.configs,x.master.activated,x.masterUp,x.lease.epoch,x.lease.holder,x.lease.ends,x.places,()),()),(([]:List qQ),()))=_ from k2]
 have em: (⟨x.master.configs,x.master.activated⟩:kB)=x.master:=rfl;simp only[ak,bK,em,(TX _ hml).1,(TX _ hml).2,YI _ hsd,Vy _ hpl,C7,if_pos (RK (ET hsd) (show 8<=1000 by decide)),if_pos (RK (ET hpl) (show 24<=1000 by decide))];exact⟨trivial,trivial⟩
theorem TZ(x:qN)(id:Int)(ok:FS 1048576 x): ∃b,IL x id=some (b,())/\G3 x id=some (b,())/\(b=true->Fi x=some (true,())/\0<=id/\id<5):=by
 obtain⟨v,v1,v2⟩:=HI x ok;unfold IL G3;simp only[v1,v2,ak,Gn,MU];cases v with
 |false=>exact⟨false,rfl,rfl,nofun⟩
 |true=>refine⟨IT id 0 4,rfl,rfl,λh=>⟨rfl,?_⟩⟩;have:=Ft.1 h;omega
end
section
theorem YK(n:Int)(h0:0<=n)(h1:n<=1000000):I1 n=some ([],()):=by
 unfold I1;have e1:IntKind.wrap .i64 ((0:Int)-0)=0:=of (by decide) (by decide);have e2:IntKind.wrap .i64 (n-0)=n:=by rw[of (by omega) (by omega)];omega
 simp only[e1,e2,j6,if_neg (show ¬n<0 by omega)];by_cases h:n>0
 ·have e: (2:Int) ^ 40=1099511627776:=by decide
  have c1:0<n/\n*((8:Nat):Int)<=2 ^ 40:=⟨h,by omega⟩
  have c2: (0:Int)<=0/\(0:Int)<=0/\(0:Int)<=((n.toNat:Nat):Int):=by omega
  simp only[if_pos h,C7,if_pos c1,if_pos c2,and_self,if_true];simp
 ·simp only[if_neg h]
theorem WR(l:List (List Int))(hl:l.length<=10)(h: ∀a∈l,a.length<=1000):Jt l=some (l.flatten,()):=by
 have hm:l.length<=maxLen:=by unfold maxLen;omega
 have tot: ∀k,(l.take k).flatten.length<=k*1000:=by
  intro k
  induction k with
  |zero=>simp
  |succ k ih=>
   cases hx:l[k]? with
   |none=>
    have hle:l.length<=k:=by simpa using hx
    rw[bS hle] at ih;rw[bS (ET hle)];exact ba ih (bg _ (cM k))
   |some a=>rw[HN hx,Ff,be];have:=h a (ay hx);simp only[List.flatten_cons,List.flatten_nil,bI];rw[Nat.succ_mul];exact Nat.add_le_add ih this
 have k1:=tC (B:=Hs) l (λk (n:Int)=>((l,n,l,(l.length:Int),(k:Int),()),(),())) (λk n=>n=((l.take k).flatten.length:Int)) (λ_ _ _=>((l,(l.flatten.length:Int),()),(),()))
  (λn hn=>by simp only[Hs];rw[j6,if_neg (by omega),hn,EM])
  (λk n a hx hn=>by
    have hk:=yw hx;have c1: (k:Int)< (l.length:Int):=by omega
    have c2: (0:Int)<=(k:Int):=by omega
    have t:=tot k;have ha:=h a (ay hx);have hk10:k*1000<=10000:=by omega
    refine .inl ⟨n+(a.length:Int),?_,?_,rfl⟩
    ·simp only[Hs,j6,C7,if_pos c1,if_pos c2,cO,hx,ak,kT hm hk,of (n:=n+(a.length:Int)) (by omega) (by omega),if_neg (show ¬n+(a.length:Int)<0 by omega)]
    ·rw[HN hx,Ff,be,hn];simp)
  0 0 (bH _) (by simp)
 have t:=tot l.length;rw[EM] at t
 have k2:=tC (B:=G9) l (λk (b:List Int)=>(((),l,(l.length:Int),(k:Int),()),(),(b,()))) (λk b=>b=(l.take k).flatten) (λ_ _ _=>(((),()),(),(l.flatten,())))
  (λb hb=>by simp only[G9];rw[j6,if_neg (by omega),hb,EM])
  (λk b a hx hb=>by
    have hk:=yw hx;have c1: (k:Int)< (l.length:Int):=by omega
    have c2: (0:Int)<=(k:Int):=by omega
    have t:=tot k;have ha:=h a (ay hx);have hs: (b++a).length*8<=2 ^ 40:=RK (by rw[hb,be];omega) (by decide);refine .inl ⟨b++a,?_,?_,rfl⟩
    ·simp only[G9,j6,C7,if_pos c1,if_pos c2,cO,hx,ak,kT hm hk,if_pos hs]
    ·rw[HN hx,Ff,hb];simp)
  0 [] (bH _) (by simp)
 unfold Jt;rw[show N4 ((l,0,l,(l.length:Int),0,()),(),())=_ from k1];simp only[ak,YK _ (show (0:Int)<=(l.flatten.length:Int) by omega) (by omega)];rw[show Nu (((),l,(l.length:Int),0,()),(),([],()))=_ from k2];rfl
end
section
def SS(l:List Int):Prop:=l.Pairwise (· < ·)
theorem SS.uniq: ∀ {a b:List Int},SS a->SS b->(∀y,y∈a↔y∈b)->a=b
 | [],[],_,_,_=>rfl
 | [],b::l,_,_,h=>by have:=(h b).2 aG;cases this
 |a::l,[],_,_,h=>by have:=(h a).1 aG;cases this
 |a::l,b::m,ha,hb,h=>by
  obtain⟨a1,a2⟩:=EY.1 ha;obtain⟨b1,b2⟩:=EY.1 hb
  have hab:a=b:=by
   rcases aX.1 ((h a).1 aG) with e|e
   ·exact e
   ·rcases aX.1 ((h b).2 aG) with f|f
    ·exact f.symm
    ·have:=b1 a e;have:=a1 b f;omega
  subst hab
  have hlm:l=m:=SS.uniq a2 b2 λy=>by
   constructor
   ·intro hy;rcases aX.1 ((h y).1 (aK _ hy)) with e|e
    ·have:=a1 y hy;omega
    ·exact e
   ·intro hy;rcases aX.1 ((h y).2 (aK _ hy)) with e|e
    ·have:=b1 y hy;omega
    ·exact e
  rw[hlm]
theorem UO{A B:List Int}{x:Int}(h:SS (A++B))(ha: ∀y∈A,y<x)(hb: ∀y∈B,x<y):SS (A++ [x] ++B):=by
 obtain⟨h1,h2,h3⟩:=EW.1 h;refine EW.2 ⟨EW.2 ⟨h1,EX _ _,λa h b hb'=> ?_⟩,h2,λa h b hb'=> ?_⟩
 ·rw[aJ.1 hb'];exact ha a h
 ·rcases bi.1 h with h|h
  ·exact h3 a h b hb'
  ·rw[aJ.1 h];exact hb b hb'
theorem Y9(l:List Int)(x:Int)(hl:l.length<=1000)(hs:SS l): ∃r,HQ l x=some (r,())/\SS r/\(∀y,y∈r↔y=x\/y∈l)/\r.length<=l.length+1/\(x∉l->r.length=l.length+1):=by
 have hm:l.length<=maxLen:=by unfold maxLen;omega
 rcases Nq (B:=Jc) l.length (λk=>((l,x,(k:Int),()),(),())) ((l,x,(l.length:Int),()),(),()) (λk=>((l,x,(k:Int),()),(),())) (λk=>match l[k]? with |some y=> !decide (y<x)|none=>false)
  (by simp only[Jc];rw[j6,if_neg (by omega)])
  (λk hk=>by
    have c1: (k:Int)< (l.length:Int):=by omega
    have c2: (0:Int)<=(k:Int):=by omega
    simp only[Jc,j6,C7,if_pos c1,if_pos c2,cO,an hk,ak,kT hm hk];by_cases h:l[k]<x<;>simp[h]) with ⟨k1,k2⟩| ⟨i,hi,k1,k2,k3⟩
 ·have all: ∀y∈l,y<x:=by
   intro y hy;obtain⟨k,hk,rfl⟩:=aQ hy;have:=k2 k hk;rw[an hk] at this;simpa using this
  refine⟨l++ [x],UE l x hl all,?_,?_,?_,λ_=>by simp⟩
  ·have:=UO (A:=l) (B:=[]) (x:=x) (by simpa using hs) all (by simp);simpa using this
  ·intro y;simp[or_comm]
  ·simp
 ·rw[an hi] at k2;simp only[bT,decide_eq_false_iff_not,Int.not_lt] at k2
  have lt: ∀y∈l.take i,y<x:=by
   intro y hy;obtain⟨j,hj,rfl⟩:=aQ hy;have hj':j<i:=by simp at hj;omega
   have:=k3 j hj';rw[an (by omega)] at this;rw[E0];simpa using this
  have hd:l.drop i=l[i]::l.drop (i+1):=co hi;have hsp:l.take i++l.drop i=l:=dx i l
  have ge: ∀y∈l.drop i,l[i] <=y:=by
   intro y hy;rw[hd] at hy;rcases aX.1 hy with rfl|hy
   ·exact c9 _
   ·have h2:SS (l.drop i):=List.Pairwise.sublist (List.drop_sublist i l) hs;rw[hd] at h2;exact Int.le_of_lt ((EY.1 h2).1 y hy)
  unfold HQ;rw[show QG ((l,x,0,()),(),())=_ from k1];have c1: (i:Int)< (l.length:Int):=by omega
  have c2: (0:Int)<=(i:Int):=by omega
  simp only[ak,j6,Ih,C7,if_pos c1,if_pos c2,cO,an hi,bK];by_cases he:l[i] =x
  ·simp only[if_pos he,if_pos (IQ (show l.length<=1048576 by omega))];refine⟨l,rfl,hs,λy=>⟨.inr,?_⟩,by omega,λh=>absurd (by rw[<-he];exact dq hi) h⟩
   rintro (rfl|h)
   ·rw[<-he];exact dq hi
   ·exact h
  ·have d1: (0:Int)<=0/\(0:Int)<=(i:Int)/\(i:Int)<=(l.length:Int):=by omega
   have d2: (0:Int)<=(i:Int)/\(i:Int)<=(l.length:Int)/\(l.length:Int)<=(l.length:Int):=by omega
   have e1: (l.drop i).take (l.length-i)=l.drop i:=bS (by simp);simp only[if_neg he,if_pos d1,if_pos d2,Fg,cF,Fb,e1];rw[if_pos (IQ (by simp;omega)),if_pos (IQ (by simp;omega)),if_pos (IQ (by simp;omega))];refine⟨_,rfl,UO (by rw[hsp];exact hs) lt (λy hy=> ?_),λy=> ?_,by simp;omega,λ_=>by simp;omega⟩
   ·have:=ge y hy;omega
   ·conv=>rhs;rw[<-hsp]
    simp only[bi,aJ];constructor
    ·rintro ((h|h)|h)
     ·exact .inr (.inl h)
     ·exact .inl h
     ·exact .inr (.inr h)
    ·rintro (h|h|h)
     ·exact .inl (.inr h)
     ·exact .inl (.inl h)
     ·exact .inr h
theorem Z0{β:Type}(l:List Int)(hl:l.length<=500){mk:Nat->List Int->β}{ε:Type}{B:β->Option (β⊕ε)}{E:List Int->ε}
  (h0: ∀v,B (mk l.length v)=some (.inr (E v)))
  (h1: ∀k v x,l[k]? =some x->B (mk k v)=(HQ v x).bind λy=>some (.inl (mk (k+1) y.1)))
  (v:List Int) (hv:SS v) (hvl:v.length<=500): ∃r,md B (mk 0 v)=some (E r)/\SS r/\(∀y,y∈r↔y∈v\/y∈l)/\r.length<=v.length+l.length:=by
 have go: ∀ (n k:Nat) (v:List Int),k+n=l.length->SS v->v.length+n<=1000-> ∃r,md B (mk k v)=some (E r)/\SS r/\(∀y,y∈r↔y∈v\/y∈l.drop k)/\r.length<=v.length+n:=by
  intro n
  induction n with
  |zero=>
   intro k v hk hv _;have :k=l.length:=by omega
   subst this;exact⟨v,me (h0 v),hv,by simp,by omega⟩
  |succ n ih=>
   intro k v hk hv hn;have hlt:k<l.length:=by omega
   obtain⟨r,r1,r2,r3,r4,_⟩:=Y9 v l[k] (by omega) hv;obtain⟨s,s1,s2,s3,s4⟩:=ih (k+1) r (by omega) r2 (by omega);refine⟨s,?_,s2,λy=> ?_,by omega⟩
   ·rw[tD (by rw[h1 k v _ (an hlt),r1];rfl)];exact s1
   ·rw[s3,r3,co hlt,aX];constructor
    ·rintro ((h|h)|h)
     ·exact .inr (.inl h)
     ·exact .inl h
     ·exact .inr (.inr h)
    ·rintro (h|h|h)
     ·exact .inl (.inr h)
     ·exact .inl (.inl h)
     ·exact .inr h
 obtain⟨r,h1,h2,h3,h4⟩:=go l.length 0 v (by omega) hv (by omega);rw[cF] at h3;exact⟨r,h1,h2,h3,h4⟩
theorem Wk(a b:List Int)(ha:a.length<=100)(hb:b.length<=100): ∃r,H5 a b=some (r,())/\SS r/\(∀y,y∈r↔y∈a\/y∈b)/\r.length<=a.length+b.length:=by
 have am:a.length<=maxLen:=by unfold maxLen;omega
 have bm:b.length<=maxLen:=by unfold maxLen;omega
 obtain⟨r,r1,r2,r3,r4⟩:=Z0 (B:=G7) (mk:=λk v=>((a,b,(),(k:Int),()),(),(v,()))) (E:=λv=>((b,(),()),(),(v,()))) a (by omega)
  (λv=>by simp only[G7];rw[j6,if_neg (by omega)])
  (λk v x hx=>by
    have hk:=yw hx;have c1: (k:Int)< (a.length:Int):=by omega
    have c2: (0:Int)<=(k:Int):=by omega
    simp only[G7,j6,C7,if_pos c1,if_pos c2,cO,hx,ak,kT am hk])
  [] List.Pairwise.nil (bH _)
 obtain⟨s,s1,s2,s3,s4⟩:=Z0 (B:=G8) (mk:=λk v=>((b,(),(k:Int),()),(),(v,()))) (E:=λv=>(((),()),(),(v,()))) b (by omega)
  (λv=>by simp only[G8];rw[j6,if_neg (by omega)])
  (λk v x hx=>by
    have hk:=yw hx;have c1: (k:Int)< (b.length:Int):=by omega
    have c2: (0:Int)<=(k:Int):=by omega
    simp only[G8,j6,C7,if_pos c1,if_pos c2,cO,hx,ak,kT bm hk])
  r r2 (by simp at r4;omega)
 unfold H5;rw[show Ns ((a,b,(),0,()),(),([],()))=_ from r1];simp only[ak];rw[show Nt ((b,(),0,()),(),(r,()))=_ from s1];refine⟨s,rfl,s2,λy=> ?_,by simp at r4;omega⟩;rw[s3,r3];simp
def SL(l:List Int):Prop:=l.Pairwise (· <= ·)
theorem Ze(A R:List Int)(a x:Int): ((A++a::x::R).set (A.length+1) a).set A.length x=A++x::a::R:=by
 induction A with
 |nil=>rfl
 |cons b A ih=>simp only[cH,bD,List.set_cons_succ,ih]
theorem XF(D:List Int)(n k:Int)(x:Int)(hn:n<=12): ∀ (A C:List Int),A.length+C.length+D.length<=12->SL (A++C)->(∀c∈C,x<c)->
  ∃Q,Ga (((),0,n,k,(A.length:Int),()),(),(A++x:: (C++D),()))=some (((),0,n,k,()),(),(Q++D,()))/\SL Q/\Q.Perm (x:: (A++C)):=by
 intro A
 induction h:A.length generalizing A with
 |zero=>intro C hl hs hc;have :A= [] :=dg.1 h;subst this;refine⟨x::C,me ?_,EY.2 ⟨λc h=>Int.le_of_lt (hc c h),hs⟩,by simp⟩;simp only[Fv,j6];rw[if_neg (by simp)];rfl
 |succ m ih=>
  intro C hl hs hc;obtain⟨A',a,rfl⟩: ∃A' a,A=A'++ [a] :=⟨A.dropLast,A.getLast (by intro e;subst e;simp at h),(List.dropLast_concat_getLast _).symm⟩
  have hm:A'.length=m:=by simpa using h
  have c1: ((m+1:Nat):Int)>0:=by omega
  have hlen: ((A'++ [a])++x:: (C++D)).length=m+2+C.length+D.length:=by simp;omega
  have c2: (0:Int)<=((m+1:Nat):Int)/\((m+1:Nat):Int)< (((A'++ [a])++x:: (C++D)).length:Int):=by rw[hlen];omega
  have c3: (0:Int)<=((m+1-1:Nat):Int)/\((m+1-1:Nat):Int)< (((A'++ [a])++x:: (C++D)).length:Int):=by rw[hlen];omega
  have e1: ((A'++ [a])++x:: (C++D))[m+1]? =some x:=by rw[<-h,aV (by simp)];simp
  have e2: ((A'++ [a])++x:: (C++D))[m+1-1]? =some a:=by rw[aU (by simp;omega),aV (by omega)];simp[hm]
  have pw:IntKind.wrap .i64 (((m+1:Nat):Int)-1)=((m+1-1:Nat):Int):=CO (by omega) (by unfold maxLen;omega)
  have less:Im x a=some (decide (x<a),()):=by unfold Im IC;simp only[beq_self_eq_true,dk,ak,CS]
  by_cases hxa:x<a
  ·have hsw: (((A'++ [a])++x:: (C++D)).set (m+1) a).set (m+1-1) x=A'++x:: ((a::C)++D):=by
    have:=Ze A' (C++D) a x;rw[hm] at this;simpa using this
   have c5:m+1-1< (((A'++ [a])++x:: (C++D)).set (m+1) a).length:=by rw[EL,hlen];omega
   have hz:=an c5
   obtain⟨Q,q1,q2,q3⟩:=ih A' hm (a::C) (by simp at hl ⊢;omega) (by simpa using hs) (λc h=>by
    rcases aX.1 h with rfl|h
    ·exact hxa
    ·exact hc c h)
   refine⟨Q,?_,q2,q3.trans (by simp)⟩;unfold Ga at q1 ⊢;rw[<-q1];refine tD ?_;simp only[Fv,j6,C7,if_pos c1,if_pos c2,pw,if_pos c3,cO,e1,e2,ak,less,if_pos hxa,hz,hsw];rfl
  ·have hall: ∀y∈A',y<=a:=by
    intro y hy;have h1:SL (A'++ [a]):=(EW.1 hs).1;exact (EW.1 h1).2.2 y hy a (by simp)
   refine⟨(A'++ [a])++x::C,?_,?_,?_⟩
   ·refine me ?_;rw[show (A'++ [a])++x::C++D=(A'++ [a])++x:: (C++D) by simp];simp only[Fv,j6,C7,if_pos c1,if_pos c2,pw,if_pos c3,cO,e1,e2,ak,less,if_neg hxa]
   ·obtain⟨p1,p2,p3⟩:=EW.1 hs;refine EW.2 ⟨p1,EY.2 ⟨λc h=>Int.le_of_lt (hc c h),p2⟩,λy hy z hz=> ?_⟩
    have hyx:y<=x:=by
     rcases bi.1 hy with h|h
     ·have:=hall y h;omega
     ·rw[aJ.1 h];omega
    rcases aX.1 hz with rfl|hz
    ·exact hyx
    ·have:=hc z hz;omega
   ·exact List.perm_middle
theorem SY(l:List Int)(hl:l.length<=12): ∃r,Fy l 0 (l.length:Int)=some (r,())/\SL r/\r.Perm l:=by
 have hm:l.length<=maxLen:=by unfold maxLen;omega
 unfold Fy;cases l with
 |nil=>
  refine⟨[],?_,List.Pairwise.nil,List.Perm.refl _⟩
  rw[show F9 (((),0,(([]:List Int).length:Int),IntKind.wrap .i64 (0+1),()),(),([],()))=some ((()),(),([],())) from me (by rw[show IntKind.wrap .i64 ((0:Int)+1)=((1:Nat):Int) from by rw[of (by omega) (by omega)];rfl];simp only[Fm,j6];rw[if_neg (by simp)])]
  rfl
 |cons b l=>
  generalize hL:b::l=L at hl hm;have hpos:0<L.length:=by rw[<-hL];simp
  have outer:=AF (B:=Fm) (λs=> ∃ (k:Nat) (Q:List Int),0<k/\k<=L.length/\Q.length=k/\SL Q/\Q.Perm (L.take k)/\s=(((),0,(L.length:Int),(k:Int),()),(),(Q++L.drop k,()))) (λs=>L.length-s.1.2.2.2.1.toNat) (λe=> ∃Q:List Int,SL Q/\Q.Perm L/\e=((()),(),(Q,())))
   (λs hs=>by
     obtain⟨k,Q,h0,hk,hq,hq2,hq3,rfl⟩:=hs;by_cases hlt:k<L.length
     ·have c1: (k:Int)< (L.length:Int):=by omega
      obtain⟨R,r1,r2,r3⟩:=XF (L.drop (k+1)) (L.length:Int) (k:Int) L[k] (by omega) Q [] (by simp;omega) (by simpa using hq2) (by simp);have hd:L.drop k=L[k]::L.drop (k+1):=co hlt;rw[hq,bK,<-hd] at r1;refine .inl ⟨(((),0,(L.length:Int),((k+1:Nat):Int),()),(),(R++L.drop (k+1),())),?_,⟨k+1,R,by omega,by omega,?_,r2,?_,rfl⟩,?_⟩
      ·simp only[Fm,j6,if_pos c1,r1,ak,kT hm hlt]
      ·rw[r3.length_eq];simp[hq]
      ·rw[EO,an hlt];refine r3.trans ?_;rw[bI];refine List.Perm.trans ?_ (List.perm_append_comm);simpa using hq3
      ·simp only[cO];omega
     ·have :k=L.length:=by omega
      subst this;refine .inr ⟨_,by simp only[Fm,j6];rw[if_neg (by omega)],Q,hq2,by simpa using hq3,by simp⟩)
   (s:=(((),0,(L.length:Int),((1:Nat):Int),()),(),(L,()))) ⟨1,L.take 1,by omega,by omega,by simp;omega,by rw[<-hL];simp[SL],List.Perm.refl _,by rw[dx]⟩
  obtain⟨e,h1,Q,q1,q2,rfl⟩:=outer;rw[show IntKind.wrap .i64 ((0:Int)+1)=((1:Nat):Int) from by rw[of (by omega) (by omega)];rfl,show F9 (((),0,(L.length:Int),((1:Nat):Int),()),(),(L,()))=_ from h1];exact⟨Q,rfl,q1,q2⟩
theorem Z1{n:Nat}(hn:n<=12): ∃m,Og (IntKind.wrap .u64 (n:Int))=some (m,()):=by
 have :n<=5\/n=6\/n=7\/n=8\/n=9\/n=10\/n=11\/n=12:=by omega
 rcases this with h|rfl|rfl|rfl|rfl|rfl|rfl|rfl
 ·exact RQ h
 ·exact⟨3,by kernel_rfl⟩
 ·exact⟨3,by kernel_rfl⟩
 ·exact⟨4,by kernel_rfl⟩
 ·exact⟨4,by kernel_rfl⟩
 ·exact⟨4,by kernel_rfl⟩
 ·exact⟨4,by kernel_rfl⟩
 ·exact⟨4,by kernel_rfl⟩
theorem Zc(l:List Int)(hl:l.length<=12): ∃r,Hl l=some (r,())/\SL r/\r.Perm l:=by
 obtain⟨m,hm⟩:=Z1 hl;obtain⟨r,r1,r2,r3⟩:=SY l hl
 have hp:FO l 0 (l.length:Int) m=some (r,()):=by
  unfold FO
  have :Hm (((),0,(l.length:Int),m,true,true,()),(),(l,()))=some ((()),(),(r,())):=by refine me ?_;simp only[Gb];rw[of (by omega) (by omega),j6,if_pos (by omega),r1,ak,jq r3.length_eq]
  rw[this];rfl
 unfold Hl;simp only[hm,ak,hp];exact⟨r,jq r3.length_eq _ _,r2,r3⟩
theorem TW(l:List Int)(hl:l.length<=1000)(hs:SL l)(k0:Nat)(h0:0<k0)(hk:k0<l.length)(hss:SS (l.take k0))(heq:l[k0] =l[k0-1]):
  ∃e,LK (((),(k0:Int),(k0,l.length-k0),1,()),(),(l,()))=some e/\ ∃ (kk:Nat) (v:List Int),e=(((),(kk:Int),()),(),(v,()))/\kk<=l.length/\v.length=l.length/\SS (v.take kk)/\ ∀y,y∈v.take kk↔y∈l:=by
 have hm:l.length<=maxLen:=by unfold maxLen;omega
 have mem0: ∀y,y∈l.take k0↔y∈l.take (k0+1):=by
  intro y;rw[EO,an hk,heq];simp only[Option.toList_some,bi,aJ];refine⟨.inl,?_⟩
  rintro (h|rfl)
  ·exact h
  ·rw[List.mem_take_iff_getElem];exact⟨k0-1,by omega,rfl⟩
 refine AF (B:=Gz) (λs=> ∃ (kk k2:Nat) (v:List Int),s=(((),(kk:Int),(k0,l.length-k0),(k2:Int),()),(),(v,()))/\0<k2/\k0+k2<=l.length/\k0<=kk/\kk+1<=k0+k2/\v.length=l.length/\SS (v.take kk)/\(∀y,y∈v.take kk↔y∈l.take (k0+k2))/\v.drop (k0+k2-1)=l.drop (k0+k2-1)) (λs=>l.length-s.1.2.2.2.1.toNat) _
  (λs hI=> ?_) (s:=(((),(k0:Int),(k0,l.length-k0),((1:Nat):Int),()),(),(l,()))) ⟨k0,1,l,rfl,by omega,by omega,by omega,by omega,rfl,hss,mem0,rfl⟩
 obtain⟨kk,k2,v,rfl,a1,a2,a3,a4,a5,a6,a7,a8⟩:=hI;by_cases hlt:k0+k2<l.length
 ·left;have c1: (k2:Int)< ((l.length-k0:Nat):Int):=by omega
  have c2: (0:Int)<=(k2:Int)/\(k2:Int)< ((l.length-k0:Nat):Int):=by omega
  have c3: (0:Int)<=((k2-1:Nat):Int)/\((k2-1:Nat):Int)< ((l.length-k0:Nat):Int):=by omega
  have c4: (0:Int)<=(kk:Int)/\(kk:Int)< (v.length:Int):=by omega
  have g1:v[k0+(k2-1)]? =some l[k0+k2-1] :=by have:=congrArg (λz:List Int=>z[0]?) a8;simp only[bn,bL] at this;rw[show k0+(k2-1)=k0+k2-1 by omega,this];exact an _
  have g2:v[k0+k2]? =some l[k0+k2] :=by have:=congrArg (λz:List Int=>z[1]?) a8;simp only[bn] at this;rw[show k0+k2-1+1=k0+k2 by omega] at this;rw[this];exact an _
  have g3:v[kk]? =some (v[kk]'(by omega)):=an _;have hle:l[k0+k2-1] <=l[k0+k2] :=EN.1 hs _ _ (by omega) hlt (by omega)
  have hdd:v.drop (k0+k2)=l.drop (k0+k2):=by have:=congrArg (List.drop 1) a8;simpa [cw,show k0+k2-1+1=k0+k2 by omega] using this
  have hta:l.take (k0+k2+1)=l.take (k0+k2)++ [l[k0+k2]] :=by rw[EO,an hlt];rfl
  have inb: ∀y∈l.take (k0+k2),y<=l[k0+k2-1] :=by
   intro y hy;obtain⟨j,hj,rfl⟩:=aQ hy;have hj':j<k0+k2:=by simp at hj;omega
   rw[E0];by_cases e:j=k0+k2-1
   ·subst e;exact c9 _
   ·exact EN.1 hs _ _ (by omega) (by omega) (by omega)
  have hkm:k2<l.length:=by omega
  have hkm':kk<l.length:=by omega
  simp only[Gz,j6,Fh,Ih,C7,if_pos c1,if_pos c2,CO a1 (by unfold maxLen;omega),if_pos c3,cO,g1,g2,ak,kT hm hkm,kT hm hkm',if_pos c4,g3];by_cases he:l[k0+k2] =l[k0+k2-1]
  ·simp only[if_pos he];refine⟨_,rfl,⟨kk,k2+1,v,rfl,by omega,by omega,a3,by omega,a5,a6,λy=> ?_,hdd⟩,?_⟩
   ·rw[a7,show k0+(k2+1)=k0+k2+1 by omega,hta,he];simp only[bi,aJ];refine⟨.inl,?_⟩
    rintro (h|rfl)
    ·exact h
    ·rw[List.mem_take_iff_getElem];exact⟨k0+k2-1,by omega,rfl⟩
   ·simp only[cO];omega
  ·simp only[if_neg he];have hts: (v.set kk l[k0+k2]).take (kk+1)=v.take kk++ [l[k0+k2]] :=qi _ (by omega);refine⟨_,rfl,⟨kk+1,k2+1,v.set kk l[k0+k2],rfl,by omega,by omega,by omega,by omega,by simp[a5],?_,λy=> ?_,?_⟩,?_⟩
   ·rw[hts]
    have:=UO (A:=v.take kk) (B:=[]) (x:=l[k0+k2]) (by simpa using a6) (λy hy=>by have:=inb y ((a7 y).1 hy);omega) (by simp)
    simpa using this
   ·rw[hts,show k0+(k2+1)=k0+k2+1 by omega,hta];simp only[bi,a7]
   ·rw[show k0+(k2+1)-1=k0+k2 by omega,List.drop_set_of_lt (by omega),hdd]
   ·simp only[cO];omega
 ·right;have hkk:k0+k2=l.length:=by omega
  refine⟨_,by simp only[Gz,j6];rw[if_neg (by omega)],kk,v,rfl,by omega,a5,a6,λy=> ?_⟩;rw[a7,hkk,EM]
theorem Vx(l:List Int)(hl:l.length<=1000)(hs:SL l): ∃r,Gy l=some (r,())/\SS r/\(∀y,y∈r↔y∈l)/\r.length<=l.length:=by
 have hm:l.length<=maxLen:=by unfold maxLen;omega
 unfold Gy;rw[j6];split
 ·refine⟨l,rfl,?_,λ_=>Iff.rfl,az _⟩
  match l with
  | [] =>exact List.Pairwise.nil
  | [a] =>exact EX _ _
  |a::b::l=>simp at*;omega
 ·have fm:=AF (B:=FJ) (λs=> ∃k:Nat,0<k/\k<=l.length/\SS (l.take k)/\s=(((),(k:Int),()),(),(l,()))) (λs=>l.length-s.1.2.1.toNat)
   (λe=>(e= .inr (((),(),()),(),(l,()))/\SS l)\/ ∃ (kk:Nat) (W:List Int),e= .inl (((),(0,kk),()),(),(W,()))/\kk<=W.length/\kk<=l.length/\SS (W.take kk)/\ ∀y,y∈W.take kk↔y∈l)
   (λs hI=>by
     obtain⟨k,h0,hkl,hss,rfl⟩:=hI;by_cases hk:k<l.length
     ·have c1: (k:Int)< (l.length:Int):=by omega
      have c2: (0:Int)<=(k:Int)/\(k:Int)< (l.length:Int):=by omega
      have c3: (0:Int)<=((k-1:Nat):Int)/\((k-1:Nat):Int)< (l.length:Int):=by omega
      have c4: (0:Int)<=(k:Int)/\(k:Int)<=(l.length:Int)/\(l.length:Int)<=(l.length:Int):=by omega
      have e1:l[k]? =some l[k] :=an hk;have e2:l[k-1]? =some l[k-1] :=an (by omega);by_cases he:l[k] =l[k-1]
      ·right;obtain⟨e,f1,kk,v,rfl,f2,f3,f4,f5⟩:=TW l hl hs k h0 hk hss he;have d1: (0:Int)<=(kk:Int)/\(kk:Int)<=(v.length:Int)/\(v.length:Int)<=(v.length:Int):=by omega
       have d2:kk+(v.length-kk)<=v.length:=by omega
       have d3: (0:Int)<=0/\(0:Int)<=(kk:Int)/\(kk:Int)<=(v.length:Int):=by omega
       simp only[FJ,j6,C7,if_pos c1,if_pos c2,CO h0 (by omega),if_pos c3,cO,e1,e2,ak,Ih,if_pos he,if_pos c4,aM];rw[f1];simp only[ak,cO,if_pos d1,if_pos d2,if_pos d3,Fg,Fb]
       have ht: (v.take kk++List.replicate (v.length-kk) 0++v.drop (kk+(v.length-kk))).take kk=v.take kk:=by rw[aY,List.take_append_of_le_length (by simp;omega),List.take_take,Nat.min_self]
       refine⟨_,rfl,.inr ⟨kk,_,rfl,by simp;omega,f2,by rw[ht];exact f4,λy=>by rw[ht];exact f5 y⟩⟩
      ·left;have hle:l[k-1] <=l[k] :=EN.1 hs _ _ (by omega) hk (by omega);refine⟨(((),((k+1:Nat):Int),()),(),(l,())),?_,⟨k+1,by omega,by omega,?_,rfl⟩,?_⟩
       ·simp only[FJ,j6,C7,if_pos c1,if_pos c2,CO h0 (by omega),if_pos c3,cO,e1,e2,ak,Ih,kT hm hk,if_neg he]
       ·rw[EO,e1]
        have:=UO (A:=l.take k) (B:=[]) (x:=l[k]) (by simpa using hss) (λy hy=>by
         obtain⟨j,hj,rfl⟩:=aQ hy;have hj':j<k:=by simp at hj;omega
         rw[E0]
         have :l[j] <=l[k-1] :=by
          by_cases e:j=k-1
          ·subst e;exact c9 _
          ·exact EN.1 hs _ _ (by omega) (by omega) (by omega)
         omega) (by simp)
        simpa using this
       ·simp only[cO];omega
     ·have hk':k=l.length:=by omega
      subst hk';rw[EM] at hss;exact .inr ⟨_,by simp only[FJ,j6];rw[if_neg (by omega)],.inl ⟨rfl,hss⟩⟩)
   (s:=(((),((1:Nat):Int),()),(),(l,()))) ⟨1,by omega,by omega,by
     cases l with
     |nil=>exact List.Pairwise.nil
     |cons a l=>exact EX _ _,rfl⟩
  obtain⟨e,h1,h2⟩:=fm;rw[show Jk (((),1,()),(),(l,()))=_ from h1];rcases h2 with ⟨rfl,h2⟩| ⟨kk,W,rfl,h3,h4,h5,h6⟩
  ·exact⟨l,rfl,h2,λ_=>Iff.rfl,az _⟩
  ·refine⟨W.take kk,?_,h5,h6,by simp;omega⟩;simp only[ak,Fe];exact jq ⟨trivial,h3⟩ _ _
theorem WO(l:List Int)(hl:l.length<=12): ∃r,Ie l=some (r,())/\SS r/\(∀y,y∈r↔y∈l)/\r.length<=l.length:=by obtain⟨s,s1,s2,s3⟩:=Zc l hl;have sl:=s3.length_eq;obtain⟨r,r1,r2,r3,r4⟩:=Vx s (by omega) s2;unfold Ie Ip;rw[jq (IQ (by omega)),ak,s1,ak,jq sl,r1];exact⟨r,rfl,r2,λy=>by rw[r3,s3.mem_iff],by omega⟩
theorem aaK(a b:List Int)(h:a.length+b.length<=12): ∃r,H5 a b=some (r,())/\IV a b=some (r,())/\SS r/\(∀y,y∈r↔y∈a\/y∈b)/\r.length<=a.length+b.length:=by
 obtain⟨r,r1,r2,r3,r4⟩:=Wk a b (by omega) (by omega);obtain⟨s,s1,s2,s3,s4⟩:=WO (a++b) (by simp;omega);have hrs:r=s:=r2.uniq s2 λy=>by rw[r3,s3,bi]
 subst hrs;refine⟨r,r1,?_,r2,r3,r4⟩;unfold IV
 have hc:=WR [a,b] (by simp) (by intro x hx;simp only[aX,List.not_mem_nil,or_false] at hx;rcases hx with rfl|rfl<;>omega)
 rw[hc,ak,show ([a,b]:List (List Int)).flatten=a++b by simp,s1];rfl
end
section
theorem RS(m:kB)(e:Int)(h:MI 1048576 m)(hv:FU m=some (true,())): ∃c b,Hi m e=some (c,b,())/\JK m e=some (c,b,())/\GQ maxLen c/\(b=IT e 1 (m.configs.length:Int))/\(b=true->Fk c=some (true,())/\c.epoch=e)/\(b=false->c=⟨0,0,[],[]⟩):=by
 obtain⟨b,m1,m2⟩:=masterLog m (Jh h);rw[hv] at m1;simp only[af,au,and_true] at m1;subst m1;obtain⟨f1,_,_⟩:=UD (Jh h) hv;have zero:GQ maxLen ⟨0,0,[],[]⟩:=⟨bH _,bH _⟩
 have hl:=h.1;unfold Hi JK;simp only[hv,m2,Gn,MU,ak,Fh,DG];cases hw:IT e 1 (m.configs.length:Int) with
 |false=>exact⟨_,_,rfl,rfl,zero,rfl,nofun,λ_=>rfl⟩
 |true=>
  have hw:=Ft.1 hw;simp only[DG];rw[of (n:=e-1) (by omega) (by omega)];have hlt: (e-1).toNat<m.configs.length:=by omega
  have hk:=h.2 _ (dq hlt)
  have copy: ∀c:om,GQ 1048576 c->H6 c=some (c,())/\Gu c=some (c,()):=by intro c hc;unfold H6 Gu;simp only[bK];rw[jq (IQ hc.1),jq (IQ hc.2)];exact⟨rfl,rfl⟩
  rw[jq (by omega),jq (by omega),an hlt];simp only[ak,(copy _ hk).1,(copy _ hk).2];refine⟨_,_,rfl,rfl,Fl hk,rfl,λ_=>⟨(f1 _ hlt).1,?_⟩,nofun⟩;rw[(f1 _ hlt).2];omega
end
section
def P2(p:Nat->Bool)(n:Nat):List Int:=((List.range n).filter p).map λ(k:Nat)=>(k:Int)
theorem UV(p:Nat->Bool)(n:Nat):P2 p (n+1)=P2 p n++if p n=true then [(n:Int)] else [] :=by
 unfold P2;rw[List.range_succ,EV,bO]
 congr 1
 cases h:p n<;>simp[h]
theorem Ua(p:Nat->Bool)(n:Nat)(x:Int):x∈P2 p n↔ ∃k:Nat,k<n/\p k=true/\x=(k:Int):=by
 unfold P2;simp only[aI,EZ,bC];constructor
 ·rintro⟨k,⟨h1,h2⟩,rfl⟩;exact⟨k,h1,h2,rfl⟩
 ·rintro⟨k,h1,h2,rfl⟩;exact⟨k,⟨h1,h2⟩,rfl⟩
theorem Wr(p:Nat->Bool)(n:Nat): (P2 p n).length<=n:=by unfold P2;rw[aE];exact ba (Fd _ _) (by simp)
theorem Wq(p:Nat->Bool){n:Nat}(hn:n<=5):MG (P2 p n):=by
 have hp: (P2 p n).Pairwise (· < ·):=by unfold P2;rw[List.pairwise_map];exact (List.Pairwise.filter _ List.pairwise_lt_range).imp λh=>by omega
 intro k hk;have hm: (P2 p n)[k] ∈P2 p n:=dq hk;obtain⟨j,h1,_,h2⟩:=(Ua p n _).1 hm;exact⟨⟨by omega,by omega⟩,λh0=>EN.1 hp (k-1) k (by omega) hk (by omega)⟩
theorem YN(p q:Nat->Bool)(n:Nat): (P2 p n).filter (λx=>decide (x∈P2 q n))=P2 (λk=>p k&&q k) n:=by
 unfold P2;rw[List.filter_map,List.filter_filter]
 congr 1
 apply List.filter_congr;intro k hk;have hk:=bC.1 hk
 have : (((λx=>decide (x∈P2 q n))∘λ(k:Nat)=>(k:Int)) k)=q k:=by
  show decide ((k:Int)∈P2 q n)=q k;cases hq:q k with
  |true=>exact decide_eq_true ((Ua q n _).2 ⟨k,hk,hq,rfl⟩)
  |false=>
   refine decide_eq_false λh=> ?_;obtain⟨j,_,h1,h2⟩:=(Ua q n _).1 h;have :j=k:=by omega
   subst this;rw[hq] at h1;cases h1
 have e:decide ((k:Int)∈List.map (λ(k:Nat)=>(k:Int)) (List.filter q (List.range n)))=q k:=this;simp only[Function.comp,e,Bool.and_comm]
def Vt(x:qN)(k:Nat):Bool:=match x.servers[k]? with |some s=>s.up|none=>false
def OX(l:List Int)(k:Nat):Bool:=match l[k]? with |some s=>s==0|none=>false
theorem Zg{p:Nat->Bool}{k:Nat}(h:k<=1000)(y:Int): (P2 p k++ [y]).length*8<=2 ^ 40:=by have:=Wr p k;refine IQ ?_;rw[be,cn];omega
theorem Xm(x:qN)(hl:x.servers.length=5)(hv:Fi x=some (true,())):Lo x=some (P2 (Vt x) 5,()):=by
 have ex: (⟨x.now,x.servers,x.sides,⟨x.master.configs,x.master.activated⟩,x.masterUp,⟨x.lease.epoch,x.lease.holder,x.lease.ends⟩,x.places⟩:qN)=x:=rfl
 have fm:=tC (B:=IB) x.servers (λk (b:List Int)=>(((),(),(k:Int),()),((x.now,x.servers,x.sides,x.master.configs,x.master.activated,x.masterUp,x.lease.epoch,x.lease.holder,x.lease.ends,x.places,()),()),(b,()))) (λk b=>b=P2 (Vt x) k) (λ_ _ _=>(((),()),(),(P2 (Vt x) 5,())))
  (λb hb=>by simp only[IB];rw[j6,if_neg (by omega),hb,hl])
  (λk b s hs hb=>by
    have hk:=yw hs;have c1: (k:Int)< (x.servers.length:Int):=by omega
    have c2: (0:Int)<=(k:Int):=by omega
    have hup:Vt x k=s.up:=by unfold Vt;rw[hs]
    subst hb;simp only[IB,j6,C7,if_pos c1,if_pos c2,cO,hs,ak,ex,hv,DG,kT (n:=5) (by decide) (by omega:k<5),if_pos (Zg (p:=Vt x) (k:=k) (by omega) (k:Int))];refine .inl ⟨P2 (Vt x) (k+1),?_,rfl,trivial⟩;rw[UV,hup];cases s.up
    ·simp;rfl
    ·rfl)
  0 [] (bH _) rfl
 unfold Lo;rw[show Pn (((),(),0,()),((x.now,x.servers,x.sides,x.master.configs,x.master.activated,x.masterUp,x.lease.epoch,x.lease.holder,x.lease.ends,x.places,()),()),([],()))=_ from fm];rfl
theorem Ly{l:List Int}(hl:l.length<=maxLen)(hv:Hh l=some (true,())):l.length=5:=by
 obtain⟨b,h1,h2⟩:=Od l hl;rw[hv] at h1;simp only[af,au,and_true] at h1;subst h1;unfold JJ at h2;cases h: ((l.length:Int)==5) with
 |false=>rw[h] at h2;cases h2
 |true=>simp only[beq_iff_eq] at h;omega
theorem Wd(l:List Int)(hl:l.length=5)(hv:Hh l=some (true,())):Kj l=some (P2 (OX l) 5,()):=by
 have fm:=tC (B:=HU) l (λk (b:List Int)=>((l,(),(k:Int),()),(),(b,()))) (λk b=>b=P2 (OX l) k) (λ_ _ _=>(((),()),(),(P2 (OX l) 5,())))
  (λb hb=>by simp only[HU];rw[j6,if_neg (by omega),hb,hl])
  (λk b s hs hb=>by
    have hk:=yw hs;have c1: (k:Int)< (l.length:Int):=by omega
    have c2: (0:Int)<=(k:Int):=by omega
    have hup:OX l k=(s==0):=by unfold OX;rw[hs]
    subst hb;simp only[HU,j6,C7,if_pos c1,if_pos c2,cO,hs,ak,hv,DG,kT (n:=5) (by decide) (by omega:k<5),if_pos (Zg (p:=OX l) (k:=k) (by omega) (k:Int))];refine .inl ⟨P2 (OX l) (k+1),?_,rfl,trivial⟩;rw[UV,hup];cases (s==0)
    ·simp;rfl
    ·rfl)
  0 [] (bH _) rfl
 unfold Kj;rw[show OG ((l,(),0,()),(),([],()))=_ from fm];rfl
def TU(x:qN)(k:Nat):Bool:=Vt x k&&OX x.sides k
theorem aaq(x:qN)(ok:FS 1048576 x)(hv:Fi x=some (true,())):Mg x=some (P2 (TU x) 5,()):=by have vc:=Gl ok hv;have hsl:=Ly (Fu ok.2.1) vc.sides;unfold Mg;rw[Xm x vc.len hv,Wd x.sides hsl vc.sides];simp only[ak];rw[Qs _ _ (Wq _ (az 5)) (ba (Wr _ _) (by decide)),YN];rfl
end
section
def LI(x:qN)(a:Int):Int:=(x.sides[a.toNat]?).getD 0
theorem Yq(x:qN)(ok:FS 1048576 x)(vc:VC x){a b:Int}(ha:0<=a/\a<5)(hb:0<=b/\b<5):Gw x.sides a b=some (LI x a==LI x b,())/\L6 x.sides a b=some (LI x a==LI x b,()):=by
 have hl:=Fu ok.2.1;have h5:=Ly hl vc.sides;obtain⟨v,s1,s2⟩:=Od x.sides hl;rw[vc.sides] at s1;simp only[af,au,and_true] at s1;subst s1;have wa:IT a 0 4=true:=Ft.2 (by omega);have wb:IT b 0 4=true:=Ft.2 (by omega);have la:a.toNat<x.sides.length:=by omega
 have lb:b.toNat<x.sides.length:=by omega
 unfold Gw L6 LI;simp only[vc.sides,s2,Gn,MU,wa,wb,ak,DG,C7,if_pos ha.1,if_pos hb.1,an la,an lb,aZ,and_self]
theorem MF{x:qN}(ok:FS 1048576 x)(vc:VC x){a:Int}(ha:0<=a/\a<5): ∃s,x.servers[a.toNat]? =some s/\F1 1048576 s/\FA s a=some (true,()):=by
 have hlt:a.toNat<x.servers.length:=by rw[vc.len];omega
 refine⟨_,an hlt,ok.1.2 _ (dq hlt),?_⟩;have:=vc.srv _ hlt
 rwa [Int.toNat_of_nonneg ha.1] at this
def T0(x:qN)(a b:Int):Bool:=(LI x a==LI x b)&&(match x.servers[b.toNat]?,x.servers[a.toNat]? with
 |some m,some p=>m.up&&(m.epoch==p.epoch)&&decide (m.commit<=(p.log.length:Int))&&decide (m.config=p.config)
 | _,_=>false)
theorem aaw(x:qN)(ok:FS 1048576 x)(vc:VC x){a b:Int}(ha:0<=a/\a<5)(hb:0<=b/\b<5):HM x a b=some (T0 x a b,())/\PY x a b=some (T0 x a b,()):=by obtain⟨p,p1,p2,_⟩:=MF ok vc ha;obtain⟨m,m1,m2,_⟩:=MF ok vc hb;obtain⟨h1,h2⟩:=Yq x ok vc ha hb;obtain⟨e1,e2⟩:=Gk m.config p.config (Fl m2.1);unfold HM PY T0;simp only[p1,m1,h1,h2,e1,e2,C7,if_pos ha.1,if_pos hb.1,ak];cases (LI x a==LI x b)<;>cases m.up<;>cases (m.epoch==p.epoch)<;>cases (decide (m.commit<=(p.log.length:Int)))<;>cases (decide (m.config=p.config))<;>exact⟨rfl,rfl⟩
theorem KZ(s:qQ)(id:Int)(h:F1 1048576 s): ∃b,FG s id=some (b,())/\IU s id=some (b,()):=by obtain⟨v,v1,v2⟩:=MS s id h;obtain⟨n,n1,n2,_⟩:=M6 s.config id (Fl h.1);unfold FG IU;simp only[v1,v2,n1,n2,ak];cases v<;>cases s.up<;>cases (n==1)<;>exact⟨_,rfl,rfl⟩
theorem O7(c:om)(h:GQ maxLen c): ∃l,FX c=some (l,())/\Ic c=some (l,())/\l.length<=10/\(∀y∈l,0<=y/\y<5)/\SS l/\(Fk c=some (true,())-> ∀y,y∈l↔y∈c.replicas\/y∈c.witnesses):=by
 obtain⟨v,v1,v2⟩:=Ig c h;unfold FX Ic;simp only[v1,v2,ak,Fh];cases v with
 |false=>exact⟨[],rfl,rfl,bH _,nofun,List.Pairwise.nil,nofun⟩
 |true=>
  obtain⟨a1,a2,_⟩:=L5 h v1;have l1:=a1.len;have l2:=a2.len;obtain⟨r,r1,r2,r3,r4,r5⟩:=aaK c.replicas c.witnesses (by omega)
  have rng: ∀ {l:List Int},MG l-> ∀y∈l,0<=y/\y<5:=by intro l ha y hy;obtain⟨k,hk,rfl⟩:=aQ hy;have:=(ha k hk).1;omega
  simp only[DG,r1,r2,ak];refine⟨r,rfl,rfl,by omega,λy hy=> ?_,r3,λ_=>r4⟩;rcases (r4 y).1 hy with h|h
  ·exact rng a1 y h
  ·exact rng a2 y h
end
section

end
section

end
section
theorem Xy(x y:sf): ((x.epoch==y.epoch)&&((x.op.client==y.op.client)&&((x.op.seq==y.op.seq)&&((x.op.kind==y.op.kind)&&((x.op.object==y.op.object)&&((x.op.old==y.op.old)&&((x.op.value==y.op.value)&&true)))))))=decide (x=y):=by obtain⟨a,b,c,d,e,f,g⟩:=x;obtain⟨a',b',c',d',e',f',g'⟩:=y;rw[bU];simp[and_assoc]
theorem XA(a b:List sf)(ha:a.length<=maxLen):H8 a b=some (decide (a=b),()):=by
 unfold H8;rw[Fh,Ih];split
 ·rename_i hl;have hl:a.length=b.length:=by omega
  rcases Nq (B:=Ha) a.length (λk=>((a,b,(a.length:Int),(k:Int),()),(),())) (.inr (((),()),(),())) (λ_=> .inl ((false,()),(),())) (λk=>decide (a[k]? ≠b[k]?))
   (by simp only[Ha];rw[j6,if_neg (by omega)])
   (λk hk=>by
     have c1: (k:Int)< (a.length:Int):=by omega
     have c2: (0:Int)<=(k:Int):=by omega
     have hk':k<b.length:=by omega
     simp only[Ha,Xy,Fh,j6,C7,if_pos c1,if_pos c2,cO,an hk,an hk',ak,kT ha hk];by_cases h:a[k] =b[k]<;>simp[h]) with ⟨k1,k2⟩| ⟨i,hi,k1,k2,_⟩
  ·rw[show KX ((a,b,(a.length:Int),0,()),(),())=_ from k1]
   have :a=b:=List.ext_getElem hl λk h1 h2=>by have:=k2 k h1;rw[an h1,an h2] at this;simpa using this
   rw[decide_eq_true this];rfl
  ·rw[show KX ((a,b,(a.length:Int),0,()),(),())=_ from k1]
   have :a≠b:=λh=>by rw[h] at k2;simp at k2
   rw[decide_eq_false this];rfl
 ·rename_i hl;have :a≠b:=λh=>hl (by rw[h]);rw[decide_eq_false this]
theorem TV(a b:List sf)(ha:a.length<=maxLen): ∃n:Nat,H0 a b=some ((n:Int),())/\n<=a.length/\n<=b.length/\a.take n=b.take n/\(n<a.length->n<b.length->a[n]? ≠b[n]?):=by
 rcases Nq (B:=GK) a.length (λk=>((a,b,(k:Int),()),(),())) ((((a.length:Nat):Int),()),(),()) (λk=>(((k:Int),()),(),())) (λk=>decide (a[k]? ≠b[k]?))
  (by simp only[GK];rw[j6,if_neg (by omega)])
  (λk hk=>by
    have c1: (k:Int)< (a.length:Int):=by omega
    have c2: (0:Int)<=(k:Int):=by omega
    by_cases hk':k<b.length
    ·have c3: (k:Int)< (b.length:Int):=by omega
     simp only[GK,Xy,j6,C7,if_pos c1,if_pos c2,if_pos c3,cO,an hk,an hk',ak,kT ha hk];by_cases h:a[k] =b[k]<;>simp[h]
    ·have c3: ¬ (k:Int)< (b.length:Int):=by omega
     simp only[GK,j6,if_pos c1,if_neg c3,an hk,cz (show b.length<=k by omega)];simp) with ⟨k1,k2⟩| ⟨i,hi,k1,k2,k3⟩
 ·have eq: ∀k,k<a.length->a[k]? =b[k]? :=λk hk=>by simpa using k2 k hk
  have hl:a.length<=b.length:=by
   rcases bu a.length with h|h
   ·omega
   ·have:=eq (a.length-1) (by omega);rw[an (by omega)] at this;have:=yw this.symm;omega
  refine⟨a.length,?_,az _,hl,?_,λh=>absurd h (dI _)⟩
  ·unfold H0;rw[show KV ((a,b,0,()),(),())=_ from k1];rfl
  ·refine bE λk=> ?_;rw[bz,bz];split
   ·exact eq k (by assumption)
   ·rfl
 ·have eq: ∀k,k<i->a[k]? =b[k]? :=λk hk=>by simpa using k3 k hk
  have hl:i<=b.length:=by
   rcases bu i with h|h
   ·omega
   ·have:=eq (i-1) (by omega);rw[an (by omega)] at this;have:=yw this.symm;omega
  refine⟨i,?_,by omega,hl,?_,λ_ _=>by simpa using k2⟩
  ·unfold H0;rw[show KV ((a,b,0,()),(),())=_ from k1];rfl
  ·refine bE λk=> ?_;rw[bz,bz];split
   ·exact eq k (by assumption)
   ·rfl
end
section
theorem Vo(x:vz):Eh (KO x) (PB x):=by
 obtain⟨b,h1,h2⟩:=O4 x;unfold KO PB;simp only[h1,h2,ak];cases b with
 |false=>simp only[EU,DG];cases ((x.epoch==0)&&((x.holder==0)&&((x.ends==0)&&true)))<;>exact⟨_,rfl,rfl⟩
 |true=>
  simp only[dk,CS];cases he:x.ends==0 with
  |true=>
   cases hz: ((x.epoch==0)&&((x.holder==0)&&(true&&true))) with
   |true=>exact⟨_,rfl,rfl⟩
   |false=>
    exfalso;unfold IG at h2;rw[he,hz] at h2;simp only[CS,MU,ak] at h2
    have hw:IT x.ends 1 1049=false:=by rw[Bool.eq_false_iff];intro hw;have:=Ft.1 hw;simp only[beq_iff_eq] at he;omega
    rw[hw] at h2;revert h2;cases IT x.epoch 1 20<;>cases IT x.holder 0 4<;>intro h2<;>cases h2
  |false=>
   have hz: ((x.epoch==0)&&((x.holder==0)&&(false&&true)))=false:=by cases x.epoch==0<;>cases x.holder==0<;>rfl
   rw[hz];exact⟨_,rfl,rfl⟩
theorem Q6(x:vz)(n:Int):Eh (HK x n) (Lc x n):=by obtain⟨b,h1,h2⟩:=O4 x;obtain⟨t,t1,t2⟩:=Vo x;unfold HK Lc;simp only[h1,h2,t1,t2,Gn,MU,ak];cases b<;>cases IT n 0 999<;>exact⟨_,rfl,rfl⟩
end
section
theorem QJ{l:List vB}(hl:l.length<=maxLen)(hv:FQ l=some (true,())):l.length=5:=by
 obtain⟨b,h1,h2⟩:=M7 l hl;rw[hv] at h1;simp only[af,au,and_true] at h1;subst h1;unfold JT at h2;cases h: ((l.length:Int)==5) with
 |false=>rw[h] at h2;cases h2
 |true=>simp only[beq_iff_eq] at h;omega
end
section
theorem SU(a b:List Int)(ha:MG a)(hb:b.length<=maxLen):F3 a b=some (a.filter λx=> !decide (x∈b),()):=by
 have hl:=ha.len;have hm:a.length<=maxLen:=by unfold maxLen;omega
 have hp:=ha.pair
 have fm:=tC (B:=GL) a (λk (out:List Int)=>((a,b,(),(k:Int),()),(),(out,()))) (λk out=>out=(a.take k).filter λx=> !decide (x∈b)) (λk r out=>(((),()),(),(out++r.filter λx=> !decide (x∈b),())))
  (λout hb=>by simp only[GL];rw[j6,if_neg (by omega)];simp)
  (λk out x hx hout=>by
    have hk:=yw hx;have c1: (k:Int)< (a.length:Int):=by omega
    have c2: (0:Int)<=(k:Int):=by omega
    have hxe:a[k] =x:=by rw[an hk] at hx;exact Option.some.inj hx
    simp only[GL,Fh,j6,C7,if_pos c1,if_pos c2,cO,hx,ak,(FD b x hb).1,kT hm hk];by_cases hin:x∈b
    ·simp only[if_pos hin];refine .inl ⟨out,rfl,?_,?_⟩
     ·rw[hout,EO,hx,EV];simp[hin]
     ·simp[hin]
    ·have hlt: ∀y∈out,y<x:=by
      intro y hy;rw[hout,EZ] at hy;obtain⟨i,hi,he⟩:=aQ hy.1;have hi':i<k:=by simp at hi;omega
      rw[E0] at he;rw[<-he,<-hxe];exact EN.1 hp i k (by omega) hk hi'
     have hol:out.length<=1000:=by rw[hout];have:=Fd (λx=> !decide (x∈b)) (a.take k);simp only[ci] at this;omega
     simp only[if_neg hin,UE out x hol hlt,ak];refine .inl ⟨out++ [x],rfl,?_,?_⟩
     ·rw[hout,EO,hx,EV];simp[hin]
     ·simp[hin])
  0 [] (bH _) rfl
 unfold F3;rw[show Mn ((a,b,(),0,()),(),([],()))=_ from fm];rfl
end
section
theorem Oe{l:List Int}(h:SS l)(hr: ∀y∈l,0<=y/\y<5):MG l:=by intro k hk;have:=hr _ (dq hk);exact⟨by omega,λh0=>EN.1 h _ _ (by omega) hk (by omega)⟩
theorem OY{l:List Int}(h:MG l):Gd l=some (true,())/\G1 l=some (true,()):=by
 have hl:=h.len;have hm:l.length<=maxLen:=by unfold maxLen;omega
 obtain⟨_,_,h1,h2⟩:=RM (B1:=Gt) (B2:=Gs) l.length (λk (_:Unit)=>((l,(k:Int),()),(),())) (λk _=>((l,l,(l.length:Int),(k:Int),()),(),())) (λ_ _=>True) (λ_=> .inr (((),()),(),())) (λ_=> .inr (((),()),(),()))
  (λ_ _=>by simp only[Gt,Gs,j6];exact⟨if_neg (by omega),if_neg (by omega)⟩)
  (λk _ hk _=>by
    have c1: (k:Int)< (l.length:Int):=by omega
    have c2: (0:Int)<=(k:Int):=by omega
    obtain⟨r1,r2⟩:=h k hk;have w:IT l[k] 0 4=true:=Ft.2 r1;refine⟨(),?_⟩;simp only[Gt,Gs,j6,C7,if_pos c1,if_pos c2,cO,an hk,ak,Gn,MU,w,dk,CS,kT hm hk];by_cases h0:0<k
    ·have c3: (k:Int)>0:=by omega
     have c4: (0:Int)<=((k-1:Nat):Int):=by omega
     have e2:l[k-1]? =some l[k-1] :=an (by omega);have:=r2 h0;simp only[if_pos c3,CO h0 (by omega),if_pos c4,cO,e2,ak,if_neg (show ¬l[k-1] ≥l[k] by omega),if_neg (show ¬l[k] <=l[k-1] by omega),and_self]
    ·simp only[if_neg (show ¬ (k:Int)>0 by omega),and_self])
  () trivial
 unfold Gd G1;rw[show KA ((l,0,()),(),())=_ from h1,show Kz ((l,l,(l.length:Int),0,()),(),())=_ from h2];exact⟨rfl,rfl⟩
end
section

end
section
theorem aaB{m:kB}(h:MI 1048576 m)(hv:FU m=some (true,())):m.configs.length<=20:=by
 obtain⟨f,_,_⟩:=UD (Jh h) hv;rcases bu m.configs.length with h0|h0
 ·omega
 ·have hk:m.configs.length-1<m.configs.length:=by omega
  obtain⟨f1,f2⟩:=f _ hk;have:=(L5 (Fl (h.2 _ (dq hk))) f1).2.2.2.2.1;omega
def cutAt(l:List sf):Nat:=l.length-3
theorem Vz(l:List sf)(hl:l.length<=1048576): (if IntKind.wrap .i64 ((l.length:Int)-3)>0 then IntKind.wrap .i64 ((l.length:Int)-3) else 0)=((cutAt l:Nat):Int):=by rw[of (by omega) (by omega)];unfold cutAt;split<;>omega
theorem YJ(l:List sf)(hl:l.length<=1048576)(hv:Kd l=some (true,())):M9 l=some (((cutAt l:Nat):Int),l.drop (cutAt l),()):=by
 unfold M9;have hc:cutAt l<=l.length:=by unfold cutAt;omega
 have c1: (0:Int)<=((cutAt l:Nat):Int)/\((cutAt l:Nat):Int)<=(l.length:Int)/\(l.length:Int)<=(l.length:Int):=by omega
 have ht: ((l.drop (cutAt l)).take (l.length-cutAt l))=l.drop (cutAt l):=bS (by simp);simp only[hv,ak,dk,CS,Vz l hl,C7,if_pos c1,cO,ht,(ML (l.drop (cutAt l)) (by simp;omega)).2]
end
section

end
section

end
section

end
section

end
section
abbrev fx(x:qN):Int×List qQ×List Int×List om×Int×Int×Int×Int×Int×List vB×Unit:=(x.now,x.servers,x.sides,x.master.configs,x.master.activated,x.masterUp,x.lease.epoch,x.lease.holder,x.lease.ends,x.places,())
abbrev fsv(s:qQ):Bool×Bool×Int×Int×Int×Int×List Int×List Int×Int×List sf×Int×List sf×Unit:=(s.up,s.intact,s.version,s.epoch,s.config.epoch,s.config.primary,s.config.replicas,s.config.witnesses,s.first,s.log,s.commit,s.learned,())
structure Sea (x x':qN):Prop where
 sides:x'.sides=x.sides
 master:x'.master=x.master
 srv: ∀ (k:Nat) (s:qQ),x.servers[k]? =some s-> ∃e,x'.servers[k]? =some (⟨s.up,s.intact,s.version,e,s.config,s.first,s.log,s.commit,s.learned⟩:qQ)
theorem Sea.refl(x:qN):Sea x x:=⟨rfl,rfl,λ_ s h=>⟨s.epoch,h⟩⟩
theorem Sea.side{x x':qN}(h:Sea x x')(a:Int):LI x' a=LI x a:=by unfold LI;rw[h.sides]
section
variable {x x':qN} (ok:FS 1048576 x) (ok':FS 1048576 x') (hv:Fi x=some (true,())) (hv':Fi x'=some (true,())) (se:Sea x x') {id:Int} (hid:0<=id/\id<5)
include ok ok' hv hv' se hid
omit ok hv se in
end
end
section
structure SV (m:kB) (s:qQ) (k:Int):Prop where
 val:FA s k=some (true,())
 ep:s.epoch<=(m.configs.length:Int)
 lrn: ∃e,JZ s.learned=some (e,())/\e<=m.activated
 cfg:s.config=⟨0,0,[],[]⟩\/(Hi m s.config.epoch=some (s.config,true,())/\s.config.epoch<=m.activated)
theorem SV.old{m:kB}{s:qQ}{k:Int}(h:SV m s k)(hm:MI 1048576 m)(hv:FU m=some (true,())):s.config.epoch<=(m.configs.length:Int):=by
 obtain⟨_,f2,f3⟩:=UD (Jh hm) hv;rcases h.cfg with h| ⟨_,h⟩
 ·rw[h];show (0:Int)<=_;omega
 ·omega
end
section
abbrev J1(x:qN)(S:List qQ):qN:=⟨x.now,S,x.sides,x.master,x.masterUp,x.lease,x.places⟩
end
section
abbrev z0:Int×Unit×Unit×Unit×Int×Int×Int×Int×Int×Unit×Unit:=(0,(),(),(),0,0,0,0,0,(),())
abbrev fy(x:qN):Int×Unit×Unit×Unit×Int×Int×Int×Int×Int×Unit×Unit:=(x.now,(),(),(),x.master.activated,x.masterUp,x.lease.epoch,x.lease.holder,x.lease.ends,(),())
end
section
theorem MG.filter{l:List Int}(h:MG l)(p:Int->Bool):MG (l.filter p):=by refine Oe (h.pair.filter p) λy hy=> ?_;obtain⟨k,hk,rfl⟩:=aQ (EZ.1 hy).1;have:=(h k hk).1;omega
theorem Wl:MG [0,1,2,3,4] :=by refine Oe (by simp[SS]) λy hy=> ?_;simp at hy;omega
end
section
theorem VF(l:vz)(e h n t:Int): ∃r b,Kh l e h n t=some (r,b,())/\PX l e h n t=some (r,b,()):=by obtain⟨b,h1,h2⟩:=O4 l;obtain⟨q,q1,q2⟩:=Q6 l n;unfold Kh PX;simp only[h1,h2,q1,q2,Gn,MU,ak];cases (l.epoch==e)<;>cases b<;>cases IT e 1 20<;>cases IT h 0 4<;>cases IT n 0 999<;>cases IT t 1 50<;>cases (l.holder==h)<;>cases q<;>exact⟨_,_,rfl,rfl⟩
end
section
def PJ:List nY->Int->Nat
 | [],_=>0
 |x::l,c=>if x.client<c then PJ l c+1 else 0
theorem Y7(l:List nY)(c:Int):PJ l c<=l.length:=by
 induction l with
 |nil=>exact az _
 |cons x l ih=>
  unfold PJ;split
  ·simp only[bD];omega
  ·exact bH _
theorem Y8{l:List nY}{c:Int}(h: ∃x∈l,x.client=c):PJ l c<l.length:=by
 induction l with
 |nil=>obtain⟨x,hx,_⟩:=h;cases hx
 |cons y l ih=>
  unfold PJ;split
  ·rename_i hy;obtain⟨x,hx,hc⟩:=h;rcases aX.1 hx with rfl|hx
   ·omega
   ·have:=ih ⟨x,hx,hc⟩;simp only[bD];omega
  ·simp
theorem aaU(b d:Bool)(v:Int)(o:Op)(objs:List Int)(l:List nY)(hl:l.length<=1000):LY (((),(),(),(),b,(),0,()),((o.client,o.seq,o.kind,o.object,o.old,o.value,()),((),(),()),(false,0,()),((),(),()),(d,v,()),()),objs,l,())=
  some (((),(),(),(),b,(),((PJ l o.client:Nat):Int),()),((o.client,o.seq,o.kind,o.object,o.old,o.value,()),((),(),()),(false,0,()),((),(),()),(d,v,()),()),objs,l,()):=by
 have ml:l.length<=maxLen:=by unfold maxLen;omega
 have fm:=tC (B:=I7) l (λk (_:Unit)=>(((),(),(),(),b,(),(k:Int),()),((o.client,o.seq,o.kind,o.object,o.old,o.value,()),((),(),()),(false,0,()),((),(),()),(d,v,()),()),objs,l,())) (λ_ _=>True)
  (λk r _=>(((),(),(),(),b,(),((k+PJ r o.client:Nat):Int),()),((o.client,o.seq,o.kind,o.object,o.old,o.value,()),((),(),()),(false,0,()),((),(),()),(d,v,()),()),objs,l,()))
  (λ_ _=>by simp only[I7];rw[j6,if_neg (by omega)];rfl)
  (λk _ x hx _=>by
    have hk:=yw hx;have c1: (k:Int)< (l.length:Int):=by omega
    have c2: (0:Int)<=(k:Int)/\(k:Int)< (l.length:Int):=by omega
    simp only[I7,j6,C7,if_pos c1,if_pos c2,cO,hx,ak,kT ml hk];by_cases h:x.client<o.client
    ·rw[if_pos h];refine .inl ⟨(),rfl,trivial,?_⟩;rw[PJ,if_pos h,show k+(PJ (l.drop (k+1)) o.client+1)=k+1+PJ (l.drop (k+1)) o.client by omega]
    ·rw[if_neg h];refine .inr ?_;rw[PJ,if_neg h];rfl) 0 () (bH _) trivial
 simp only[aM,cF] at fm;exact fm
theorem WJ{o:Op}(h:FL o=some (true,())):0<=o.object/\o.object<=2:=by
 unfold FL at h;simp only[Gn,ak] at h;cases h1:IT o.client 0 2 with
 |false=>rw[h1] at h;cases h
 |true=>
  cases h2:IT o.seq 1 99 with
  |false=>rw[h1,h2] at h;cases h
  |true=>
   cases h3:IT o.object 0 2 with
   |false=>rw[h1,h2,h3] at h;cases h
   |true=>exact Ft.1 h3
def opB(o:Op):Bool:=match FL o with |some (b,_)=>b|none=>false
theorem NU(o:Op):FL o=some (opB o,()):=by obtain⟨b,h,_⟩:=WN o;unfold opB;rw[h]
def YW(l:List sf)(k:Nat):Bool:=match l[k]? with
 |some e=>IT e.epoch 1 20&&(opB e.op&&(decide (k=0)||match l[k-1]? with |some d=> !decide (d.epoch>e.epoch)|none=>false))
 |none=>false
theorem XG(l:List sf)(hl:l.length<=maxLen):Gp l=some (true,())↔l.length<=16/\ ∀k,k<l.length->YW l k=true:=by
 have fm:=Nq (B:=I9) l.length (λk=>((l,(k:Int),()),(),())) (.inr ((l,(),()),(),())) (λ_=> .inl ((l,false,()),(),())) (λk=> !YW l k)
  (by simp only[I9];rw[j6,if_neg (by omega)])
  (λk hk=>by
    have c1: (k:Int)< (l.length:Int):=by omega
    have c2: (0:Int)<=(k:Int):=by omega
    simp only[I9,j6,C7,if_pos c1,if_pos c2,cO,an hk,ak,NU,Gn,kT hl hk,Fh,YW];cases IT l[k].epoch 1 20 with
    |false=>rfl
    |true=>
     cases opB l[k].op with
     |false=>rfl
     |true=>
      by_cases h0:0<k
      ·have c3: (k:Int)>0:=by omega
       have c4: (0:Int)<=((k-1:Nat):Int):=by omega
       have c5: ¬k=0:=by omega
       have e2:l[k-1]? =some l[k-1] :=an (by omega);simp only[DG,if_pos c3,CO h0 (by omega),if_pos c4,cO,e2,ak,decide_eq_false c5,dH,cd,Bool.not_not];by_cases hlt:l[k-1].epoch>l[k].epoch
       ·rw[if_pos hlt,decide_eq_true hlt];rfl
       ·rw[if_neg hlt,decide_eq_false hlt];rfl
      ·have c3: ¬ (k:Int)>0:=by omega
       have c5:k=0:=by omega
       simp only[DG,if_neg c3,decide_eq_true c5];rfl)
 unfold Gp;rcases fm with ⟨k1,k2⟩| ⟨k,h0,k1,k2,_⟩
 ·rw[show Nr ((l,0,()),(),())=_ from k1];simp only[ak,Fc,af,au,and_true,decide_eq_true_eq];constructor
  ·intro h;exact⟨by omega,λk hk=>by simpa using k2 k hk⟩
  ·intro h;omega
 ·rw[show Nr ((l,0,()),(),())=_ from k1];simp only[ak,Fe,af,au,and_true];constructor
  ·intro h;cases h
  ·rintro⟨_,h⟩
   have:=h k h0;rw[this] at k2;cases k2
structure VM (m:nX):Prop where
 vlen:m.objects.length=3
 vobj: ∀v∈m.objects,IT v 0 9=true
 vses: ∀x∈m.sessions,IT x.client 0 2=true/\IT x.seq 1 99=true/\IT x.result.value 0 9=true
 vasc:m.sessions.Pairwise λx y=>x.client<y.client
theorem aaj{o:Op}(h:opB o=true):IT o.client 0 2=true/\IT o.seq 1 99=true/\IT o.value 0 9=true:=by
 have h0:FL o=some (true,()):=by rw[NU,h]
 unfold FL at h0;simp only[Gn,ak] at h0;cases h1:IT o.client 0 2 with
 |false=>rw[h1] at h0;cases h0
 |true=>
  cases h2:IT o.seq 1 99 with
  |false=>rw[h1,h2] at h0;cases h0
  |true=>
   cases h3:IT o.object 0 2 with
   |false=>rw[h1,h2,h3] at h0;cases h0
   |true=>
    cases h4:IT o.value 0 9 with
    |false=>rw[h1,h2,h3,h4] at h0;cases h0
    |true=>exact⟨rfl,rfl,rfl⟩
end
section
theorem Hz(x:qN)(ok:FS 1048576 x)(id:Int): ∃b,Gx x id=some (b,())/\Gq x id=some (b,())/\(b=true->Fi x=some (true,())/\0<=id/\id<5/\ ∀s,x.servers[id.toNat]? =some s->FG s id=some (true,())):=by
 obtain⟨v,v1,v2⟩:=HI x ok;cases v with
 |false=>
  refine⟨false,?_,?_,nofun⟩
  ·unfold Gx;simp only[v1,ak,CS]
  ·unfold Gq G3;simp only[v2,ak,CS]
 |true=>
  cases hw:IT id 0 4 with
  |false=>
   refine⟨false,?_,?_,nofun⟩
   ·unfold Gx;simp only[v1,Gn,hw,ak,DG,CS]
   ·unfold Gq G3;simp only[v2,MU,hw,ak,DG,CS]
  |true=>
   have hid:=Ft.1 hw;obtain⟨s,s1,s2,s3⟩:=MF ok (Gl ok v1) (a:=id) (by omega);obtain⟨b,b1,b2⟩:=KZ s id s2;refine⟨b,?_,?_,λhb=>⟨v1,hid.1,by omega,λs' hs=> ?_⟩⟩
   ·unfold Gx;simp only[v1,Gn,hw,ak,DG,C7,if_pos hid.1,s1,b1]
   ·unfold Gq G3;simp only[v2,MU,hw,ak,DG,C7,if_pos hid.1,s1,b2]
   ·rw[s1] at hs;obtain rfl:=Option.some.inj hs;rw[b1,hb]
theorem aaG{c:om}{id:Int}(h:GQ maxLen c)(hr:GO c id=some (1,())):Fk c=some (true,())/\id=c.primary:=by
 obtain⟨v,v1,v2⟩:=Ig c h;unfold GO at hr;simp only[v1,ak,(FD c.replicas id h.1).1,(FD c.witnesses id h.2).1,Fh,Ih] at hr;cases v with
 |false=>simp only[CS] at hr;simp at hr
 |true=>
  refine⟨v1,?_⟩;by_cases he:id=c.primary
  ·exact he
  ·simp only[DG,if_neg he] at hr;cases h1:decide (id∈c.replicas)<;>cases h2:decide (id∈c.witnesses)<;>rw[h1,h2] at hr<;>simp[DG,CS] at hr
theorem NV{s:qQ}{id:Int}(ok:F1 1048576 s)(h:FG s id=some (true,())):Fk s.config=some (true,())/\id=s.config.primary:=by
 obtain⟨v,v1,v2⟩:=MS s id ok;obtain⟨n,n1,n2,_⟩:=M6 s.config id (Fl ok.1);unfold FG at h;simp only[v1,n1,ak,Ih] at h;cases v with
 |false=>simp[CS] at h
 |true=>
  cases hu:s.up with
  |false=>rw[hu] at h;simp[DG,CS] at h
  |true=>
   rw[hu] at h;simp only[DG] at h;by_cases hn:n=1
   ·subst hn;exact aaG (Fl ok.1) n1
   ·rw[if_neg hn] at h;simp at h
theorem Yp(c:om)(y:Int)(h:GQ maxLen c)(hv:Fk c=some (true,())): ∃n,GO c y=some (n,())/\Jm c y=some (n,())/\(n=0↔ ¬ (y∈c.replicas\/y∈c.witnesses))/\(n=3->y≠c.primary):=by
 obtain⟨v,v1,v2⟩:=Ig c h;rw[hv] at v1;simp only[af,au,and_true] at v1;subst v1;have hp:=(L5 h hv).2.2.1;unfold GO Jm;simp only[hv,v2,ak,(FD c.replicas y h.1).1,(FD c.replicas y h.1).2,(FD c.witnesses y h.2).1,(FD c.witnesses y h.2).2,Fh,Ih,DG,j6];by_cases he:y=c.primary
 ·simp only[if_pos he];exact⟨1,rfl,rfl,⟨λh=>(by cases h),λh=>absurd (.inl (he ▸ hp)) h⟩,λh=>(by cases h)⟩
 ·simp only[if_neg he];by_cases h1:y∈c.replicas
  ·simp only[if_pos h1];exact⟨2,rfl,rfl,⟨λh=>(by cases h),λh=>absurd (.inl h1) h⟩,λh=>(by cases h)⟩
  ·simp only[if_neg h1];by_cases h2:y∈c.witnesses
   ·simp only[if_pos h2];exact⟨3,rfl,rfl,⟨λh=>(by cases h),λh=>absurd (.inr h2) h⟩,λ_=>he⟩
   ·simp only[if_neg h2];exact⟨0,rfl,rfl,⟨λ_ h=>h.elim h1 h2,λ_=>rfl⟩,λh=>(by cases h)⟩
theorem Qt(l:List sf)(hl:l.length<=1048576)(hv:Gp l=some (true,())):Ot l=some (((cutAt l:Nat):Int),l.drop (cutAt l),()):=by
 unfold Ot O0;have hc:cutAt l<=l.length:=by unfold cutAt;omega
 have c1: (0:Int)<=((cutAt l:Nat):Int)/\((cutAt l:Nat):Int)<=(l.length:Int)/\(l.length:Int)<=(l.length:Int):=by omega
 have ht: ((l.drop (cutAt l)).take (l.length-cutAt l))=l.drop (cutAt l):=bS (by simp);simp only[hv,ak,dk,CS,Vz l hl,C7,if_pos c1,cO,ht,(ML (l.drop (cutAt l)) (by simp;omega)).1]
theorem Yk{x:qN}(ok:FS 1048576 x){k:Nat}{t:qQ}(ht:F1 1048576 t):FS 1048576 (J1 x (x.servers.set k t)):=by
 refine⟨⟨by rw[EL];exact ok.1.1,λs hs=> ?_⟩,ok.2⟩;rcases db hs with h|rfl
 ·exact ok.1.2 s h
 ·exact ht
theorem Z8{l:List sf}(hl:l.length<=1048576)(h:Gp l=some (true,())):Kd l=some (true,()):=by
 rcases isLog l (Fu hl) with ⟨_,g2,_⟩| ⟨g1,_⟩
 ·exact g2
 ·rw[g1] at h;simp at h
theorem push(x:qN)(ok:FS 1048576 x)(id m:Int): ∃S b,FB x id m=some (J1 x S,b,())/\Gc x id m=some (J1 x S,b,())/\FS 1048576 (J1 x S)/\S.length=x.servers.length/\(∀s,x.servers[id.toNat]? =some s-> ∃s',S[id.toNat]? =some s'/\s'.log=s.log):=by
 obtain⟨c1,c2⟩:=GM x ok;obtain⟨p,p1,p2,p3⟩:=Hz x ok id
 have out: ∀ {A B:Option (qN×Bool×Unit)},A=some (x,false,())->B=some (x,false,())-> ∃S b,A=some (J1 x S,b,())/\B=some (J1 x S,b,())/\FS 1048576 (J1 x S)/\S.length=x.servers.length/\(∀s,x.servers[id.toNat]? =some s-> ∃s',S[id.toNat]? =some s'/\s'.log=s.log):=
  λh1 h2=>⟨x.servers,false,h1,h2,ok,rfl,λs hs=>⟨s,hs,rfl⟩⟩
 cases p with
 |false=>
  refine out ?_ ?_
  ·unfold FB;simp only[c1,p1,ak,EU,DG]
  ·unfold Gc;simp only[c2,p2,ak,EU,DG]
 |true=>
  obtain⟨hv,h0,h5,hP⟩:=p3 rfl;have vc:=Gl ok hv;obtain⟨s,s1,s2,s3⟩:=MF ok vc ⟨h0,h5⟩;obtain⟨cv,cp⟩:=NV s2 (hP s s1);obtain⟨l,l1,l2,l3,l4,_,l6⟩:=O7 s.config (Fl s2.1);obtain⟨n,n1,n2,n3,n4⟩:=Yp s.config m (Fl s2.1) cv;have hm:=(FD l m (by unfold maxLen;omega)).1;by_cases hml:m∈l
  ·have hn0: ¬n=0:=λh=>n3.1 h ((l6 cv m).1 hml);have rng:=l4 m hml;obtain⟨e1,e2⟩:=aaw x ok vc ⟨h0,h5⟩ rng;cases hh:T0 x id m with
   |false=>
    rw[hh] at e1 e2;refine out ?_ ?_
    ·unfold FB;simp only[c1,p1,s1,l1,hm,e1,decide_eq_true hml,C7,if_pos h0,ak,EU,dk,DG,CS]
    ·unfold Gc;simp only[c2,p2,s1,n2,e2,Ih,if_neg hn0,C7,if_pos h0,ak,EU,dk,DG,CS]
   |true=>
    rw[hh] at e1 e2;obtain⟨t,t1,t2,t3⟩:=MF ok vc rng;have hlt:m.toNat<x.servers.length:=by rw[vc.len];omega
    have cc:0<=m/\m< (x.servers.length:Int):=by rw[vc.len];omega
    have hl:=s2.2.1;have hL:=(NI s2 s3).2.2.2.2.2.1;obtain⟨g1,g2⟩:=PV s s2;obtain⟨k1,k2⟩:=ML s.log hl;by_cases h3:n=3
    ·have hne:m.toNat≠id.toNat:=by
      have:=n4 h3;rw[<-cp] at this;omega
     refine⟨x.servers.set m.toNat ⟨t.up,t.intact,t.version,t.epoch,t.config,((cutAt s.log:Nat):Int),s.log.drop (cutAt s.log),t.commit,t.learned⟩,true,?_,?_,Yk ok ⟨t2.1,by simp only[bR];omega,t2.2.2⟩,by rw[EL],λs' hs'=>⟨s',by rw[ES hne];exact hs',rfl⟩⟩
     ·unfold FB;simp only[c1,p1,s1,l1,hm,e1,n1,t1,decide_eq_true hml,C7,if_pos h0,if_pos cc,Ih,if_pos h3,Qt s.log hl hL,EP hlt,List.set_set,ak,dk,CS]
     ·unfold Gc;simp only[c2,p2,s1,n2,e2,t1,g2,Ih,if_neg hn0,C7,if_pos h0,if_pos cc,if_pos h3,YJ s.log hl (Z8 hl hL),EP hlt,List.set_set,ak,dk,CS]
    ·refine⟨x.servers.set m.toNat ⟨t.up,t.intact,t.version,t.epoch,t.config,t.first,s.log,t.commit,t.learned⟩,true,?_,?_,Yk ok ⟨t2.1,hl,t2.2.2⟩,by rw[EL],λs' hs'=> ?_⟩
     ·unfold FB;simp only[c1,p1,s1,l1,hm,e1,n1,t1,k1,decide_eq_true hml,C7,if_pos h0,if_pos cc,Ih,if_neg h3,ak,dk,CS]
     ·unfold Gc;simp only[c2,p2,s1,n2,e2,t1,g2,Ih,if_neg hn0,C7,if_pos h0,if_pos cc,if_neg h3,ak,dk,CS]
     ·rw[s1] at hs';obtain rfl:=Option.some.inj hs';by_cases he:m.toNat=id.toNat
      ·refine⟨_,by rw[<-he];exact EP hlt,?_⟩;rfl
      ·exact⟨s,by rw[ES he];exact s1,rfl⟩
  ·have hn0:n=0:=n3.2 (λh=>hml ((l6 cv m).2 h));refine out ?_ ?_
   ·unfold FB;simp only[c1,p1,s1,l1,hm,decide_eq_false hml,C7,if_pos h0,ak,EU,dk,DG,CS]
   ·unfold Gc;simp only[c2,p2,s1,n2,Ih,if_pos hn0,C7,if_pos h0,ak,dk,CS]
theorem US(x:qN)(ok:FS 1048576 x)(id:Int): ∃n,GN x id=some (n,())/\IE x id=some (n,()):=by
 obtain⟨p,p1,p2,p3⟩:=Hz x ok id;cases p with
 |false=>
  refine⟨0,?_,?_⟩
  ·unfold GN;simp only[p1,ak,EU,DG]
  ·unfold IE;simp only[p2,ak,EU,DG]
 |true=>
  obtain⟨hv,h0,h5,_⟩:=p3 rfl;have vc:=Gl ok hv;obtain⟨s,s1,s2,s3⟩:=MF ok vc ⟨h0,h5⟩;obtain⟨l,l1,l2,l3,l4,_,_⟩:=O7 s.config (Fl s2.1);have lm:l.length<=maxLen:=by unfold maxLen;omega
  obtain⟨n,_,k1,k2⟩:=RM (B1:=GV) (B2:=Ho) l.length (λk (b:Int)=>(((),b,(),(k:Int),()),(fx x,()),l,())) (λk b=>(((),b,(),(l.length:Int),(k:Int),()),(fx x,()),l,())) (λ_ _=>True) (λb=>((b,()),(),())) (λb=>((b,()),(),()))
   (λb _=>by simp only[GV,Ho,j6];exact⟨if_neg (by omega),if_neg (by omega)⟩)
   (λk b hk _=>by
     have c1: (k:Int)< (l.length:Int):=by omega
     have c2: (0:Int)<=(k:Int)/\(k:Int)< (l.length:Int):=by omega
     have hz:=l4 _ (dq hk);obtain⟨t,t1,_,_⟩:=MF ok vc hz;refine⟨if t.version<b then t.version else b,?_⟩;simp only[GV,Ho,fx,j6,C7,if_pos c1,if_pos c2,cO,an hk,ak,if_pos hz.1,t1,kT lm hk];exact⟨trivial,trivial,trivial⟩)
   2 trivial
  refine⟨n,?_,?_⟩
  ·unfold GN;simp only[p1,s1,l1,C7,if_pos h0,ak,dk,CS];rw[show N2 (((),2,(),0,()),(fx x,()),l,())=_ from k1];rfl
  ·unfold IE;simp only[p2,s1,l2,C7,if_pos h0,ak,dk,CS];rw[show N0 (((),2,(),(l.length:Int),0,()),(fx x,()),l,())=_ from k2];rfl
theorem SW(x:qN)(ok:FS 1048576 x)(id:Int): ∃S b,FF x id=some (J1 x S,b,())/\Ht x id=some (J1 x S,b,())/\FS 1048576 (J1 x S)/\S.length=x.servers.length:=by
 obtain⟨c1,c2⟩:=GM x ok;obtain⟨p,p1,p2,p3⟩:=Hz x ok id;cases p with
 |false=>
  refine⟨x.servers,false,?_,?_,ok,rfl⟩
  ·unfold FF;simp only[c1,p1,ak,EU,DG]
  ·unfold Ht;simp only[c2,p2,ak,EU,DG]
 |true=>
  obtain⟨hv,h0,h5,_⟩:=p3 rfl;have vc:=Gl ok hv;obtain⟨s,s1,s2,s3⟩:=MF ok vc ⟨h0,h5⟩;obtain⟨l,l1,l2,l3,l4,_,_⟩:=O7 s.config (Fl s2.1);have lm:l.length<=maxLen:=by unfold maxLen;omega
  obtain⟨⟨S,b⟩,⟨j1,j2,j3⟩,k1,k2⟩:=RM (B1:=F6) (B2:=GR) (β:=List qQ×Bool) l.length
   (λk b=>((id,(),(),(),b.2,(k:Int),()),(z0,fy x,()),l,b.1,x.sides,x.master.configs,x.places,()))
   (λk b=>((id,(),(),(),(),b.2,(),(l.length:Int),(k:Int),()),(fx x,z0,fy x,()),l,b.1,x.sides,x.master.configs,x.places,()))
   (λ_ b=>FS 1048576 (J1 x b.1)/\b.1.length=5/\ ∃s',b.1[id.toNat]? =some s'/\s'.log=s.log)
   (λb=>((id,(),(),(),b.2,()),(z0,fy x,()),l,b.1,x.sides,x.master.configs,x.places,()))
   (λb=>((id,(),(),(),(),b.2,()),(fx x,z0,fy x,()),l,b.1,x.sides,x.master.configs,x.places,()))
   (λb _=>by simp only[F6,GR,j6];exact⟨if_neg (by omega),if_neg (by omega)⟩)
   (λk b hk hj=>by
     have c1: (k:Int)< (l.length:Int):=by omega
     have c2: (0:Int)<=(k:Int)/\(k:Int)< (l.length:Int):=by omega
     obtain⟨S,r,q1,q2,q3,q4,q5⟩:=push (J1 x b.1) hj.1 id l[k];obtain⟨s',s4,s5⟩:=hj.2.2;obtain⟨s'',s6,s7⟩:=q5 s' s4;refine⟨(S,bif b.2 then r else false),?_⟩;have q1':FB (⟨x.now,b.1,x.sides,⟨x.master.configs,x.master.activated⟩,x.masterUp,⟨x.lease.epoch,x.lease.holder,x.lease.ends⟩,x.places⟩:qN) id l[k] =some (J1 x S,r,()):=q1;have q2':Gc (⟨x.now,b.1,x.sides,⟨x.master.configs,x.master.activated⟩,x.masterUp,⟨x.lease.epoch,x.lease.holder,x.lease.ends⟩,x.places⟩:qN) id l[k] =some (J1 x S,r,()):=q2;simp only[F6,GR,fx,fy,z0,j6,C7,if_pos c1,if_pos c2,cO,an hk,ak,q1',q2',kT lm hk];refine⟨?_,?_,q3,q4.trans hj.2.1,s'',s6,s7.trans s5⟩
     ·cases b.2<;>rfl
     ·cases b.2<;>rfl)
   (x.servers,true) ⟨ok,vc.len,s,s1,rfl⟩
  unfold FF Ht;simp only[c1,c2,p1,p2,s1,l1,l2,C7,if_pos h0,ak,dk,CS];rw[show MN ((id,(),(),(),true,0,()),(z0,fy x,()),l,x.servers,x.sides,x.master.configs,x.places,())=_ from k1,show MM ((id,(),(),(),(),true,(),(l.length:Int),0,()),(fx x,z0,fy x,()),l,x.servers,x.sides,x.master.configs,x.places,())=_ from k2];simp only[ak];cases b with
  |false=>
   have e:JO ((id,(),(),(),false,0,()),(z0,fy x,()),l,S,x.sides,x.master.configs,x.places,())=some (((),(),false,()),(z0,fy x,()),S,x.sides,x.master.configs,x.places,()):=by refine me ?_;simp only[FN,CS,j6];split<;>rfl
   rw[e];exact⟨S,false,rfl,rfl,j1,j2.trans vc.len.symm⟩
  |true=>
   obtain⟨U,⟨u1,u2,_⟩,e1,e2⟩:=RM (B1:=FN) (B2:=GH) (β:=List qQ) l.length
    (λk b=>((id,(),(),(),true,(k:Int),()),(z0,fy x,()),l,b,x.sides,x.master.configs,x.places,()))
    (λk b=>((id,(),(),(),true,(),(l.length:Int),(k:Int),()),(fx x,z0,fy x,()),l,b,x.sides,x.master.configs,x.places,()))
    (λ_ b=>FS 1048576 (J1 x b)/\b.length=5/\ ∃s',b[id.toNat]? =some s'/\s'.log=s.log)
    (λb=>(((),(),true,()),(z0,fy x,()),b,x.sides,x.master.configs,x.places,()))
    (λb=>(((),(),true,()),(z0,fy x,()),b,x.sides,x.master.configs,x.places,()))
    (λb _=>by simp only[FN,GH,j6];exact⟨if_neg (by omega),if_neg (by omega)⟩)
    (λk b hk hj=>by
      have c1: (k:Int)< (l.length:Int):=by omega
      have c2: (0:Int)<=(k:Int)/\(k:Int)< (l.length:Int):=by omega
      have hz:=l4 _ (dq hk);have c3:0<=id/\id< (b.length:Int):=by rw[hj.2.1];omega
      have c4:0<=l[k] /\l[k]< (b.length:Int):=by rw[hj.2.1];omega
      obtain⟨s',s4,s5⟩:=hj.2.2;have hlt:l[k].toNat<b.length:=by rw[hj.2.1];omega
      have hs1:x.servers[id.toNat]? =some s:=s1;refine⟨b.set l[k].toNat ⟨b[l[k].toNat].up,b[l[k].toNat].intact,b[l[k].toNat].version,b[l[k].toNat].epoch,b[l[k].toNat].config,b[l[k].toNat].first,b[l[k].toNat].log,(s.log.length:Int),b[l[k].toNat].learned⟩,?_⟩;have okk:=hj.1.1.2 _ (dq hlt);simp only[FN,GH,fx,j6,DG,C7,if_pos c1,if_pos c2,if_pos c3,if_pos c4,if_pos h0,cO,an hk,ak,s4,s5,hs1,an hlt,kT lm hk];refine⟨trivial,trivial,Yk (x:=J1 x b) hj.1 okk,by rw[EL];exact hj.2.1,?_⟩;by_cases he:l[k].toNat=id.toNat
      ·refine⟨_,by rw[<-he];exact EP hlt,?_⟩;show b[l[k].toNat].log=s.log;rw[an (show id.toNat<b.length by omega)] at s4;have:=Option.some.inj s4;rw[<-s5,<-this]
       congr 2
      ·exact⟨s',by rw[ES he];exact s4,s5⟩)
    S ⟨j1,j2,j3⟩
   simp only[DG];rw[show JO ((id,(),(),(),true,0,()),(z0,fy x,()),l,S,x.sides,x.master.configs,x.places,())=_ from e1,show Ml ((id,(),(),(),true,(),(l.length:Int),0,()),(fx x,z0,fy x,()),l,S,x.sides,x.master.configs,x.places,())=_ from e2];exact⟨U,true,rfl,rfl,u1,u2.trans vc.len.symm⟩
end
section
def Tt{α:Type}(Q:α->Prop)(r:Option α):Prop:=∃a,r=some a/\Q a
section
variable {α β σ ε:Type} {Q:α->Prop} {Q':β->Prop}
theorem Tt.ret{a:α}(h:Q a):Tt Q (some a):=⟨a,rfl,h⟩
theorem Tt.bind{r:Option α}{k:α->Option β}(h:Tt Q r)(hk: ∀a,Q a->Tt Q' (k a)):Tt Q' (r.bind k):=by obtain⟨a,rfl,h⟩:=h;exact hk a h
theorem Tt.mono{Q2:α->Prop}{r:Option α}(h:Tt Q r)(hq: ∀a,Q a->Q2 a):Tt Q2 r:=h.imp λ_ h=>⟨h.1,hq _ h.2⟩
theorem Tt.ip{p:Prop}{d:Decidable p}{x y:Option α}(hp:p)(h:Tt Q x):Tt Q (@iteP _ p d x y):=by rw[jq hp];exact h
theorem Tt.br{b:Bool}{x y:Option α}(h1:b=true->Tt Q x)(h2:b=false->Tt Q y):Tt Q (br b x y):=by
 cases b with
 |true=>exact h1 rfl
 |false=>exact h2 rfl
theorem Tt.get{γ:Type}{l:List γ}{i:Nat}{k:γ->Option α}(hi:i<l.length)(h: ∀x,l[i]? =some x->x∈l->Tt Q (k x)):Tt Q ((l[i]?).bind k):=by rw[an hi];exact h _ (an hi) (dq hi)
theorem Tt.loop{B:σ->Option (σ⊕ε)}{E:ε->Prop}(I:σ->Prop)(μ:σ->Nat)(h: ∀s,I s->Tt (Sum.elim (λs'=>I s'/\μ s'<μ s) E) (B s)){s:σ}(hs:I s):Tt E (md B s):=
 AF I μ E (λs hs=>by
  obtain⟨r,h1,h2⟩:=h s hs;cases r with
  |inl s'=>exact .inl ⟨s',h1,h2.1,h2.2⟩
  |inr e=>exact .inr ⟨e,h1,h2⟩) hs
theorem Tt.go{p:Prop}[Decidable p]{x y:Option α}(hp:p)(h:Tt Q x):Tt Q (Go.Proofs.YtkghndikalnipabGreat.En.br (decide p) x y):=by rw[j6,if_pos hp];exact h
theorem Tt.end{p:Prop}[Decidable p]{x y:Option α}(hp: ¬p)(h:Tt Q y):Tt Q (Go.Proofs.YtkghndikalnipabGreat.En.br (decide p) x y):=by rw[j6,if_neg hp];exact h
theorem Tt.count{B:σ->Option (σ⊕ε)}{E:ε->Prop}(n:Nat)(m:Nat->β->σ)(J:Nat->β->Prop)(h0: ∀b,J n b->Tt (Sum.elim (λ_=>False) E) (B (m n b)))
  (h1: ∀k b,k<n->J k b->Tt (Sum.elim (λs=> ∃b',s=m (k+1) b'/\J (k+1) b') E) (B (m k b))) (b:β) (hb:J 0 b):Tt E (md B (m 0 b)):=by
 have go: ∀ (d k:Nat) (b:β),k+d=n->J k b->Tt E (md B (m k b)):=by
  intro d
  induction d with
  |zero=>
   intro k b hk hb;obtain rfl:k=n:=hk;obtain⟨r,e1,e2⟩:=h0 b hb;cases r with
   |inl s=>exact e2.elim
   |inr e=>exact⟨e,by rw[kj,e1];rfl,e2⟩
  |succ d ih=>
   intro k b hk hb;obtain⟨r,e1,e2⟩:=h1 k b (by omega) hb;cases r with
   |inl s=>obtain⟨b',rfl,hb'⟩:=e2;rw[kj,e1];exact ih (k+1) b' (by omega) hb'
   |inr e=>exact⟨e,by rw[kj,e1];rfl,e2⟩
 exact go n 0 b (aM n) hb
end
abbrev T1{α:Type}(_:α):Prop:=True
theorem K1{l:List Int}(ha:MG l): ∀y∈l,0<=y/\y<5:=by intro y hy;obtain⟨k,hk,rfl⟩:=aQ hy;have:=(ha k hk).1;omega
theorem Jy(c:om)(h:GQ maxLen c):Tt (λy=>y.1.length<=10/\ ∀z∈y.1,0<=z/\z<5) (FX c):=by obtain⟨v,v1,_⟩:=Ig c h;unfold FX;rw[v1,ak,Fh];refine .br (λe=> ?_) λ_=> .ret ⟨bH _,nofun⟩;subst e;obtain⟨a1,a2,_⟩:=L5 h v1;have l1:=a1.len;have l2:=a2.len;obtain⟨r,r1,_,r4,r5⟩:=Wk c.replicas c.witnesses (by omega) (by omega);rw[r1];exact .ret ⟨by show r.length<=10;omega,λz hz=>((r4 z).1 hz).elim (K1 a1 z) (K1 a2 z)⟩
theorem TT{x:qN}(ok:FS 1048576 x)(vc:VC x)(a b:Int):Tt T1 (Gw x.sides a b):=by have h5:=Ly (Fu ok.2.1) vc.sides;unfold Gw;simp only[vc.sides,Gn,ak,DG];refine .br (λha=> .br (λhb=> ?_) λ_=> .ret trivial) λ_=> .ret trivial;have ha:=Ft.1 ha;have hb:=Ft.1 hb;exact .ip ha.1 (.get (by omega) λ_ _ _=> .ip hb.1 (.get (by omega) λ_ _ _=> .ret trivial))
theorem Tt.srv{α:Type}{Q:α->Prop}{x:qN}(ok:FS 1048576 x)(vc:VC x){a:Int}(ha:0<=a/\a<5){k:qQ->Option α}(h: ∀s,x.servers[a.toNat]? =some s->F1 1048576 s->FA s a=some (true,())->Tt Q (k s)):Tt Q (iteP (0<=a) ((x.servers[a.toNat]?).bind k) none):=by obtain⟨s,s1,s2,s3⟩:=MF ok vc ha;refine .ip ha.1 ?_;rw[s1];exact h s s1 s2 s3
theorem XE{x:qN}(ok:FS 1048576 x)(vc:VC x){a b:Int}(ha:0<=a/\a<5)(hb:0<=b/\b<5):Tt T1 (HM x a b):=by unfold HM;refine .srv ok vc hb λm m1 m2 _=> .bind (TT ok vc a b) λ_ _=> .br (λ_=> .br (λ_=> .srv ok vc ha λp p1 p2 _=> .br (λ_=> .srv ok vc ha λ_ _ _ _=> .br (λ_=> .srv ok vc ha λq _ _ _=> ?_) λ_=> .ret trivial) λ_=> .ret trivial) λ_=> .ret trivial) λ_=> .ret trivial;rw[(Gk m.config q.config (Fl m2.1)).1];exact .ret trivial
theorem Ov{l:List sf}(h:l.length<=maxLen): ∃b,Gp l=some (b,())/\(b=true->l.length<=16):=by
 rcases isLog l h with ⟨h1,_,h2⟩| ⟨h1,_⟩
 ·exact⟨true,h1,λ_=>h2⟩
 ·exact⟨false,h1,nofun⟩
theorem Of{l:List sf}(h:l.length<=1048576):GP l=some (l,()):=(ML l h).1
theorem Zh(l:List sf)(c q:Int)(hl:l.length<=maxLen):Tt (λy=>y.1= -1\/0<=y.1/\y.1< (l.length:Int)) (Na l c q):=by
 unfold Na;refine .bind (.count (B:=KI) (E:=Sum.elim (λy=>0<=y.1.1/\y.1.1< (l.length:Int)) λ_=>True) l.length (λk (_:Unit)=>((l,c,q,(k:Int),()),(),())) (λ_ _=>True) (λ_ _=> ?_) (λk _ hk _=> ?_) () trivial) λy hy=> ?_
 ·unfold KI;simp only[j6];rw[if_neg (by omega)];exact .ret trivial
 ·unfold KI;simp only[j6];rw[if_pos (by omega)];refine .ip (by omega) (.get (by omega) λ_ _ _=> .br (λ_=> .ip (by omega) (.get (by omega) λ_ _ _=> .br (λ_=> .ret ?_) λ_=> .ret ⟨(),by rw[kT hl hk],trivial⟩)) λ_=> .ret ⟨(),by rw[kT hl hk],trivial⟩);exact⟨by show (0:Int)<=k;omega,by show (k:Int)<_;omega⟩
 ·cases y with
  |inl y=>exact .ret (.inr hy)
  |inr y=>exact .ret (.inl rfl)
end
section
theorem NT{l:List qQ}(h:l.length<=1048576/\ ∀s∈l,F1 1048576 s){s:qQ}(hs:F1 1048576 s)(i:Nat): (l.set i s).length<=1048576/\ ∀s'∈l.set i s,F1 1048576 s':=
 ⟨by rw[EL];exact h.1,λs' hm=>(db hm).elim (h.2 s') λe=>e ▸ hs⟩
theorem Z4(x:qN)(ok:FS 1048576 x)(id:Int): ∃y n,Jp x id=some (y,n,())/\FS 1048576 y/\y.servers.length=x.servers.length:=by
 obtain⟨b,b1,_,b2⟩:=TZ x id ok;unfold Jp;simp only[(GM x ok).1,b1,ak,Fh];cases b with
 |false=>exact⟨x,1,rfl,ok,rfl⟩
 |true=>
  obtain⟨hv,h0,h5⟩:=b2 rfl;obtain⟨s,s1,_⟩:=MF ok (Gl ok hv) ⟨h0,h5⟩;have hlt:=yw s1;have hs:=ok.1.2 s (ay s1);simp only[DG,C7,if_pos h0,s1,ak];rw[if_pos ⟨h0,by omega⟩];cases s.up with
  |false=>exact⟨x,2,rfl,ok,rfl⟩
  |true=>exact⟨_,0,rfl,⟨NT ok.1 (show F1 1048576 ⟨false,s.intact,s.version,s.epoch,s.config,s.first,s.log,s.commit,s.learned⟩ from hs) _,ok.2⟩,EL⟩
theorem Yo(x:qN)(ok:FS 1048576 x)(id:Int): ∃y n,Iu x id=some (y,n,())/\FS 1048576 y/\y.servers.length=x.servers.length:=by
 obtain⟨b,b1,_,b2⟩:=TZ x id ok;unfold Iu;simp only[(GM x ok).1,b1,ak,Fh];cases b with
 |false=>exact⟨x,1,rfl,ok,rfl⟩
 |true=>
  obtain⟨hv,h0,h5⟩:=b2 rfl;obtain⟨s,s1,_⟩:=MF ok (Gl ok hv) ⟨h0,h5⟩;have hlt:=yw s1;have hs:=ok.1.2 s (ay s1);simp only[DG,C7,if_pos h0,s1,ak];rw[if_pos ⟨h0,by omega⟩];cases s.up with
  |true=>exact⟨x,1,rfl,ok,rfl⟩
  |false=>exact⟨_,0,rfl,⟨NT ok.1 (show F1 1048576 ⟨true,s.intact,s.version,s.epoch,s.config,s.first,s.log,s.commit,s.learned⟩ from hs) _,ok.2⟩,EL⟩
theorem aaA(x:qN)(ok:FS 1048576 x)(id:Int): ∃y n,Mb x id=some (y,n,())/\FS 1048576 y/\y.servers.length=x.servers.length:=by
 obtain⟨b,b1,_,b2⟩:=TZ x id ok;unfold Mb;simp only[(GM x ok).1,b1,ak,Fh];cases b with
 |false=>exact⟨x,1,rfl,ok,rfl⟩
 |true=>obtain⟨hv,h0,h5⟩:=b2 rfl;obtain⟨s,s1,_⟩:=MF ok (Gl ok hv) ⟨h0,h5⟩;have hlt:=yw s1;simp only[DG,C7,if_pos h0,s1,ak,LS];rw[if_pos ⟨h0,by omega⟩];exact⟨_,0,rfl,⟨NT ok.1 ⟨⟨bH _,bH _⟩,bH _,bH _⟩ _,ok.2⟩,EL⟩
theorem Yi(x:qN)(ok:FS 1048576 x)(n:Int): ∃y k,Ko x n=some (y,k,())/\FS 1048576 y/\y.servers.length=x.servers.length:=by
 obtain⟨v,v1,_⟩:=HI x ok;unfold Ko;simp only[(GM x ok).1,v1,Gn,ak,Fh];cases v with
 |false=>exact⟨x,1,rfl,ok,rfl⟩
 |true=>
  simp only[DG];cases IT n 0 3 with
  |false=>exact⟨x,1,rfl,ok,rfl⟩
  |true=>exact⟨_,0,rfl,ok,rfl⟩
theorem aaC(x:qN)(ok:FS 1048576 x)(a b:Int): ∃y k,Kk x a b=some (y,k,())/\FS 1048576 y/\y.servers.length=x.servers.length:=by
 obtain⟨v,v1,_⟩:=HI x ok;obtain⟨u,u1,_⟩:=Od x.sides (Fu ok.2.1)
 have hm: ∃l t,Mc x.sides a b=some (l,t,())/\l.length=x.sides.length:=by
  unfold Mc;simp only[bK,C7,u1,Gn,ak,Fh];rw[if_pos (show x.sides.length*8<=2 ^ 40 by have:=ok.2.1;omega)];cases u with
  |false=>exact⟨_,_,rfl,rfl⟩
  |true=>
   simp only[DG];cases hw:IT a 0 4 with
   |false=>exact⟨_,_,rfl,rfl⟩
   |true=>
    simp only[DG];cases IT b 0 3 with
    |false=>exact⟨_,_,rfl,rfl⟩
    |true=>have hw:=Ft.1 hw;have hl:=Ly (Fu ok.2.1) u1;simp only[DG];rw[if_pos ⟨hw.1,by omega⟩,an (by omega)];exact⟨_,_,rfl,EL⟩
 obtain⟨l,t,l1,l2⟩:=hm;unfold Kk;simp only[(GM x ok).1,v1,l1,ak,Fh];cases v with
 |false=>exact⟨x,1,rfl,ok,rfl⟩
 |true=>
  cases t with
  |false=>exact⟨x,1,rfl,ok,rfl⟩
  |true=>exact⟨_,0,rfl,⟨ok.1,by show l.length<=1048576;rw[l2];exact ok.2.1,ok.2.2⟩,rfl⟩
theorem Vq(x:qN)(ok:FS 1048576 x)(id:Int): ∃n:Int,J0 x id=some (n,())/\(n=0->Fi x=some (true,())/\0<=id/\id<5):=by
 obtain⟨v,v1,_⟩:=HI x ok;unfold J0;simp only[v1,Gn,ak,Fh];cases v with
 |false=>exact⟨1,rfl,λh=>absurd h (by decide)⟩
 |true=>
  simp only[DG];cases hw:IT id 0 4 with
  |false=>exact⟨1,rfl,λh=>absurd h (by decide)⟩
  |true=>
   have hw:=Ft.1 hw;obtain⟨s,s1,_⟩:=MF ok (Gl ok v1) ⟨hw.1,by omega⟩;simp only[DG,C7,if_pos hw.1,s1,ak];cases s.up with
   |false=>exact⟨2,rfl,λh=>absurd h (by decide)⟩
   |true=>exact⟨0,rfl,λ_=>⟨trivial,hw.1,by omega⟩⟩
end
section
theorem tn{k n:Nat}(h:k<n): (k:Int).toNat<n:=h
theorem Vj(m:nX)(ho:m.objects.length<=1000)(hs:m.sessions.length<=1000):Tt (λy=>y.1=true->m.objects.length=3) (He m):=by
 have mo:m.objects.length<=maxLen:=by unfold maxLen;omega
 have ms:m.sessions.length<=maxLen:=by unfold maxLen;omega
 unfold He;refine .bind (.count (B:=Ii) (E:=Sum.elim (λy=>y.1.2=(false,())) λy=>y.2.1=((m.objects,m.sessions,()),())) m.objects.length (λk (_:Unit)=>(((),(k:Int),()),((m.objects,m.sessions,()),()),())) (λ_ _=>True) (λ_ _=> .end (EK _) (.ret rfl)) (λk _ hk _=> .go (EJ.2 hk) (.ip (EI k) (.get (tn hk) λx _ _=> ?_))) () trivial) λy hy=> ?_
 ·rw[Gn,ak,Fh];exact .br (λ_=> .ret ⟨(),by rw[kT mo hk],trivial⟩) λ_=> .ret rfl
 cases y with
 |inl y=>exact .ret (by rw[show y.1.2=_ from hy];nofun)
 |inr y=>
  show Tt _ ((Mm (((),0,()),y.2.1,())).bind _);rw[show y.2.1=_ from hy];refine .bind (.count (B:=Ij) (E:=Sum.elim (λy=>y.1.2=(false,())) λy=>y.2.1=((m.objects,m.sessions,()),())) m.sessions.length (λk (_:Unit)=>(((),(k:Int),()),((m.objects,m.sessions,()),()),())) (λ_ _=>True) (λ_ _=> .end (EK _) (.ret rfl)) (λk _ hk _=> .go (EJ.2 hk) (.ip (EI k) (.get (tn hk) λx _ _=> ?_))) () trivial) λy hy=> ?_
  ·simp only[Gn,ak,Fh]
   have hw: (k:Int)>0->IntKind.wrap .i64 ((k:Int)-1)=(k:Int)-1:=λh=>by unfold maxLen at ms;exact of (by omega) (by omega)
   refine .br (λ_=> .br (λ_=> .br (λ_=> .br (λh=> ?_) λ_=> .ret ⟨(),by rw[kT ms hk],trivial⟩) λ_=> .ret rfl) λ_=> .ret rfl) λ_=> .ret rfl;have h:=of_decide_eq_true h;rw[hw h];exact .ip (by omega) (.get (by omega) λ_ _ _=> .br (λ_=> .ret rfl) λ_=> .ret ⟨(),by rw[kT ms hk],trivial⟩)
  cases y with
  |inl y=>exact .ret (by rw[show y.1.2=_ from hy];nofun)
  |inr y=>show Tt _ (some (((y.2.1.1.1.length:Int)==3),()));rw[show y.2.1=_ from hy];exact .ret λh=>by have : (m.objects.length:Int)=3:=eq_of_beq h;omega
theorem Yt(m:nX)(c:Int)(hs:m.sessions.length<=1000):Tt (λy=>y.2.1=true-> ∃x∈m.sessions,x.client=c) (Lm m c):=by
 have ms:m.sessions.length<=maxLen:=by unfold maxLen;omega
 unfold Lm;refine .bind (.count (B:=La) (E:=Sum.elim (λy=> ∃x∈m.sessions,x.client=c) λ_=>True) m.sessions.length (λk (_:Unit)=>((c,(),(),(k:Int),()),((m.objects,m.sessions,()),(0,0,false,0,()),()),())) (λ_ _=>True) (λ_ _=> .end (EK _) (.ret trivial)) (λk _ hk _=> .go (EJ.2 hk) (.ip (EI k) (.get (tn hk) λx _ hx=> .br (λe=> .ip (EI k) (.get (tn hk) λ_ _ _=> .ret ⟨x,hx,eq_of_beq e⟩)) λ_=> .ret ⟨(),by rw[kT ms hk],trivial⟩))) () trivial) λy hy=> ?_;cases y with
 |inl y=>exact .ret λ_=>hy
 |inr y=>exact .ret nofun
theorem Vv(m:nX)(o:Op)(ho:m.objects.length<=1000)(hs:m.sessions.length<=900):Tt (λy=>y.1.sessions.length<=m.sessions.length+1/\y.1.objects.length=m.objects.length) (KK m o):=by
 obtain⟨⟨b,_⟩,v1,v2⟩:=Vj m ho (by omega);unfold KK
 have cp:Ou m=some (m,()):=by unfold Ou;simp only[bK];rw[jq (by omega),jq (by omega)]
 rw[cp,ak,v1,ak,Fh,NU];refine .br (λe=> ?_) λ_=> .ret ⟨cM _,rfl⟩;have h3:=v2 e;rw[ak,Fh];refine .br (λeo=> .bind (Yt m o.client (by omega)) λy hy=> ?_) λ_=> .ret ⟨cM _,rfl⟩;have hob:=WJ (show FL o=some (true,()) by rw[NU];rw[show opB o=true from eo]);have hle:=Y7 m.sessions o.client;have hlt:y.2.1=true->PJ m.sessions o.client<m.sessions.length:=λh=>Y8 (hy h);have hw:IntKind.wrap .i64 (((PJ m.sessions o.client:Nat):Int)+1)=((PJ m.sessions o.client:Nat):Int)+1:=of (by omega) (by omega);generalize hp:PJ m.sessions o.client=p at hle hlt hw
 have ln: ∀ (k:Nat) (z:nY),k<=m.sessions.length+1->p<=k->(m.sessions.take p++ [z] ++(m.sessions.drop k).take (m.sessions.length-k)).length=p+1+(m.sessions.length-k):=λk z h1 h2=>by simp only[be,ci,bR,cn];omega
 have g0:0<=(p:Int):=EI p;have g1: (p:Int)<=(m.sessions.length:Int):=Int.ofNat_le.2 hle;have g3:0<=(p:Int)+1:=by omega
 have g2:y.2.1=true->(p:Int)+1<=(m.sessions.length:Int):=λh=>by have:=hlt h;omega
 have l1: (m.sessions.take p).length<=900:=by rw[ci];omega
 extract_lets+lift j44 j45
 have h44:Tt (λy=>y.1.sessions.length<=m.sessions.length+1/\y.1.objects.length=m.objects.length) j44:=by
  unfold j44;refine .ip hob.1 (.get (by show o.object.toNat<_;omega) λx _ _=> .br (λ_=> .ip (by show 0<=o.object/\o.object< (m.objects.length:Int);omega) (.get (by show o.object.toNat<m.objects.length;omega) λ_ _ _=> ?_)) λ_=> .br (λ_=> .ip (by show 0<=o.object/\o.object< (m.objects.length:Int);omega) (.get (by show o.object.toNat<m.objects.length;omega) λ_ _ _=> ?_)) λ_=> ?_)
  all_goals
   show Tt _ ((LY (((),(),(),(),y.2.1,(),0,()),((o.client,o.seq,o.kind,o.object,o.old,o.value,()),((),(),()),(false,0,()),((),(),()),(_,_,()),()),_,m.sessions,())).bind _);rw[aaU _ _ _ _ _ _ (by omega),hp,ak];simp only[hw,bK,aM,cF,cO,show (0:Int).toNat=0 from rfl,Fb,show ((p:Int)+1).toNat=p+1 from rfl];refine .ip ⟨g0,g1,c9 _⟩ (.br (λe=> ?_) λ_=> ?_)
   ·have:=hlt e;refine .ip ⟨g3,g2 e,c9 _⟩ (.ip ⟨c9 _,g0,g1⟩ (.ip hle (.ip (by omega) (.ip (by rw[be,cn];omega) (.ip (by omega) (.ip (by rw[ln _ _ (by omega) (by omega)];omega) (.ret ⟨?_,by first |rfl|exact EL⟩)))))));show List.length _<=_;rw[ln _ _ (by omega) (by omega)];omega
   ·refine .ip ⟨c9 _,g0,g1⟩ (.ip hle (.ip (by omega) (.ip (by rw[be,cn];omega) (.ip (by omega) (.ip (by rw[ln _ _ (by omega) (by omega)];omega) (.ret ⟨?_,by first |rfl|exact EL⟩))))));show List.length _<=_;rw[ln _ _ (by omega) (by omega)];omega
 have h45:Tt (λy=>y.1.sessions.length<=m.sessions.length+1/\y.1.objects.length=m.objects.length) j45:=.br (λ_=> .br (λ_=> .ret ⟨cM _,rfl⟩) λ_=>h44) λ_=>h44;exact .br (λ_=> .br (λ_=> .ret ⟨cM _,rfl⟩) λ_=>h45) λ_=>h45
theorem UK(l:List sf)(hl:l.length<=maxLen):Tt (λy=>y.1.objects.length<=3/\y.1.sessions.length<=16) (IZ l):=by obtain⟨b,b1,b2⟩:=Ov hl;unfold IZ LR;rw[ak,b1,ak,Fh];refine .br (λe=> ?_) λ_=> .ret ⟨bH _,bH _⟩;have h16:=b2 e;refine .bind (.count (B:=K8) (E:=λy=>y.2.2.1.length<=3/\y.2.2.2.1.length<=16) l.length (λk (b:List Int×List nY)=>((l,(),(),(k:Int),()),(((),(),()),((),(),()),()),b.1,b.2,())) (λk b=>b.1.length<=3/\b.2.length<=k) (λb hb=> .end (EK _) (.ret ⟨hb.1,ba hb.2 h16⟩)) (λk b hk hb=> .go (EJ.2 hk) (.ip (EI k) (.get (tn hk) λx _ _=> .bind (Vv ⟨b.1,b.2⟩ x.op (ba hb.1 (by omega)) (ba hb.2 (by omega))) λy hy=> .ret ⟨(y.1.objects,y.1.sessions),by rw[kT hl hk],by rw[hy.2];exact hb.1,ba hy.1 (Nat.succ_le_succ hb.2)⟩))) ([0,0,0],[]) ⟨az _,az _⟩) λy hy=> .ret hy
theorem WL(l:List sf)(i:Int)(hl:l.length<=maxLen):Tt T1 (KN l i):=by obtain⟨b,b1,b2⟩:=Ov hl;unfold KN;rw[b1,ak,Fh];refine .br (λe=> ?_) λ_=> .ret trivial;have h16:=b2 e;rw[of (n:=(l.length:Int)-1) (by omega) (by omega),Gn,ak,Fh];refine .br (λh=> ?_) λ_=> .ret trivial;have h:=Ft.1 h;refine .ip (by omega) (.bind (UK _ ?_) λy hy=> .ip h.1 (.get (by omega) λx _ _=> .bind (Vv _ _ (by omega) (by omega)) λz _=> .ret trivial));refine ba ?_ hl;rw[ci,bR];omega
theorem Pz(s:qQ)(h:F1 1048576 s)(hf:0<=s.first/\s.first<=16/\s.log.length<=16):Tt (λy=>y.1.length<=16) (FZ s):=by
 unfold FZ;rw[of (n:=s.first+(s.log.length:Int)) (by omega) (by omega)];simp only[Gn,ak,Fh];refine .br (λh1=> ?_) λ_=> .ret (bH _);have h1:=Ft.1 h1;refine .br (λ_=> .ret (bH _)) λ_=> ?_;rw[of (n:=s.commit-s.first) (by omega) (by omega)]
 have hlen: ((s.log.drop (0:Int).toNat).take ((s.commit-s.first).toNat-(0:Int).toNat)).length<=16:=by rw[ci,bR];omega
 refine .ip (by omega) ?_;rw[Of (by omega)];exact .ret hlen
theorem aaF(m:nX)(i:Int)(ho:m.objects.length<=1000)(hs:m.sessions.length<=1000):Tt T1 (Kn m i):=by obtain⟨⟨b,_⟩,b1,b2⟩:=Vj m ho hs;unfold Kn;rw[b1,ak,Fh];refine .br (λe=> ?_) λ_=> .ret trivial;have h3:=b2 e;rw[Gn,ak,Fh];refine .br (λh=> ?_) λ_=> .ret trivial;have h:=Ft.1 h;exact .ip h.1 (.get (by omega) λ_ _ _=> .ret trivial)
theorem UN{s:qQ}{id:Int}(h:F1 1048576 s)(hv:FA s id=some (true,())):0<=s.first/\s.first<=16/\s.log.length<=16:=by obtain⟨h1,h2,h3,_⟩:=NI h hv;exact⟨h1,h2,h3⟩
theorem aam(s:qQ)(i:Int)(h:F1 1048576 s)(hf:0<=s.first/\s.first<=16/\s.log.length<=16):Tt T1 (Mf s i):=by unfold Mf;exact .bind (Pz s h hf) λy hy=> .bind (UK _ (by unfold maxLen;omega)) λz hz=> .bind (aaF _ _ (by omega) (by omega)) λ_ _=> .ret trivial
theorem Z7(l:vz)(a b c:Int):Tt T1 (Ki l a b c):=by obtain⟨v,v1,_⟩:=O4 l;unfold Ki;rw[v1,ak,Gn,ak];exact .br (λ_=> .br (λ_=> .br (λ_=> .br (λ_=> .br (λ_=> .ret trivial) λ_=> .ret trivial) λ_=> .ret trivial) λ_=> .ret trivial) λ_=> .ret trivial) λ_=> .ret trivial
theorem Xp(x:qN)(ok:FS 1048576 x)(id:Int):Tt T1 (HZ x id):=by obtain⟨b,b1,_,b2⟩:=Hz x ok id;unfold HZ;rw[b1,ak];refine .br (λe=> ?_) λ_=> .ret trivial;obtain⟨hv,h0,h5,_⟩:=b2 e;exact .srv ok (Gl ok hv) ⟨h0,h5⟩ λs _ _ _=> .bind (Z7 _ _ _ _) λ_ _=> .ret trivial
theorem VZ(x:qN)(ok:FS 1048576 x)(id i:Int):Tt T1 (Li x id i):=by obtain⟨n,n1,n2⟩:=Vq x ok id;unfold Li;rw[n1,ak,Fh];refine .br (λe=> ?_) λ_=> .ret trivial;obtain⟨hv,h0,h5⟩:=n2 (eq_of_beq e);have vc:=Gl ok hv;rw[Gn,ak,Fh];refine .br (λ_=> .srv ok vc ⟨h0,h5⟩ λs _ s2 _=> ?_) λ_=> .ret trivial;obtain⟨b,b1,_⟩:=KZ s id s2;rw[b1,ak,Fh];refine .br (λ_=> .bind (Xp x ok id) λy _=> ?_) λ_=> .ret trivial;rw[Fh];exact .br (λ_=> .srv ok vc ⟨h0,h5⟩ λs _ s2 s3=> .bind (aam s i s2 (UN s2 s3)) λ_ _=> .ret trivial) λ_=> .ret trivial
end
section
def Kp(x y:qN):Prop:=FS 1048576 y/\y.servers.length=x.servers.length
theorem Kp.self{x:qN}(ok:FS 1048576 x):Kp x x:=⟨ok,rfl⟩
theorem Kp.trans{x y z:qN}(h:Kp x y)(k:Kp y z):Kp x z:=⟨k.1,k.2.trans h.2⟩
theorem Kp.srvs{x y:qN}(h:Kp x y){S:List qQ}(hl:S.length=y.servers.length)(hs: ∀s∈S,F1 1048576 s):Kp x ⟨y.now,S,y.sides,y.master,y.masterUp,y.lease,y.places⟩:=
 ⟨⟨⟨by rw[hl];exact h.1.1.1,hs⟩,h.1.2⟩,hl.trans h.2⟩
theorem Kp.set{x y:qN}(h:Kp x y){s:qQ}(hs:F1 1048576 s)(i:Nat):Kp x ⟨y.now,y.servers.set i s,y.sides,y.master,y.masterUp,y.lease,y.places⟩:=
 h.srvs EL (NT h.1.1 hs i).2
theorem Tt.at{α:Type}{Q:α->Prop}{l:List qQ}(h5:l.length=5){a:Int}(ha:0<=a/\a<5){k:qQ->Option α}(h: ∀s,l[a.toNat]? =some s->s∈l->Tt Q (k s)):Tt Q (iteP (0<=a/\a< (l.length:Int)) ((l[a.toNat]?).bind k) none):=
 .ip (by rw[h5];exact ha) (.get (by omega) h)
theorem Z6(x:qN)(ok:FS 1048576 x)(id:Int):Tt T1 (GN x id):=by obtain⟨b,b1,_,b2⟩:=Hz x ok id;unfold GN;rw[b1,ak,Fh];refine .br (λe=> ?_) λ_=> .ret trivial;obtain⟨hv,h0,h5,_⟩:=b2 e;have vc:=Gl ok hv;refine .srv ok vc ⟨h0,h5⟩ λs _ s2 _=> .bind (Jy _ (Fl s2.1)) λy hy=> .bind (.count (B:=GV) (E:=λ_=>True) y.1.length (λk (b:Int)=>(((),b,(),(k:Int),()),(fx x,()),y.1,())) (λ_ _=>True) (λ_ _=> .end (EK _) (.ret trivial)) (λk b hk _=> .go (EJ.2 hk) (.ip ⟨EI k,EJ.2 hk⟩ (.get (tn hk) λz _ hz=> .srv ok vc (hy.2 z hz) λt _ _ _=> .ret ⟨_,by rw[kT (by have:=hy.1;unfold maxLen;omega) hk],trivial⟩))) 2 trivial) λ_ _=> .ret trivial
theorem YD(x:qN)(ok:FS 1048576 x)(id:Int)(o:Op):Tt (λy=>Kp x y.1/\(y.2.1=0->y.1.servers.length=5/\0<=id/\id<5)) (HC x id o):=by
 obtain⟨v,v1,_⟩:=HI x ok;unfold HC;rw[(GM x ok).1,ak,v1,ak,Fh];have bad: ∀n:Int,n≠0->Tt (λy:qN×Int×Unit=>Kp x y.1/\(y.2.1=0->y.1.servers.length=5/\0<=id/\id<5)) (some (x,n,())):=λn hn=> .ret ⟨.self ok,λh=>absurd h hn⟩;refine .br (λe=> ?_) λ_=>bad 1 (by decide);subst e;have vc:=Gl ok v1;rw[Gn,ak,Fh];refine .br (λh=> ?_) λ_=>bad 1 (by decide);have h:=Ft.1 h;have hid:0<=id/\id<5:=by omega
 rw[NU,ak,Fh];refine .br (λ_=> .srv ok vc hid λs s1 s2 s3=> ?_) λ_=>bad 1 (by decide);rw[Fh];refine .br (λ_=> ?_) λ_=>bad 2 (by decide);obtain⟨b,b1,_⟩:=KZ s id s2;rw[b1,ak,Fh];refine .br (λ_=> .bind (Zh s.log _ _ (Fu s2.2.1)) λy hy=> ?_) λ_=>bad 3 (by decide);have good: ∀n:Int,Tt (λy:qN×Int×Unit=>Kp x y.1/\(y.2.1=0->y.1.servers.length=5/\0<=id/\id<5)) (some (x,n,())):=λn=> .ret ⟨.self ok,λ_=>⟨vc.len,hid⟩⟩
 extract_lets+lift j17 j18
 have h17:Tt (λy=>Kp x y.1/\(y.2.1=0->y.1.servers.length=5/\0<=id/\id<5)) j17:=by
  unfold j17;refine .at vc.len hid λs' e' hs'=> ?_;show Tt _ ((x.servers[id.toNat]?).bind _);rw[e',ak];have hs:=ok.1.2 s' hs';have hs3:=hs.2.1;obtain rfl:s'=s:=by rw[s1] at e';exact (Option.some.inj e').symm
  have hl:=(UN s2 s3).2.2;refine .ip rfl ?_;have e1: ∀X Y:Option (qN×Int×Unit),iteP (s'.log.length<s'.log.length) X Y=Y:=λX Y=>by rw[C7,if_neg (dI _)]
  rw[e1]
  have hl2: (s'.log.take s'.log.length++([(⟨s'.epoch,o⟩:sf)]:List sf)).length<=17:=by rw[be,ci,cn];omega
  refine .ip (by omega) (.ip (by show 0<=id/\id< (x.servers.length:Int);rw[vc.len];exact hid) (.ip rfl (.ret ⟨(Kp.self ok).set (s:=⟨s'.up,s'.intact,s'.version,s'.epoch,s'.config,s'.first,s'.log.take s'.log.length++ [⟨s'.epoch,o⟩],s'.commit,s'.learned⟩) ⟨hs.1,ba hl2 (by omega),hs.2.2⟩ _,λ_=>⟨by show (x.servers.set _ _).length=5;rw[EL];exact vc.len,hid⟩⟩)))
 have h18:Tt (λy=>Kp x y.1/\(y.2.1=0->y.1.servers.length=5/\0<=id/\id<5)) j18:=by unfold j18;refine .bind (UK s.log (Fu s2.2.1)) λm hm=> .bind (Vv m.1 o (by omega) (by omega)) λz _=> ?_;rw[Fh];refine .br (λ_=> .bind (Q:=T1) (by unfold IJ;exact .ret trivial) λw _=> ?_) λ_=>good 11;exact .br (λ_=> .bind (Z6 x ok id) λ_ _=> .br (λ_=>good 6) λ_=> .br (λ_=>good 5) λ_=>h17) λ_=> .br (λ_=>good 5) λ_=>h17
 refine .br (λh=> .ip (of_decide_eq_true h) (.get ?_ λe _ _=> ?_)) λ_=> .br (λ_=>good 0) λ_=>h18
 ·have h:=of_decide_eq_true h;omega
 ·rw[Fh];exact .br (λ_=> .br (λ_=>good 0) λ_=>h18) λ_=>good 11
theorem aaE(x:qN)(ok:FS 1048576 x)(id m:Int):Tt (λy=>Kp x y.1/\(y.2.1=true->0<=m/\m<5)) (FB x id m):=by
 obtain⟨b,b1,_,b2⟩:=Hz x ok id;have bad:Tt (λy:qN×Bool×Unit=>Kp x y.1/\(y.2.1=true->0<=m/\m<5)) (some (x,false,())):=.ret ⟨.self ok,nofun⟩;unfold FB;rw[(GM x ok).1,ak,b1,ak,Fh];refine .br (λe=> ?_) λ_=>bad;obtain⟨hv,h0,h5,hp⟩:=b2 e;have vc:=Gl ok hv;refine .srv ok vc ⟨h0,h5⟩ λs s1 s2 s3=> .bind (Jy _ (Fl s2.1)) λy hy=> ?_;rw[(FD y.1 m (by have:=hy.1;unfold maxLen;omega)).1,ak,Fh];refine .br (λhm=> ?_) λ_=>bad;have hm:=hy.2 m (of_decide_eq_true hm);refine .bind (XE ok vc ⟨h0,h5⟩ hm) λz _=> ?_;rw[Fh];refine .br (λ_=> .srv ok vc ⟨h0,h5⟩ λt t1 t2 t3=> .srv ok vc ⟨h0,h5⟩ λu _ u2 _=> ?_) λ_=>bad;obtain⟨n,n1,_⟩:=M6 u.config m (Fl u2.1);rw[n1,ak];have five: ∀ (i:Nat) (s:qQ),(x.servers.set i s).length=5:=λi s=>by rw[EL];exact vc.len
 refine .br (λ_=> ?_) λ_=> ?_
 ·rw[Qt t.log t2.2.1 (NI t2 t3).2.2.2.2.2.1,ak];refine .ip (by show 0<=m/\m< (x.servers.length:Int);rw[vc.len];exact hm) (.at vc.len hm λw _ hw=> ?_);have hw:=ok.1.2 w hw;refine .get (by rw[five];omega) λw' _ hw'=> .ret ⟨.srvs (.self ok) (by rw[EL,EL]) λs hs=> ?_,λ_=>hm⟩;have all:=(NT ok.1 (s:=⟨w.up,w.intact,w.version,w.epoch,w.config,((cutAt t.log:Nat):Int),w.log,w.commit,w.learned⟩) hw m.toNat)
  have hw':=all.2 w' hw';exact (NT all (s:=⟨w'.up,w'.intact,w'.version,w'.epoch,w'.config,w'.first,t.log.drop (cutAt t.log),w'.commit,w'.learned⟩) ⟨hw'.1,by show List.length _<=_;rw[bR];have:=t2.2.1;omega,hw'.2.2⟩ m.toNat).2 s hs
 ·rw[Of t2.2.1,ak];exact .at vc.len hm λw _ hw=> .ret ⟨(Kp.self ok).set (s:=⟨w.up,w.intact,w.version,w.epoch,w.config,w.first,t.log,w.commit,w.learned⟩) ⟨(ok.1.2 w hw).1,t2.2.1,(ok.1.2 w hw).2.2⟩ _,λ_=>hm⟩
theorem UL{l:List qQ}(h:l.length=5/\ ∀s∈l,F1 1048576 s){s:qQ}(hs:F1 1048576 s)(i:Nat): (l.set i s).length=5/\ ∀t∈l.set i s,F1 1048576 t:=⟨by rw[EL];exact h.1,λt ht=>(db ht).elim (h.2 t) λe=>e ▸ hs⟩
abbrev fz:Int×Unit×Unit×Unit×Int×Int×Int×Int×Int×Unit×Unit:=(0,(),(),(),0,0,0,0,0,(),())
abbrev fc(x:qN):Int×Unit×Unit×Unit×Int×Int×Int×Int×Int×Unit×Unit:=(x.now,(),(),(),x.master.activated,x.masterUp,x.lease.epoch,x.lease.holder,x.lease.ends,(),())
theorem Wm(x:qN)(ok:FS 1048576 x)(id:Int):Tt (λy=>Kp x y.1) (FF x id):=by
 obtain⟨b,b1,_,b2⟩:=Hz x ok id;unfold FF;rw[(GM x ok).1,ak,b1,ak,Fh];refine .br (λe=> ?_) λ_=> .ret (.self ok);obtain⟨hv,h0,h5,hp⟩:=b2 e;have vc:=Gl ok hv;refine .srv ok vc ⟨h0,h5⟩ λs s1 s2 s3=> .bind (Jy _ (Fl s2.1)) λy hy=> ?_;have hl:y.1.length<=maxLen:=by have:=hy.1;unfold maxLen;omega
 refine .bind (.count (B:=F6) (E:=λe=> ∃ (c:qN) (a:Bool),Kp x c/\e=((id,(),(),(),a,()),(fz,fc c,()),y.1,c.servers,c.sides,c.master.configs,c.places,())) y.1.length (λk (b:qN×Bool)=>((id,(),(),(),b.2,(k:Int),()),(fz,fc b.1,()),y.1,b.1.servers,b.1.sides,b.1.master.configs,b.1.places,())) (λ_ b=>Kp x b.1) (λb hb=> .end (EK _) (.ret ⟨b.1,b.2,hb,rfl⟩)) (λk b hk hb=> .go (EJ.2 hk) (.ip ⟨EI k,EJ.2 hk⟩ (.get (tn hk) λz _ hz=> .bind (aaE b.1 hb.1 id z) λw hw=> .br (λ_=> .ret ⟨(w.1,w.2.1),by rw[kT hl hk],hb.trans hw.1⟩) λ_=> .ret ⟨(w.1,false),by rw[kT hl hk],hb.trans hw.1⟩))) (x,true) (.self ok)) ?_
 rintro _ ⟨c,a,hc,rfl⟩
 refine .bind (.count (B:=FN) (E:=λe=> ∃ (c:qN) (a:Bool),Kp x c/\e=(((),(),a,()),(fz,fc c,()),c.servers,c.sides,c.master.configs,c.places,())) y.1.length (λk (b:List qQ)=>((id,(),(),(),a,(k:Int),()),(fz,fc c,()),y.1,b,c.sides,c.master.configs,c.places,())) (λ_ b=>b.length=5/\ ∀s∈b,F1 1048576 s) (λb hb=> .end (EK _) (.ret ⟨⟨c.now,b,c.sides,c.master,c.masterUp,c.lease,c.places⟩,a,hc.srvs (by rw[hb.1,hc.2,vc.len]) hb.2,rfl⟩)) (λk b hk hb=> .go (EJ.2 hk) (.br (λ_=> .ip ⟨EI k,EJ.2 hk⟩ (.get (tn hk) λz _ hz=> .at hb.1 ⟨h0,h5⟩ λp _ _=> .at hb.1 (hy.2 z hz) λq _ hq=> .ret ⟨b.set z.toNat ⟨q.up,q.intact,q.version,q.epoch,q.config,q.first,q.log,((p.log.length:Nat):Int),q.learned⟩,by rw[kT hl hk],UL hb (s:=⟨q.up,q.intact,q.version,q.epoch,q.config,q.first,q.log,((p.log.length:Nat):Int),q.learned⟩) (hb.2 q hq) _⟩)) λ_=> .ret ⟨⟨c.now,b,c.sides,c.master,c.masterUp,c.lease,c.places⟩,a,hc.srvs (by rw[hb.1,hc.2,vc.len]) hb.2,rfl⟩)) c.servers ⟨hc.2.trans vc.len,hc.1.1.2⟩) ?_
 rintro _ ⟨d,a',hd,rfl⟩
 exact .ret hd
theorem YF(x:qN)(ok:FS 1048576 x)(id:Int)(o:Op):Tt (λy=>Kp x y.1) (L8 x id o):=by
 unfold L8;refine .bind (YD x ok id o) λy hy=> ?_;rw[Fh];refine .br (λe=> ?_) λ_=> .ret hy.1;obtain⟨h5,hid⟩:=hy.2 (eq_of_beq e)
 have same: ∀ {α:Type} {Q:α->Prop} {l:List qQ} {k:qQ->qQ->Option α},l.length=5->(∀s∈l,F1 1048576 s)->(∀s,F1 1048576 s->Tt Q (k s s))->Tt Q (iteP (0<=id/\id< (l.length:Int)) ((l[id.toNat]?).bind λa=>(l[id.toNat]?).bind λb=>k a b) none):=λh5 hs h=> .at h5 hid λs e1 e2=>by rw[e1,ak];exact h s (hs s e2)
 have Bm: ∀s:qQ,(s.log.drop 0).take s.log.length=s.log:=λs=>by rw[cF,EM]
 refine same h5 hy.1.1.1.2 λs hs=> .ip (by omega) ?_;rw[Bm];refine .bind (Zh _ _ _ (Fu hs.2.1)) λi _=> .at h5 hid λt _ _=> .br (λ_=> .bind (Wm y.1 hy.1.1 id) λz hz=> ?_) λ_=>same h5 hy.1.1.1.2 λs hs=> .ip (by omega) ?_
 ·rw[Fh];refine .br (λ_=>same (hz.2.trans h5) hz.1.1.2 λs hs=> .ip (by omega) ?_) λ_=> .ret (hy.1.trans hz);rw[Bm];exact .bind (WL _ _ (Fu hs.2.1)) λ_ _=> .ret (hy.1.trans hz)
 ·rw[Bm];exact .bind (WL _ _ (Fu hs.2.1)) λ_ _=> .ret hy.1
end
section
theorem K0(x:qN)(ok:FS 1048576 x):Tt (λy=>y.1=true->VC x) (Fi x):=by obtain⟨v,v1,_⟩:=HI x ok;exact⟨(v,()),v1,λe=>Gl ok (by rw[v1,show v=true from e])⟩
theorem Wn(x:qN)(ok:FS 1048576 x)(e:Int): ∃c b,Hi x.master e=some (c,b,())/\GQ maxLen c/\(VC x->c.replicas.length<=5/\c.witnesses.length<=5/\(∀z∈c.replicas,0<=z/\z<5)/\(∀z∈c.witnesses,0<=z/\z<5)/\(b=true->Fk c=some (true,())/\0<=c.primary/\c.primary<5)/\MG c.replicas):=by
 obtain⟨c,b,h1,_,h2⟩:=RR x.master e ok.2.2.1;refine⟨c,b,h1,h2,λvc=> ?_⟩;obtain⟨c',b',g1,_,g2,_,g3,g4⟩:=RS x.master e ok.2.2.1 vc.ml;rw[h1] at g1;obtain⟨rfl,rfl⟩:c=c'/\b=b':=by simpa using g1
 cases b with
 |false=>rw[g4 rfl];exact⟨bH _,bH _,nofun,nofun,nofun,λk hk=>by simp at hk⟩
 |true=>obtain⟨a1,a2,a3,_⟩:=L5 g2 (g3 rfl).1;exact⟨a1.len,a2.len,K1 a1,K1 a2,λ_=>⟨(g3 rfl).1,K1 a1 _ a3⟩,a1⟩
theorem Vu(x:qN)(ok:FS 1048576 x): ∃c b,F0 x.master=some (c,b,())/\GQ maxLen c/\(VC x->c.replicas.length<=5/\c.witnesses.length<=5/\(∀z∈c.replicas,0<=z/\z<5)/\(∀z∈c.witnesses,0<=z/\z<5)/\(b=true->Fk c=some (true,())/\0<=c.primary/\c.primary<5)/\MG c.replicas):=by obtain⟨c,b,h1,h2⟩:=Wn x ok x.master.activated;exact⟨c,b,by unfold F0;rw[h1];rfl,h2⟩
theorem Vp(s:qQ)(e:Int)(h:F1 1048576 s):Tt (λy=>F1 1048576 y.1) (HE s e):=by unfold HE;rw[(PV s h).1,ak,Gn,ak,Fh];exact .br (λ_=> .br (λ_=> .ret h) λ_=> .br (λ_=> .ret h) λ_=> .ret h) λ_=> .ret h
theorem aaI(x:qN)(ok:FS 1048576 x)(id e:Int):Tt (λy=>Kp x y.1) (Js x id e):=by
 obtain⟨c,b,c1,c2,c3⟩:=Vu x ok;unfold Js;rw[(GM x ok).1,ak,c1,ak];refine .bind (K0 x ok) λv hv=> ?_;rw[Fh];refine .br (λh=> ?_) λ_=> .ret (.self ok);have vc:=hv h;rw[Fh];refine .br (λ_=> ?_) λ_=> .ret (.self ok);rw[Gn,ak,Fh];refine .br (λ_=> .bind (Jy c c2) λm hm=> ?_) λ_=> .ret (.self ok);have hl:m.1.length<=maxLen:=by have:=hm.1;unfold maxLen;omega
 refine .bind (.count (B:=JC) (E:=λe=> ∃S:List qQ,(S.length=5/\ ∀s∈S,F1 1048576 s)/\e=(((),(),()),(fz,fc x,()),S,x.sides,x.master.configs,x.places,())) m.1.length (λk (S:List qQ)=>((id,e,(),(),(),(),(k:Int),()),(fx x,fz,fc x,()),m.1,S,x.sides,x.master.configs,x.places,())) (λ_ S=>S.length=5/\ ∀s∈S,F1 1048576 s) (λS hS=> .end (EK _) (.ret ⟨S,hS,rfl⟩)) (λk S hk hS=> .go (EJ.2 hk) (.ip ⟨EI k,EJ.2 hk⟩ (.get (tn hk) λz hz' hz=> .srv ok vc (hm.2 z hz) λs _ _ _=> .br (λ_=> .ip ⟨EI k,EJ.2 hk⟩ (.get (tn hk) λz2 _ hz2=> .bind (TT ok vc id z2) λ_ _=> .br (λ_=> .ip ⟨EI k,EJ.2 hk⟩ (.get (tn hk) λz3 _ hz3=> .ip ⟨EI k,EJ.2 hk⟩ (.get (tn hk) λz4 _ hz4=> .srv ok vc (hm.2 z4 hz4) λt _ t2 _=> .bind (Vp t e t2) λu hu=> .at hS.1 (hm.2 z3 hz3) λ_ _ _=> .ret ⟨S.set z3.toNat u.1,by rw[kT hl hk],UL hS hu _⟩))) λ_=> .ret ⟨S,by rw[kT hl hk],hS⟩)) λ_=> .ret ⟨S,by rw[kT hl hk],hS⟩))) x.servers ⟨vc.len,ok.1.2⟩) ?_
 rintro _ ⟨S,hS,rfl⟩
 exact .ret ((Kp.self ok).srvs (by rw[hS.1,vc.len]) hS.2)
section
variable {x:qN} (ok:FS 1048576 x) (vc:VC x) (id:Int)
include ok vc
theorem Yy:Tt (λy=>y.1.length<=5/\ ∀z∈y.1,0<=z/\z<5) (Kq x id):=by
 obtain⟨c,d,c1,c2,c3⟩:=Vu x ok;obtain⟨r5,_,inr,_⟩:=c3 vc;have rm:c.replicas.length<=maxLen:=by unfold maxLen;omega
 unfold Kq;rw[c1,ak];refine .bind (.count (B:=J8) (E:=λe=>e.2.2.1.length<=5/\ ∀z∈e.2.2.1,0<=z/\z<5) c.replicas.length (λk (b:List Int)=>((id,(),(),(),d,(k:Int),()),(fx x,(c.epoch,c.primary,(),(),()),()),b,c.replicas,c.witnesses,())) (λk b=>b.length<=k/\ ∀z∈b,0<=z/\z<5) (λb hb=> .end (EK _) (.ret ⟨ba hb.1 r5,hb.2⟩)) (λk b hk hb=> ?_) [] ⟨az _,nofun⟩) λy hy=> .ret hy;have ex:b.length<=5/\ ∀z∈b,0<=z/\z<5:=⟨by omega,hb.2⟩
 have st:b.length<=k+1/\ ∀z∈b,0<=z/\z<5:=⟨by omega,hb.2⟩
 refine .go (EJ.2 hk) (.br (λ_=> .bind (K0 x ok) λ_ _=> .br (λ_=> ?_) λ_=> .ret ex) λ_=> .ret ex);rw[Gn,ak];refine .br (λ_=> .ip ⟨EI k,EJ.2 hk⟩ (.get (tn hk) λz _ hz=> .srv ok vc (inr z hz) λs _ _ _=> .br (λ_=> .br (λ_=> .ip ⟨EI k,EJ.2 hk⟩ (.get (tn hk) λz2 _ hz2=> .bind (TT ok vc id z2) λ_ _=> .br (λ_=> .ip ⟨EI k,EJ.2 hk⟩ (.get (tn hk) λz3 _ hz3=> .ip ?_ (.ret ⟨b++ [z3],by rw[kT rm hk],?_⟩))) λ_=> .ret ⟨b,by rw[kT rm hk],st⟩)) λ_=> .ret ⟨b,by rw[kT rm hk],st⟩) λ_=> .ret ⟨b,by rw[kT rm hk],st⟩)) λ_=> .ret ex
 ·show (b++ [z3]).length*8<=2 ^ 40;rw[be,cn];omega
 ·exact⟨by rw[be,cn];omega,λy hy=>(bi.1 hy).elim (hb.2 y) λh=>by rw[aJ.1 h];exact inr z3 hz3⟩
theorem aat:Tt (λy=>y.1= -1\/0<=y.1/\y.1<5) (Kf x id):=by
 unfold Kf;refine .bind (Yy ok vc id) λl hl=> ?_;have lm:l.1.length<=maxLen:=by have:=hl.1;unfold maxLen;omega
 refine .bind (.count (B:=J4) (E:=λe=>e.1.1= -1\/0<=e.1.1/\e.1.1<5) l.1.length (λk (b:Int)=>(((),b,(),(k:Int),()),(fx x,()),l.1,())) (λ_ b=>b= -1\/0<=b/\b<5) (λb hb=> .end (EK _) (.ret hb)) (λk b hk hb=> ?_) (-1) (.inl rfl)) λy hy=> .ret hy;refine .go (EJ.2 hk) (.br (λ_=> .ip ⟨EI k,EJ.2 hk⟩ (.get (tn hk) λz _ hz=> .ret ⟨z,by rw[kT lm hk],.inr (hl.2 z hz)⟩)) λhn=> .ip ⟨EI k,EJ.2 hk⟩ (.get (tn hk) λz _ hz=> .srv ok vc (hl.2 z hz) λs _ _ _=> .srv ok vc (a:=b) ?_ λt _ _ _=> .br (λ_=> .ip ⟨EI k,EJ.2 hk⟩ (.get (tn hk) λz2 _ hz2=> .ret ⟨z2,by rw[kT lm hk],.inr (hl.2 z2 hz2)⟩)) λ_=> .ret ⟨b,by rw[kT lm hk],hb⟩));have hn: ¬b<0:=of_decide_eq_false hn;omega
omit ok vc in
theorem WV(f:Int)(l:List sf)(hl:l.length<=maxLen):Tt (λy=>y.1=true->0<=f/\l.length<=3) (Nd f l):=by obtain⟨b,b1,b2⟩:=Ov hl;unfold Nd;rw[b1,ak];refine .br (λ_=> .br (λh=> ?_) λ_=> .ret nofun) λ_=> .ret nofun;have h: (l.length:Int)<=3:=of_decide_eq_true h;rw[Gn,ak];refine .br (λw=> ?_) λ_=> .ret nofun;have w:=Ft.1 w;exact .br (λ_=> .ret λ_=>⟨w.1,by omega⟩) λ_=> .ret λ_=>⟨w.1,by omega⟩
omit ok vc in
theorem aax(a:List sf)(f:Int)(t:List sf)(ha:a.length<=1048576)(ht:t.length<=1048576):Tt (λy=>y.1.length<=19) (Ma a f t):=by
 obtain⟨b,b1,b2⟩:=Ov (Fu ha);unfold Ma;rw[b1,ak,Fh];refine .br (λe=> ?_) λ_=> .ret (bH _);have h16:=b2 e;refine .bind (WV f t (Fu ht)) λg hg=> ?_;rw[Fh];refine .br (λe=> ?_) λ_=> .ret (bH _);obtain⟨f0,t3⟩:=hg e;refine .br (λ_=> .ret (bH _)) λhn=> ?_;have hn: ¬f>(a.length:Int):=of_decide_eq_false hn;obtain⟨n,n1,n2,n3,_⟩:=TV ((a.drop f.toNat).take ((a.length:Int).toNat-f.toNat)) t (ba (by rw[ci,bR];omega) (Fu ha));refine .ip (by omega) ?_;rw[n1,ak,of (n:=(a.length:Int)-f) (by omega) (by omega)];refine .br (λ_=> .ret (bH _)) λ_=> ?_;rw[Of ha,ak]
 have hl: (a++((t.drop (n:Int).toNat).take ((t.length:Int).toNat-(n:Int).toNat))).length<=19:=by rw[be,ci,bR];omega
 refine .ip (by omega) (.ip (ba (bg 56 hl) (by omega)) ?_);obtain⟨d,d1,_⟩:=Ov (l:=a++((t.drop (n:Int).toNat).take ((t.length:Int).toNat-(n:Int).toNat))) (by unfold maxLen;omega);rw[show Gp _=_ from d1,ak,Fh];exact .br (λ_=> .ret hl) λ_=> .ret (bH _)
omit ok vc in
theorem aas(s:qQ)(id:Int)(h:F1 1048576 s)(hf:0<=s.first/\s.first<=16/\s.log.length<=16):Tt (λy=>y.1.length<=1048576) (Ng s id):=by obtain⟨n,n1,_⟩:=M6 s.config id (Fl h.1);unfold Ng;rw[n1,ak,Of h.2.2,ak];have fm:Tt (λy:List sf×Unit=>y.1.length<=1048576) ((FZ s).bind λy3=>br (decide ((y3.1.length:Int)>(s.learned.length:Int))) (some (y3.1,())) (some (s.learned,()))):=.bind (Pz s h hf) λy hy=> .br (λ_=> .ret (by show y.1.length<=_;omega)) λ_=> .ret h.2.2;exact .br (λ_=>fm) λ_=> .br (λ_=>fm) λ_=> .ret h.2.2
theorem aao{c:om}{w:qQ}(hw:F1 1048576 w)(j:Int)(d:Bool)(b:List sf×Bool)(hb:b.1.length<=19):Tt (λe=> ∃r:List sf×Bool,r.1.length<=19/\e=((id,(),(),r.2,(),d,j,()),(fx x,(c.epoch,c.primary,(),(),()),()),r.1,c.replicas,c.witnesses,())) (N3 ((id,(),(),b.2,(),d,j,(),0,()),(fx x,(c.epoch,c.primary,(),(),()),fsv w,()),b.1,c.replicas,c.witnesses,())):=by
 refine .count (B:=JD) (E:=λe=> ∃r:List sf×Bool,r.1.length<=19/\e=((id,(),(),r.2,(),d,j,()),(fx x,(c.epoch,c.primary,(),(),()),()),r.1,c.replicas,c.witnesses,())) 5 (λk (b:List sf×Bool)=>((id,(),(),b.2,(),d,j,(),(k:Int),()),(fx x,(c.epoch,c.primary,(),(),()),fsv w,()),b.1,c.replicas,c.witnesses,())) (λ_ b=>b.1.length<=19) (λb hb=> .end (EK _) (.ret ⟨b,hb,rfl⟩)) (λk b hk hb=> ?_) b hb;have hkk:0<=(k:Int)/\(k:Int)<5:=⟨EI k,EJ.2 hk⟩
 have sw:=kT (n:=5) (by decide) hk;refine .go hkk.2 (.srv ok vc hkk λs _ _ _=> ?_);dsimp only;rw[sw,Fh];refine .br (λ_=> .bind (TT ok vc id k) λy _=> ?_) λ_=> .ret ⟨b,rfl,hb⟩;rw[Fh];refine .br (λ_=> .srv ok vc hkk λt _ t2 t3=> .bind (aas t k t2 (UN t2 t3)) λy hy=> .bind (aax y.1 w.first w.log hy hw.2.1) λz hz=> .br (λ_=> ?_) λ_=> .ret ⟨b,rfl,hb⟩) λ_=> .ret ⟨b,rfl,hb⟩;rw[Fh];exact .br (λ_=> .br (λ_=> .ret ⟨(z.1,true),rfl,hz⟩) λ_=> .ret ⟨b,rfl,hb⟩) λ_=> .ret ⟨(z.1,true),rfl,hz⟩
theorem YC:Tt (λy=>y.1.length<=19) (Kr x id):=by
 obtain⟨c,d,c1,c2,c3⟩:=Vu x ok;obtain⟨_,r5,_,inw,_⟩:=c3 vc;have rm:c.witnesses.length<=maxLen:=by unfold maxLen;omega
 unfold Kr;rw[c1,ak];refine .bind (.count (B:=J9) (E:=λe=>e.2.2.1.length<=19) c.witnesses.length (λk (b:List sf×Bool)=>((id,(),(),b.2,(),d,(k:Int),()),(fx x,(c.epoch,c.primary,(),(),()),()),b.1,c.replicas,c.witnesses,())) (λ_ b=>b.1.length<=19) (λb hb=> .end (EK _) (.ret hb)) (λk b hk hb=> ?_) ([],false) (bH _)) λy hy=> .ret hy;refine .go (EJ.2 hk) (.br (λ_=> .bind (K0 x ok) λ_ _=> .br (λ_=> ?_) λ_=> .ret hb) λ_=> .ret hb);rw[Gn,ak];refine .br (λ_=> .ip ⟨EI k,EJ.2 hk⟩ (.get (tn hk) λz _ hz=> .srv ok vc (inw z hz) λs _ s2 _=> ?_)) λ_=> .ret hb;have sw:=kT rm hk;rw[Fh];refine .br (λ_=> ?_) λ_=> .ret ⟨b,by rw[sw],hb⟩;rw[Fh];refine .br (λ_=> .ip ⟨EI k,EJ.2 hk⟩ (.get (tn hk) λz2 _ _=> .bind (TT ok vc id z2) λy _=> ?_)) λ_=> .ret ⟨b,by rw[sw],hb⟩;rw[Fh];refine .br (λ_=> .bind (aao ok vc id (c:=c) s2 k d b hb) ?_) λ_=> .ret ⟨b,by rw[sw],hb⟩
 rintro _ ⟨r,hr,rfl⟩
 exact .ret ⟨r,by rw[<-sw],hr⟩
theorem Zd:Tt (λy=>y.1.length<=1048576) (Ln x id):=by unfold Ln;refine .bind (K0 x ok) λv _=> ?_;rw[Fh];refine .br (λ_=> ?_) λ_=> .ret (bH _);rw[Gn,ak,Fh];refine .br (λ_=> .br (λ_=> .ret (bH _)) λ_=> .bind (aat ok vc id) λn hn=> .br (λh=> ?_) λ_=> .bind (YC ok vc id) λy hy=> .ret (by show y.1.length<=_;omega)) λ_=> .ret (bH _);have h:n.1≥0:=of_decide_eq_true h;refine .srv ok vc (by omega) λs _ s2 _=> ?_;rw[Of s2.2.1];exact .ret s2.2.1
end
theorem RN(l:List sf)(hl:l.length<=maxLen):Tt T1 (Hk l):=by unfold Hk;refine .bind (.count (B:=Jb) (E:=λ_=>True) l.length (λk (_:Unit)=>((l,(k:Int),()),(),())) (λ_ _=>True) (λ_ _=> .end (EK _) (.ret trivial)) (λk _ hk _=> .go (EJ.2 hk) (.ip (EI k) (.get (tn hk) λe _ _=> .bind (Q:=T1) (by unfold IJ;exact .ret trivial) λ_ _=> .br (λ_=> .ret trivial) λ_=> .ret ⟨(),by rw[kT hl hk],trivial⟩))) () trivial) λy _=> ?_;cases y<;>exact .ret trivial
theorem UW(s:qQ)(c:om)(id:Int)(l:List sf)(hs:F1 1048576 s)(hc:GQ 1048576 c)(hl:l.length<=1048576):Tt (λy=>F1 1048576 y.1) (Hw s c id l):=by
 obtain⟨n,n1,_⟩:=M6 c id (Fl hc);obtain⟨b,b1,_⟩:=Ov (Fu hl);obtain⟨e,e1,_⟩:=Np l (Fu hl);unfold Hw;simp only[n1,b1,e1,(PV s hs).1,(OZ c hc).1,Of hl,Gn,ak,Fh,Vz l hl];have hk:cutAt l<=l.length:=Nat.sub_le _ _
 have hl2: ((l.drop (cutAt l)).take ((l.length:Int).toNat-cutAt l)).length<=1048576:=by rw[ci,bR];omega
 refine .br (λ_=> .ret hs) λ_=> .br (λ_=> .br (λ_=> .br (λ_=> .br (λ_=> .ret hs) λ_=> .br (λ_=> .bind (RN l (Fu hl)) λ_ _=> .br (λ_=> .ret hs) λ_=> ?_) λ_=> ?_) λ_=> .ret hs) λ_=> .ret hs) λ_=> .ret hs
 all_goals
  exact .br (λ_=> .ip (by omega) (.bind (Q:=λy=>y.1.length<=1048576) ⟨_,Of hl2,hl2⟩ λy hy=> .ret ⟨hc,hy,bH _⟩)) λ_=> .ret ⟨hc,hl,bH _⟩
theorem RP(m:kB)(h:MI 1048576 m)(e:Int):Tt (λy=>MI 1048576 y.1/\y.1.configs.length=m.configs.length) (Hc m e):=by obtain⟨b,b1,_⟩:=masterLog m (Jh h);unfold Hc;rw[(TX m h).1,ak,b1,ak,Fh];refine .br (λ_=> ?_) λ_=> .ret ⟨h,rfl⟩;rw[Fh];exact .br (λ_=> .br (λ_=> .ret ⟨h,rfl⟩) λ_=> .ret ⟨h,rfl⟩) λ_=> .ret ⟨h,rfl⟩
theorem Qu(x:qN)(ok:FS 1048576 x):Tt (λy=>Kp x y.1) (JL x):=by
 obtain⟨c,b,c1,c2,c3⟩:=Wn x ok (x.master.configs.length:Int);unfold JL LQ;rw[(GM x ok).1,ak,c1,ak,ak];refine .bind (K0 x ok) λv hv=> ?_;rw[Fh];refine .br (λh=> ?_) λ_=> .ret (.self ok);have vc:=hv h;rw[Fh];refine .br (λhb=> .br (λ_=> .ret (.self ok)) λ_=> .br (λ_=> .ret (.self ok)) λ_=> ?_) λ_=> .ret (.self ok);obtain⟨r5,w5,_,_,hp,_⟩:=c3 vc;have hp:=(hp hb).2;have hc:GQ 1048576 c:=⟨by omega,by omega⟩
 have s5:=Ly (Fu ok.2.1) vc.sides;refine .srv ok vc hp λs _ _ _=> ?_;rw[Fh];refine .br (λ_=> .ip hp.1 (.get (by show c.primary.toNat<x.sides.length;omega) λsd _ _=> ?_)) λ_=> .ret (.self ok);rw[Fh];refine .br (λ_=> ?_) λ_=> .ret (.self ok);obtain⟨o,o1,_⟩:=Q6 x.lease x.now;rw[o1,ak,Fh];refine .br (λ_=> .bind (aaI x ok c.primary c.epoch) λy hy=> .bind (Zd ok vc c.primary) λl hl=> ?_) λ_=> .ret (.self ok);rw[Fh];refine .br (λ_=> .bind (Jy c c2) λm hm=> ?_) λ_=> .ret hy;have ml:m.1.length<=maxLen:=by have:=hm.1;unfold maxLen;omega
 have hyS:y.1.servers.length=5/\ ∀s∈y.1.servers,F1 1048576 s:=⟨hy.2.trans vc.len,hy.1.1.2⟩
 refine .bind (.count (B:=K2) (E:=Sum.elim (λe=> ∃n:Int,e=(((),(),n,(),(),(),(),()),(fx x,fc y.1,(fc y.1,(c.epoch,c.primary,(),(),()),())),l.1,m.1,y.1.servers,y.1.sides,y.1.master.configs,y.1.places,c.replicas,c.witnesses,())) λe=>e.2=((fx x,fz,fc y.1,(c.epoch,c.primary,(),(),()),()),l.1,m.1,y.1.servers,y.1.sides,y.1.master.configs,y.1.places,c.replicas,c.witnesses,())) m.1.length (λk (_:Unit)=>(((),(),(),(),(),(),(k:Int),()),(fx x,fz,fc y.1,(c.epoch,c.primary,(),(),()),()),l.1,m.1,y.1.servers,y.1.sides,y.1.master.configs,y.1.places,c.replicas,c.witnesses,())) (λ_ _=>True) (λ_ _=> .end (EK _) (.ret rfl)) (λk _ hk _=> ?_) () trivial) λe he=> ?_
 ·refine .go (EJ.2 hk) (.ip ⟨EI k,EJ.2 hk⟩ (.get (tn hk) λz _ hz=> .srv ok vc (hm.2 z hz) λs _ _ _=> ?_));rw[Fh];refine .br (λ_=> .ip ⟨EI k,EJ.2 hk⟩ (.get (tn hk) λz2 _ hz2=> .ip (hm.2 z2 hz2).1 (.get (by have:=hm.2 z2 hz2;show z2.toNat<x.sides.length;omega) λw _ _=> ?_))) λ_=> .ret ⟨_,rfl⟩;rw[Fh];exact .br (λ_=> .ret ⟨(),by rw[kT ml hk],trivial⟩) λ_=> .ret ⟨_,rfl⟩
 cases e with
 |inl e=>obtain⟨n,rfl⟩:=he;exact .ret hy
 |inr e=>
  show Tt _ ((Pk (((),(),(),(),(),(),0,()),e.2)).bind _);rw[show e.2=_ from he];refine .bind (.count (B:=K3) (E:=Sum.elim (λe=> ∃n:Int,e=(((),(),n,(),(),(),(),()),(fx x,fc y.1,(fc y.1,(c.epoch,c.primary,(),(),()),())),l.1,m.1,y.1.servers,y.1.sides,y.1.master.configs,y.1.places,c.replicas,c.witnesses,())) λe=>e.2=((fx x,fz,fc y.1,(c.epoch,c.primary,(),(),()),()),l.1,m.1,y.1.servers,y.1.sides,y.1.master.configs,y.1.places,c.replicas,c.witnesses,())) m.1.length (λk (_:Unit)=>(((),(),(),(),(),(),(k:Int),()),(fx x,fz,fc y.1,(c.epoch,c.primary,(),(),()),()),l.1,m.1,y.1.servers,y.1.sides,y.1.master.configs,y.1.places,c.replicas,c.witnesses,())) (λ_ _=>True) (λ_ _=> .end (EK _) (.ret rfl)) (λk _ hk _=> .go (EJ.2 hk) (.ip ⟨EI k,EJ.2 hk⟩ (.get (tn hk) λz _ hz=> .srv ok vc (hm.2 z hz) λs _ _ _=> .br (λ_=> .bind (RN l.1 (Fu hl)) λ_ _=> .br (λ_=> .ret ⟨_,rfl⟩) λ_=> .ret ⟨(),by rw[kT ml hk],trivial⟩) λ_=> .ret ⟨(),by rw[kT ml hk],trivial⟩))) () trivial) λe he=> ?_;cases e with
  |inl e=>obtain⟨n,rfl⟩:=he;exact .ret hy
  |inr e=>
   show Tt _ ((Pm (((),(),(),(),(),(),0,()),e.2)).bind _);rw[show e.2=_ from he];refine .bind (.count (B:=K4) (E:=λe=> ∃S:List qQ,(S.length=5/\ ∀s∈S,F1 1048576 s)/\e=(((),(),(),(),()),(fx x,fz,fc y.1,(c.epoch,c.primary,(),(),()),()),S,y.1.sides,y.1.master.configs,y.1.places,c.replicas,c.witnesses,())) m.1.length (λk (S:List qQ)=>(((),(),(),(),(),(),(k:Int),()),(fx x,fz,fc y.1,(c.epoch,c.primary,(),(),()),()),l.1,m.1,S,y.1.sides,y.1.master.configs,y.1.places,c.replicas,c.witnesses,())) (λ_ S=>S.length=5/\ ∀s∈S,F1 1048576 s) (λS hS=> .end (EK _) (.ret ⟨S,hS,rfl⟩)) (λk S hk hS=> ?_) y.1.servers hyS) ?_
   ·refine .go (EJ.2 hk) (.ip ⟨EI k,EJ.2 hk⟩ (.get (tn hk) λz _ hz=> .ip ⟨EI k,EJ.2 hk⟩ (.get (tn hk) λz2 _ hz2=> .at hS.1 (hm.2 z2 hz2) λs e' hs=> .ip ⟨EI k,EJ.2 hk⟩ (.get (tn hk) λz3 _ _=> ?_))));dsimp only;simp only[e',ak,cF,EM,aM];refine .ip (az _) (.ip (az _) (.ip (az _) (.ip (az _) (.bind (UW s c z3 l.1 (hS.2 s hs) hc hl) λu hu=> .at hS.1 (hm.2 z hz) λ_ _ _=> .ret ⟨S.set z.toNat u.1,by rw[kT ml hk],UL hS hu _⟩))))
   ·rintro _ ⟨S,hS,rfl⟩
    refine .bind (RP x.master ok.2.2.1 c.epoch) λw hw=> .ret ?_;exact⟨⟨⟨by show S.length<=_;rw[hS.1];decide,hS.2⟩,hy.1.2.1,hw.1,hy.1.2.2.2⟩,by show S.length=_;rw[hS.1,vc.len]⟩
end
section
theorem Rk(m:kB)(h:MI 1048576 m)(c:om)(hc:GQ 1048576 c):Tt (λy=>MI 1048576 y.1/\y.1.configs.length<=m.configs.length+1) (Hx m c):=by
 have self:MI 1048576 m/\m.configs.length<=m.configs.length+1:=⟨h,cM _⟩
 obtain⟨b,b1,_⟩:=masterLog m (Jh h);obtain⟨d,d1,_⟩:=Ig c (Fl hc);unfold Hx;rw[(TX m h).1,ak,b1,ak,Fh];refine .br (λe=> ?_) λ_=> .ret self;subst e;have hl:=aaB h b1;rw[d1,ak,Fh];refine .br (λ_=> ?_) λ_=> .ret self;rw[Fh];refine .br (λ_=> ?_) λ_=> .ret self;rw[(OZ c hc).1,ak];have h2: (m.configs++ [c]).length<=21:=by rw[be,cn];omega
 exact .ip (ba (bg 64 h2) (by omega)) (.ret ⟨⟨ba h2 (by omega),λd hd=>(bi.1 hd).elim (h.2 d) λe=>by rw[aJ.1 e];exact hc⟩,by show (m.configs++ [c]).length<=_;rw[be];exact az _⟩)
theorem QL(x:qN)(ok:FS 1048576 x)(c:om)(hc:GQ 1048576 c):Tt (λy=>Kp x y.1) (HL x c):=by unfold HL;rw[(GM x ok).1,ak];refine .bind (K0 x ok) λv _=> ?_;rw[Fh];refine .br (λ_=> .br (λ_=> .ret (.self ok)) λ_=> .bind (Rk x.master ok.2.2.1 c hc) λm hm=> ?_) λ_=> .ret (.self ok);rw[Fh];exact .br (λ_=> .ret ⟨⟨ok.1,ok.2.1,hm.1,ok.2.2.2⟩,rfl⟩) λ_=> .ret (.self ok)
theorem ZX(x:qN)(ok:FS 1048576 x)(n:Int):Tt (λy=>Kp x y.1) (KM x n):=by unfold KM;rw[(GM x ok).1,ak];refine .bind (K0 x ok) λv _=> ?_;rw[Fh];refine .br (λ_=> ?_) λ_=> .ret (.self ok);rw[Gn,ak,Fh];exact .br (λ_=> .ret ⟨ok,rfl⟩) λ_=> .ret (.self ok)
theorem Zi(x:qN)(ok:FS 1048576 x)(id:Int):Tt (λy=>y.1=true->VC x/\0<=id/\id<5) (IL x id):=by obtain⟨b,b1,_,b2⟩:=TZ x id ok;exact⟨_,b1,λe=>⟨Gl ok (b2 e).1,(b2 e).2⟩⟩
theorem YA(x:qN)(ok:FS 1048576 x)(id:Int):Tt (λy=>Kp x y.1) (Iw x id):=by unfold Iw;rw[(GM x ok).1,ak];refine .bind (Zi x ok id) λv hv=> ?_;rw[Fh];refine .br (λe=> ?_) λ_=> .ret (.self ok);obtain⟨vc,hid⟩:=hv e;refine .srv ok vc hid λs _ _ _=> .br (λ_=> .ret (.self ok)) λ_=> .srv ok vc hid λt _ _ _=> ?_;rw[Fh];exact .br (λ_=> .at vc.len hid λu _ hu=> .ret ((Kp.self ok).set (s:=⟨u.up,u.intact,2,u.epoch,u.config,u.first,u.log,u.commit,u.learned⟩) (ok.1.2 u hu) _)) λ_=> .ret (.self ok)
theorem VB(x:qN)(ok:FS 1048576 x)(id:Int):Tt (λy=>Kp x y.1) (HD x id):=by
 unfold HD;rw[(GM x ok).1,ak];refine .bind (Zi x ok id) λv hv=> ?_;rw[Fh];refine .br (λe=> ?_) λ_=> .ret (.self ok);obtain⟨vc,hid⟩:=hv e;refine .srv ok vc hid λs _ _ _=> .br (λ_=> .ret (.self ok)) λ_=> .srv ok vc hid λt _ _ _=> ?_;rw[Fh];refine .br (λ_=> .srv ok vc hid λs _ s2 _=> .bind (Q:=T1) ?_ λ_ _=> .br (λ_=> .ret (.self ok)) λ_=> .bind (.count (B:=HA) (E:=Sum.elim (λe=> ∃n:Int,e=((id,(),n,(),()),(fc x,fc x,()),x.servers,x.sides,x.master.configs,x.places,())) λe=>e=((id,(),(),(),()),(fz,fc x,()),x.servers,x.sides,x.master.configs,x.places,())) x.servers.length (λk (_:Unit)=>((id,(),(),(),(),(k:Int),()),(fx x,fz,fc x,fsv s,()),x.servers,x.sides,x.master.configs,x.places,())) (λ_ _=>True) (λ_ _=> .end (EK _) (.ret rfl)) (λk _ hk _=> ?_) () trivial) λe he=> ?_) λ_=> .ret (.self ok)
 ·unfold H2;exact .bind (RN _ (Fu s2.2.2)) λ_ _=> .ret trivial
 ·have sw:=kT (Fu ok.1.1) hk;refine .go (EJ.2 hk) ?_;rw[show IK _=_ from O6 s.config (Fl s2.1),ak,Fh];refine .br (λ_=> .ret rfl) λ_=> .ip (EI k) (.get (tn hk) λt _ ht=> ?_);have ht:=ok.1.2 t ht;rw[show Gv _ _=_ from (Gk t.config s.config (Fl ht.1)).1,ak];refine .br (λ_=> .ip (EI k) (.get (tn hk) λu _ hu=> .bind (Q:=T1) ?_ λ_ _=> .br (λ_=> .ret ⟨_,rfl⟩) λ_=> .ret ⟨(),by rw[sw],trivial⟩)) λ_=> .ret ⟨(),by rw[sw],trivial⟩;unfold H2;exact .bind (RN _ (Fu (ok.1.2 u hu).2.1)) λ_ _=> .ret trivial
 cases e with
 |inl e=>obtain⟨n,rfl⟩:=he;exact .ret (.self ok)
 |inr e=>obtain rfl:=he;exact .at vc.len hid λu _ hu=> .ret ((Kp.self ok).set (s:=⟨u.up,u.intact,1,u.epoch,u.config,u.first,u.log,u.commit,u.learned⟩) (ok.1.2 u hu) _)
theorem Yr(x:qN)(ok:FS 1048576 x):Tt T1 (H4 x):=by
 obtain⟨c,b,c1,c2,c3⟩:=Vu x ok;unfold H4;rw[c1,ak];refine .bind (K0 x ok) λv hv=> ?_;rw[Fh];refine .br (λh=> ?_) λ_=> .ret trivial;have vc:=hv h;rw[Fh];refine .br (λhb=> ?_) λ_=> .ret trivial;obtain⟨_,_,_,_,hp,_⟩:=c3 vc;have hp:=(hp hb).2;refine .srv ok vc hp λs _ s2 _=> ?_;obtain⟨d,d1,_⟩:=KZ s c.primary s2;rw[d1,ak,Fh];refine .br (λ_=> .srv ok vc hp λt _ _ _=> ?_) λ_=> .ret trivial;rw[Fh];refine .br (λ_=> .bind (Jy c c2) λm hm=> .bind (.count (B:=Ik) (E:=λ_=>True) m.1.length (λk (_:Unit)=>(((),(),(),(k:Int),()),(fx x,(c.epoch,c.primary,(),(),()),()),m.1,c.replicas,c.witnesses,())) (λ_ _=>True) (λ_ _=> .end (EK _) (.ret trivial)) (λk _ hk _=> .go (EJ.2 hk) (.ip ⟨EI k,EJ.2 hk⟩ (.get (tn hk) λz _ hz=> .bind (XE ok vc hp (hm.2 z hz)) λy _=> ?_))) () trivial) λe _=> ?_) λ_=> .ret trivial
 ·rw[Fh];exact .br (λ_=> .ret ⟨(),by rw[kT (by have:=hm.1;unfold maxLen;omega) hk],trivial⟩) λ_=> .ret trivial
 ·cases e<;>exact .ret trivial
theorem Ws(x:qN)(ok:FS 1048576 x):Tt T1 (JW x):=by unfold JW;exact .bind (Yr x ok) λ_ _=> .ret trivial
section
variable {l:List vB} (hl:l.length<=maxLen) (hv:FQ l=some (true,()))
include hl hv
theorem aal(m:List Int)(hm:MG m):Tt (λy=>y.1.length<=5) (Nc l m):=by have h5:=QJ hl hv;have ml:=hm.len;unfold Nc;refine .bind (.count (B:=MJ) (E:=λe=>e.2.2.1.length<=5) m.length (λk (b:List Int)=>((l,m,(),(k:Int),()),(),b,())) (λk b=>b.length<=k/\SS b) (λb hb=> .end (EK _) (.ret (ba hb.1 ml))) (λk b hk hb=> ?_) [] ⟨az _,List.Pairwise.nil⟩) λy hy=> .ret hy;refine .go (EJ.2 hk) ?_;dsimp only;rw[hv,ak,(OY hm).1,ak];refine .br (λ_=> .br (λ_=> .ip (EI k) (.get (tn hk) λz _ hz=> .ip (K1 hm z hz).1 (.get (by have:=K1 hm z hz;omega) λp _ _=> ?_))) (λh=>by cases h)) (λh=>by cases h);obtain⟨r,r1,r2,_,r4,_⟩:=Y9 b p.rack (by omega) hb.2;rw[r1,ak];exact .ret ⟨r,by rw[kT (by unfold maxLen;omega) hk],by omega,r2⟩
theorem aaH(i:Int):Tt T1 (Nb l i):=by have h5:=QJ hl hv;unfold Nb;rw[hv,ak,Gn,ak];refine .br (λ_=> .br (λh=> ?_) λ_=> .ret trivial) λ_=> .ret trivial;have h:=Ft.1 h;exact .ip h.1 (.get (by omega) λ_ _ _=> .ip h.1 (.get (by omega) λ_ _ _=> .ret trivial))
theorem YE(r:List Int)(hr:r.length<=5){a b:Int}(ha:0<=a/\a<5)(hb:0<=b/\b<5):Tt T1 (Mi l r a b):=by
 have h5:=QJ hl hv;have rm:r.length<=maxLen:=by unfold maxLen;omega
 unfold Mi;refine .ip ha.1 (.get (by omega) λp _ _=> ?_);rw[(FD r p.rack rm).1,ak];refine .ip hb.1 (.get (by omega) λq _ _=> ?_);rw[(FD r q.rack rm).1,ak,Fh];exact .br (λ_=> .ip ha.1 (.get (by omega) λ_ _ _=> .ip hb.1 (.get (by omega) λ_ _ _=> .ret trivial))) λ_=> .ret trivial
theorem Yz(m d:List Int)(hm:MG m)(hd:d.length<=maxLen):Tt (λy=>y.1= -1\/(0<=y.1/\y.1<5/\y.1∉m)) (JY l m d):=by
 have ml:m.length<=maxLen:=by have:=hm.len;unfold maxLen;omega
 unfold JY;refine .bind (aal hl hv m hm) λr hr=> .bind (.count (B:=K7) (E:=λe=>e.1.1= -1\/(0<=e.1.1/\e.1.1<5/\e.1.1∉m)) 5 (λk (b:Int)=>((l,m,d,b,(),(k:Int),()),(),r.1,())) (λ_ b=>b= -1\/(0<=b/\b<5/\b∉m)) (λb hb=> .end (EK _) (.ret hb)) (λk b hk hb=> ?_) (-1) (.inl rfl)) λy hy=> .ret hy;have hkk:0<=(k:Int)/\(k:Int)<5:=⟨EI k,EJ.2 hk⟩
 refine .go hkk.2 ?_;dsimp only;rw[(OY hm).1,ak,kT (n:=5) (by decide) hk];refine .br (λ_=> .bind (aaH hl hv k) λy _=> ?_) (λh=>by cases h);rw[Fh,(FD m k ml).1,(FD d k hd).1];refine .br (λ_=> .br (λ_=> .ret ⟨b,rfl,hb⟩) λhn=> .br (λ_=> .ret ⟨b,rfl,hb⟩) λ_=> ?_) λ_=> .ret ⟨b,rfl,hb⟩;have hn: (k:Int)∉m:=of_decide_eq_false hn;refine .br (λ_=> .ret ⟨(k:Int),rfl,.inr ⟨hkk.1,hkk.2,hn⟩⟩) λh0=> ?_;have h0: ¬b<0:=of_decide_eq_false h0;exact .bind (YE hl hv r.1 hr hkk (by omega)) λ_ _=> .br (λ_=> .ret ⟨(k:Int),rfl,.inr ⟨hkk.1,hkk.2,hn⟩⟩) λ_=> .ret ⟨b,rfl,hb⟩
omit hv in
theorem aaD(m a:List Int)(hm:MG m)(ha:MG a)(want:Int):Tt (λy=>MG y.1) (Jq l m a want):=by
 have am:a.length<=maxLen:=by have:=ha.len;unfold maxLen;omega
 obtain⟨v,v1,_⟩:=M7 l hl;have nil:MG [] :=λk hk=>by simp at hk
 unfold Jq;rw[Qs m a hm am,SU _ a Wl am,ak,ak,v1,ak,Fh,(OY hm).1,(OY ha).1];refine .br (λe=> .br (λh=>by cases h) λ_=> .br (λh=>by cases h) λ_=> ?_) λ_=> .ret nil;subst e;rw[Gn,ak,Fh];refine .br (λ_=> ?_) λ_=> .ret nil;have dl:=(Wl.filter λx=> !decide (x∈a)).len;have dm: (([0,1,2,3,4]:List Int).filter λx=> !decide (x∈a)).length<=maxLen:=by unfold maxLen;omega
 generalize ([0,1,2,3,4]:List Int).filter (λx=> !decide (x∈a))=dead at dm;refine .bind (.loop (B:=JB) (E:=Sum.elim (λe=>MG e.2.2.1) λe=>MG e.2.2.1) (λs=> ∃out:List Int,s=((l,want,(),(),()),(),out,dead,())/\MG out) (λs=>(want-s.2.2.1.length).toNat) ?_ ⟨_,rfl,hm.filter _⟩) λy hy=> ?_
 ·rintro _ ⟨out,rfl,ho⟩
  have ol:=ho.len;refine .br (λc=> ?_) λ_=> .ret ho;have c: (out.length:Int)<want:=of_decide_eq_true c;refine .bind (Yz hl v1 out dead ho dm) λn hn=> .br (λ_=> .ret ho) λh=> ?_;have h: ¬n.1<0:=of_decide_eq_false h
  obtain⟨n0,n5,nm⟩:0<=n.1/\n.1<5/\n.1∉out:=by
   rcases hn with h'|h'
   ·omega
   ·exact h'
  obtain⟨r,r1,r2,r3,_,r5⟩:=Y9 out n.1 (by omega) ho.pair;rw[show HQ _ _=_ from r1,ak];refine .ret ⟨⟨r,rfl,Oe r2 λy hy=>((r3 y).1 hy).elim (λe=>by rw[e];exact⟨n0,n5⟩) (K1 ho y)⟩,?_⟩;show (want-(r.length:Int)).toNat< (want-(out.length:Int)).toNat;have:=r5 nm;omega
 ·cases y with
  |inl y=>exact .ret hy
  |inr y=>exact .ret hy
end
theorem ZU(x:qN)(ok:FS 1048576 x)(want wit:Int):Tt (λy=>GQ 1048576 y.1) (Jf x want wit):=by
 have zero:GQ 1048576 ⟨0,0,[],[]⟩:=⟨bH _,bH _⟩
 obtain⟨v,v1,_⟩:=HI x ok;unfold Jf;rw[v1,ak,Fh];refine .br (λe=> ?_) λ_=> .ret zero;subst e;have vc:=Gl ok v1;rw[Gn,ak,Fh];refine .br (λ_=> ?_) λ_=> .ret zero;rw[Gn,ak,Fh];refine .br (λ_=> .br (λ_=> .ret zero) λ_=> ?_) λ_=> .ret zero;obtain⟨c,b,c1,c2,c3⟩:=Vu x ok;obtain⟨r5,w5,inr,_,_,rasc⟩:=c3 vc;have rm:c.replicas.length<=maxLen:=by unfold maxLen;omega
 rw[aaq x ok v1,ak,c1,ak];have up:=Wq (TU x) (n:=5) (by omega);generalize P2 (TU x) 5=u at up;have um:u.length<=maxLen:=by have:=up.len;unfold maxLen;omega
 refine .bind (.count (B:=J7) (E:=λe=> ∃have':List Int,MG have'/\e=((want,wit,(),(),(),(),(),()),(fx x,(0,0,(),(),()),(c.epoch,c.primary,(),(),()),()),u,have',c.replicas,c.witnesses,())) c.replicas.length (λk (b:List Int)=>((want,wit,(),(),(),(),(),(k:Int),()),(fx x,(0,0,(),(),()),(c.epoch,c.primary,(),(),()),()),u,b,c.replicas,c.witnesses,())) (λk b=>b.Sublist (c.replicas.take k)) (λb hb=> .end (EK _) (.ret ⟨b,?_,rfl⟩)) (λk b hk hb=> ?_) [] (List.nil_sublist _)) ?_
 ·rw[EM] at hb;exact Oe (rasc.pair.sublist hb) λy hy=>inr y (hb.subset hy)
 ·have sw:=kT rm hk;have st:b.Sublist (c.replicas.take (k+1)):=hb.trans (List.take_sublist_take_left (cM k));refine .go (EJ.2 hk) (.ip ⟨EI k,EJ.2 hk⟩ (.get (tn hk) λz _ hz=> ?_));rw[show FK _ _=_ from (FD u z um).1,ak];refine .br (λ_=> .ip ⟨EI k,EJ.2 hk⟩ (.get (tn hk) λz2 _ hz2=> .srv ok vc (inr z2 hz2) λs _ _ _=> .br (λ_=> .ip ⟨EI k,EJ.2 hk⟩ (.get (tn hk) λz3 e3 _=> ?_)) λ_=> .ret ⟨b,by rw[sw],st⟩)) λ_=> .ret ⟨b,by rw[sw],st⟩;have e3:c.replicas[k]? =some z3:=e3
  have h2: (b++ [z3]).Sublist (c.replicas.take (k+1)):=by rw[EO,e3];exact hb.append (List.Sublist.refl _)
  have h3:=h2.length_le;rw[ci] at h3;exact .ip (by show (b++ [z3]).length*8<=2 ^ 40;omega) (.ret ⟨b++ [z3],by rw[sw],h2⟩)
 ·rintro _ ⟨hv,ha,rfl⟩
  refine .bind (aaD (Fu ok.2.2.2) hv u ha up want) λp hp=> .br (λ_=> .ret zero) λh0=> ?_;have pl:=hp.len
  have p0:0<p.1.length:=by
   rcases bu p.1.length with h|h
   ·rw[h] at h0;cases h0
   ·exact h
  refine .ip ⟨c9 _,EJ.2 p0⟩ (.get p0 λq _ _=> ?_);rw[show FK _ _=_ from (FD p.1 c.primary (by unfold maxLen;omega)).1,ak];have fm: ∀w:List Int,w.length<=1-> ∀ (e p':Int) (d:Bool),Tt (λy:om×Bool×Unit=>GQ 1048576 y.1) (some (⟨e,p',p.1,w⟩,d,())):=λw hw _ _ _=> .ret ⟨by show p.1.length<=_;omega,by show w.length<=_;omega⟩
  extract_lets j43
  have h43: ∀p',Tt (λy=>GQ 1048576 y.1) (j43 p'):=λp'=>by unfold j43;refine .br (λ_=> ?_) λ_=>fm [] (by decide) _ _ _;rw[show F3 _ _=_ from SU _ u Wl um,ak];refine .bind (Yz (Fu ok.2.2.2) vc.places p.1 _ hp ?_) λ_ _=> .br (λ_=>fm [_] (az 1) _ _ _) λ_=>fm [] (by decide) _ _ _;have:=(Wl.filter λx=> !decide (x∈u)).len;exact ba this (by unfold maxLen;omega)
  refine .br (λ_=> ?_) λ_=>h43 _;rw[show IK _=_ from O6 c c2,ak];exact .br (λ_=>h43 _) λ_=>h43 _
theorem Yn(x:qN)(ok:FS 1048576 x)(id t:Int):Tt (λy=>Kp x y.1) (Jg x id t):=by obtain⟨n,n1,n2⟩:=Vq x ok id;unfold Jg;rw[(GM x ok).1,ak,n1,ak,Fh];refine .br (λe=> ?_) λ_=> .ret (.self ok);obtain⟨hv,h0,h5⟩:=n2 (eq_of_beq e);have vc:=Gl ok hv;have s5:=Ly (Fu ok.2.1) vc.sides;refine .srv ok vc ⟨h0,h5⟩ λs _ s2 _=> ?_;obtain⟨b,b1,_⟩:=KZ s id s2;rw[b1,ak,Fh];refine .br (λ_=> .br (λ_=> .ret (.self ok)) λ_=> .ip h0 (.get (by omega) λ_ _ _=> ?_)) λ_=> .ret (.self ok);rw[Fh];refine .br (λ_=> ?_) λ_=> .ret (.self ok);rw[Fh];refine .br (λ_=> ?_) λ_=> .ret (.self ok);obtain⟨l,d,g1,_⟩:=VF x.lease s.config.epoch id x.now t;rw[g1,ak,Fh];exact .br (λ_=> .ret ⟨ok,rfl⟩) λ_=> .ret (.self ok)
theorem Za(x:qN)(ok:FS 1048576 x)(want term:Int):Tt (λy=>Kp x y.1) (Jr x want term):=by unfold Jr;rw[(GM x ok).1,ak];refine .bind (K0 x ok) λv _=> ?_;rw[Fh];refine .br (λ_=> ?_) λ_=> .ret (.self ok);rw[Gn,ak,Fh];refine .br (λ_=> .bind (Ws x ok) λ_ _=> .br (λ_=> .ret (.self ok)) λ_=> .bind (ZU x ok want 0) λn hn=> ?_) λ_=> .ret (.self ok);rw[Fh];refine .br (λ_=> .bind (QL x ok n.1 hn) λy hy=> ?_) λ_=> .ret (.self ok);rw[Fh];refine .br (λ_=> ?_) λ_=> .ret (.self ok);obtain⟨t,t1,_⟩:=Vo x.lease;rw[t1,ak];refine .bind (ZX y.1 hy.1 _) λz hz=> ?_;rw[Fh];refine .br (λ_=> .bind (Qu z.1 hz.1) λa ha=> ?_) λ_=> .ret (.self ok);rw[Fh];exact .br (λ_=> .bind (Yn a.1 ha.1 _ _) λr hr=> .ret (hy.trans (hz.trans (ha.trans hr)))) λ_=> .ret (hy.trans (hz.trans ha))
theorem aaT(x:qN)(ok:FS 1048576 x)(to:Int):Tt (λy=>y.1=0->VC x) (Lj x to):=by obtain⟨c,b,c1,c2,c3⟩:=Vu x ok;unfold Lj;rw[c1,ak];refine .bind (K0 x ok) λv hv=> ?_;rw[Fh];refine .br (λh=> ?_) λ_=> .ret nofun;have vc:=hv h;have s5:=Ly (Fu ok.2.1) vc.sides;rw[Fh];refine .br (λhb=> ?_) λ_=> .ret nofun;obtain⟨r5,_,_,_,hp,_⟩:=c3 vc;have hp:=(hp hb).2;rw[(FD c.replicas to (by unfold maxLen;omega)).1,ak,Fh];refine .br (λ_=> .br (λ_=> .ret nofun) λ_=> ?_) λ_=> .ret nofun;rw[Fh];refine .br (λ_=> .br (λ_=> .ret nofun) λ_=> .br (λ_=> .ret nofun) λ_=> .bind (Ws x ok) λ_ _=> ?_) λ_=> .ret nofun;rw[Fh];refine .br (λ_=> .ip hp.1 (.get (by show c.primary.toNat<x.sides.length;omega) λ_ _ _=> ?_)) λ_=> .ret nofun;rw[Fh];refine .br (λ_=> .br (λ_=> ?_) λ_=> .ret λ_=>vc) λ_=> .ret nofun;rw[Fh];exact .br (λ_=> .ret λ_=>vc) λ_=> .ret nofun
theorem Zf(x:qN)(ok:FS 1048576 x)(to:Int):Tt (λy=>Kp x y.1) (Iv x to):=by
 obtain⟨c,b,c1,c2,c3⟩:=Vu x ok;unfold Iv;rw[(GM x ok).1,ak];refine .bind (aaT x ok to) λn hn=> ?_;rw[Fh];refine .br (λh=> ?_) λ_=> .ret (.self ok);obtain⟨r5,w5,_⟩:=c3 (hn (eq_of_beq h));rw[c1,ak];refine .bind (Wm x ok c.primary) λy hy=> ?_;have hy':Kp x ⟨y.1.now,y.1.servers,y.1.sides,y.1.master,y.1.masterUp,⟨0,0,0⟩,y.1.places⟩:=⟨hy.1,hy.2⟩
 exact .bind (QL _ hy'.1 ⟨_,to,c.replicas,c.witnesses⟩ ⟨by show c.replicas.length<=_;omega,by show c.witnesses.length<=_;omega⟩) λz hz=> .bind (Qu z.1 hz.1) λw hw=> .ret (hy'.trans (hz.trans hw))
end
end Go.Proofs.YtkghndikalnipabGreat.En
