/- Plain laws. -/
import Derived.Test.YtkghndikalnipaaGreatZBX
set_option linter.unusedSimpArgs false
set_option linter.unusedVariables false
namespace Go.Proofs.YtkghndikalnipaaGreat.En
open Go
section
def D6[dp](c:o0):Prop:=∃l,kf c.b=some l/\l.length<=maxLen/\(∀m∈l,0<=m/\m<=255)/\0<=c.i/\c.i<=c.b.n
def Dn[dp]{α:Type}(Q:α->Prop)(r:Option (List o0×α)):Prop:=∃c a,r=some ([c],a)/\D6 c/\Q a
section
variable [dp] {α β:Type} {Q:α->Prop} {Q':β->Prop}
theorem Dn.ret{c:o0}{a:α}(hc:D6 c)(h:Q a):Dn Q (some ([c],a)):=⟨c,a,rfl,hc,h⟩
theorem Dn.bind{r:Option (List o0×α)}{k:List o0×α->Option (List o0×β)}(h:Dn Q r)(hk: ∀c a,D6 c->Q a->Dn Q' (k ([c],a))):Dn Q' (r.bind k):=by obtain⟨c,a,rfl,h1,h2⟩:=h;exact hk c a h1 h2
theorem Dn.mono{Q2:α->Prop}{r:Option (List o0×α)}(h:Dn Q r)(hq: ∀a,Q a->Q2 a):Dn Q2 r:=by obtain⟨c,a,h1,h2,h3⟩:=h;exact⟨c,a,h1,h2,hq a h3⟩
theorem Dn.iteP{p:Prop}[Decidable p]{x y:Option (List o0×α)}(hp:p)(h:Dn Q x):Dn Q (iteP p x y):=by rw[AL hp];exact h
theorem Dn.br{b:Bool}{x y:Option (List o0×α)}(h1:b=true->Dn Q x)(h2:b=false->Dn Q y):Dn Q (br b x y):=by
 cases b with
 |true=>exact h1 rfl
 |false=>exact h2 rfl
theorem Dn.get{γ:Type}{l:List γ}{i:Nat}{k:γ->Option (List o0×α)}(hi:i<l.length)(h: ∀x∈l,Dn Q (k x)):Dn Q ((l[i]?).bind k):=by rw[ao hi];exact h _ (Cn hi)
end
theorem Vg(x:Int):0<=bits .and .i64 x 255/\bits .and .i64 x 255<=255:=by
 have h: (BitVec.ofInt 64 x&&& BitVec.ofInt 64 255).toNat<=255:=by rw[BitVec.toNat_and];exact Nat.and_le_right
 show 0<=IntKind.wrap .i64 _/\IntKind.wrap .i64 _<=255;have e:IntKind.wrap .i64 ((BitVec.ofInt 64 x&&& BitVec.ofInt 64 255).toNat:Int)=((BitVec.ofInt 64 x&&& BitVec.ofInt 64 255).toNat:Int):=uj (by omega) (by omega);have e2:bits .and .i64 x 255=IntKind.wrap .i64 ((BitVec.ofInt 64 x&&& BitVec.ofInt 64 255).toNat:Int):=rfl;rw[<-e2] at e;constructor
 ·show 0<=bits .and .i64 x 255;omega
 ·show bits .and .i64 x 255<=255;omega
theorem Xx{x n:Int}(hx:0<=x)(hn:0<n):0<=x.tmod n/\x.tmod n<n:=⟨Int.tmod_nonneg _ hx,Int.tmod_lt_of_pos _ hn⟩
section
variable [dp]
theorem Zq{x:Hd}{l:List Int}(h:kf x=some l)(hl:l.length<=maxLen)(hb: ∀m∈l,0<=m/\m<=255):Dn (λ_:Unit=>True) (R5 x):=by unfold R5 BF;rw[h];exact⟨_,(),rfl,⟨l,h,hl,hb,cJ _,Ck _⟩,trivial⟩
theorem Qe{c:o0}(h:D6 c):Dn (λy:Int×Unit=>0<=y.1/\y.1<=255) (Ni [c]):=by
 obtain⟨l,h1,h2,h3,h4,h5⟩:=h;show Dn _ ((Bh c).map λy=>([y.1],y.2,()));unfold Bh;have hlen:=(zG h1).1;by_cases hi:c.i< (c.b.n:Int)
 ·rw[if_pos hi,if_pos h4,h1,an,ao (by omega)];refine⟨_,_,rfl,⟨l,h1,h2,h3,?_,?_⟩,Vg _⟩
  ·show 0<=RowKit.wrap64 (c.i+1);unfold RowKit.wrap64;simp only[maxLen] at h2;omega
  ·show RowKit.wrap64 (c.i+1)<=c.b.n;unfold RowKit.wrap64;simp only[maxLen] at h2;omega
 ·rw[if_neg hi];exact⟨_,_,rfl,⟨l,h1,h2,h3,h4,h5⟩,Vg _⟩
theorem EE{c:o0}(h:D6 c)(n:Int):Dn (λy:Int×Unit=>0<=y.1/\(y.1<n\/n<=0/\y.1=0)) (CT [c] n):=by
 unfold CT;refine .br (λhn=> .ret h ⟨cJ _,.inr ⟨of_decide_eq_true hn,rfl⟩⟩) λhn=> ?_;have hn:=of_decide_eq_false hn;refine .br (λ_=> .bind (Qe h) λc1 y h1 hy=> .iteP rfl ?_) λ_=> .bind (Qe h) λc1 y h1 hy=> .iteP rfl (.bind (Qe h1) λc2 y2 h2 hy2=> .iteP rfl (.bind (Qe h2) λc3 y3 h3 hy3=> .iteP rfl (.bind (Qe h3) λc4 y4 h4 hy4=> .iteP rfl ?_)))
 ·rw[AK (by omega)];have:=Xx hy.1 (show 0<n by omega);exact .ret h1 ⟨this.1,.inl this.2⟩
 ·rw[AK (by omega)];simp only;rw[uj (n:=y.1*16777216) (by omega) (by omega),uj (n:=y2.1*65536) (by omega) (by omega),uj (n:=y3.1*256) (by omega) (by omega),uj (n:=y.1*16777216+y2.1*65536) (by omega) (by omega),uj (n:=y.1*16777216+y2.1*65536+y3.1*256) (by omega) (by omega),uj (n:=y.1*16777216+y2.1*65536+y3.1*256+y4.1) (by omega) (by omega)];have:=Xx (show 0<=y.1*16777216+y2.1*65536+y3.1*256+y4.1 by omega) (show 0<n by omega);exact .ret h4 ⟨this.1,.inl this.2⟩
theorem Jp{c:o0}(h:D6 c){n:Int}(hn:0<n):Dn (λy:Int×Unit=>0<=y.1/\y.1<n) (CT [c] n):=(EE h n).mono λy hy=>⟨hy.1,by omega⟩
theorem HC{c:o0}(h:D6 c)(n:Int):Dn (λ_:Bool×Unit=>True) (EP [c] n):=by unfold EP;exact .bind (EE h n) λc1 y h1 hy=> .iteP rfl (.ret h1 trivial)
theorem FH{c:o0}(h:D6 c){l:List Int}(hl:l≠ []):Dn (λy:Int×Unit=>y.1∈l) (C4 [c] l):=by unfold C4;have h0:0<l.length:=List.length_pos_iff.2 hl;refine .bind (Jp h (show 0< (l.length:Int) by omega)) λc1 y h1 hy=> .iteP rfl (.iteP hy.1 (.get (by show y.1.toNat<l.length;have:=hy.1;have:=hy.2;omega) λx hx=> .ret h1 hx))
theorem VV{c:o0}(h:D6 c):Dn (λ_:Op×Unit=>True) (MV [c]):=by
 unfold MV
 repeat first |exact .ret (by assumption) trivial|refine .iteP rfl ?_|refine .br (λ_=> ?_) λ_=> ?_|refine .bind (EE (by assumption) _) λ_ _ _ _=> ?_|refine .bind (HC (by assumption) _) λ_ _ _ _=> ?_|refine .bind (FH (by assumption) (by simp)) λ_ _ _ _=> ?_
theorem YR{c:o0}(h:D6 c):Dn (λ_:s7×Unit=>True) (Ox [c]):=by
 unfold Ox;dsimp only
 repeat first |exact .ret (by assumption) trivial|refine .iteP rfl ?_|refine .br (λ_=> ?_) λ_=> ?_|refine .bind (EE (by assumption) _) λ_ _ _ _=> ?_|refine .bind (HC (by assumption) _) λ_ _ _ _=> ?_|refine .bind (FH (by assumption) (by simp)) λ_ _ _ _=> ?_
theorem Yu{c:o0}(h:D6 c):Dn (λ_:ve×Unit=>True) (Mh [c]):=by
 unfold Mh;dsimp only
 repeat first |exact .ret (by assumption) trivial|refine .iteP rfl ?_|refine .br (λ_=> ?_) λ_=> ?_|refine .bind (EE (by assumption) _) λ_ _ _ _=> ?_|refine .bind (HC (by assumption) _) λ_ _ _ _=> ?_|refine .bind (FH (by assumption) (by simp)) λ_ _ _ _=> ?_|refine .bind (VV (by assumption)) λ_ _ _ _=> ?_
def Ro{σ ε:Type}(I:σ->Prop)(E:ε->Prop)(r:Option (σ⊕ε)):Prop:=(∃s,r=some (.inl s)/\I s)\/ ∃e,r=some (.inr e)/\E e
section
variable {σ ε α:Type} {I:σ->Prop} {E:ε->Prop} {Q:α->Prop}
omit [dp] in
theorem Ro.again{s:σ}(h:I s):Ro I E (some (.inl s)):=.inl ⟨s,rfl,h⟩
omit [dp] in
theorem Ro.done{e:ε}(h:E e):Ro I E (some (.inr e)):=.inr ⟨e,rfl,h⟩
omit [dp] in
theorem Ro.iteP{p:Prop}[Decidable p]{x y:Option (σ⊕ε)}(hp:p)(h:Ro I E x):Ro I E (iteP p x y):=by rw[AL hp];exact h
omit [dp] in
theorem Ro.br{b:Bool}{x y:Option (σ⊕ε)}(h1:b=true->Ro I E x)(h2:b=false->Ro I E y):Ro I E (br b x y):=by
 cases b with
 |true=>exact h1 rfl
 |false=>exact h2 rfl
theorem Ro.draw{r:Option (List o0×α)}{k:List o0×α->Option (σ⊕ε)}(h:Dn Q r)(hk: ∀c a,D6 c->Q a->Ro I E (k ([c],a))):Ro I E (r.bind k):=by obtain⟨c,a,rfl,h1,h2⟩:=h;exact hk c a h1 h2
omit [dp] in
theorem UV{B:σ->Option (σ⊕ε)}(μ:σ->Nat)(h: ∀s,I s->Ro (λs'=>I s'/\μ s'<μ s) E (B s)){s:σ}(hs:I s): ∃e,mu B s=some e/\E e:=
 Bn I μ E (λs hs=>(h s hs).imp (λ⟨s',a,b,c⟩=>⟨s',a,b,c⟩) id) hs
end
theorem Vi{c:o0}(h:D6 c){n:Int}(h0:0<=n){evs:List ve}{M:Nat}(hM:evs.length+n.toNat<=M)(hM2:M<=1000):Dn (λy:List ve×Unit=>y.1.length<=M) ((KW (((),(),n,()),(()),[c],evs,())).bind λe=>some e.2.2):=by
 unfold KW
 obtain⟨⟨_,_,l,ps,_⟩,h1,c2,rfl,h2,h3⟩:=UV (B:=IU) (I:=λs=> ∃c,s.2.2.1= [c] /\D6 c/\0<=s.1.2.2.1/\s.2.2.2.1.length+s.1.2.2.1.toNat<=M) (E:=λe=> ∃c,e.2.2.1= [c] /\D6 c/\e.2.2.2.1.length<=M) (λs=>s.1.2.2.1.toNat) (by
  rintro⟨⟨_,_,k,_⟩,_,l,ps,_⟩ ⟨c,rfl,hc,h0,h1⟩
  simp only at h0 h1;unfold IU;refine .br (λhk=> ?_) λhk=> .done ⟨c,rfl,hc,by show ps.length<=M;omega⟩;have hk:k>0:=of_decide_eq_true hk;have e:IntKind.wrap .i64 (k-1)=k-1:=uj (by omega) (by omega)
  have eX: ∀ (c:o0) (x:ve),D6 c->Ro (λs': (Unit×Unit×Int×Unit)×Unit×List o0×List ve×Unit=>(∃c,s'.2.2.1= [c] /\D6 c/\0<=s'.1.2.2.1/\s'.2.2.2.1.length+s'.1.2.2.1.toNat<=M)/\s'.1.2.2.1.toNat<k.toNat) (λe: (Unit×Unit)×Unit×List o0×List ve×Unit=> ∃c,e.2.2.1= [c] /\D6 c/\e.2.2.2.1.length<=M) (iteP ((ps++ [x]).length*80<=2 ^ 40) (some (.inl (((),(),IntKind.wrap .i64 (k-1),()),(()),[c],ps++ [x],()))) none):=λc x hc=>by refine .iteP (by simp only[bI,cm];omega) (.again ?_);simp only[e];exact⟨⟨c,rfl,hc,by omega,by simp only[bI,cm];omega⟩,by omega⟩
  refine .draw (Yu hc) λc1 _ h1 _=> .iteP rfl (.br (λ_=> .draw (HC h1 _) λc2 _ h2 _=> .iteP rfl (.br (λ_=> .draw (FH h2 (by simp)) λc3 _ h3 _=> .iteP rfl (eX _ _ h3)) λ_=>eX _ _ h2)) λ_=>eX _ _ h1)) (s:=(((),(),n,()),(()),[c],evs,())) ⟨c,rfl,h,h0,hM⟩
 rw[h1];exact⟨c2,_,rfl,h2,h3⟩
theorem XG{c:o0}(h:D6 c){n:Int}(h0:0<=n)(hn:n<=100):Dn (λy:List ve×Unit=>y.1.length<=200) (K8 [c] n):=by
 unfold K8;rw[uj (n:=n+1) (by omega) (by omega)];refine .bind (EE h _) λc1 _ h1 _=> .iteP rfl (.bind (EE h1 _) λc2 _ h2 _=> .iteP rfl (.bind (HC h2 _) λc3 _ h3 _=> .iteP rfl (.br (λ_=> ?_) λ_=> ?_)))
 ·exact .bind (Jp h3 (by omega)) λc4 y h4 hy=> .iteP rfl (Vi h4 hy.1 (by have:=hy.2;simp only[bA,bR];omega) (by omega))
 ·exact .bind (Jp h3 (by omega)) λc4 y h4 hy=> .iteP rfl (Vi h4 hy.1 (by have:=hy.2;simp only[bA,bR];omega) (by omega))
theorem ZD{c:o0}(h:D6 c):Dn (λy:List Int×Unit=>y.1.length=5) (Me [c]):=by
 unfold Me QC
 obtain⟨⟨_,_,l,ps,_⟩,h1,c2,rfl,h2,h3⟩:=UV (B:=JJ) (I:=λs=> ∃c,s.2.2.1= [c] /\D6 c/\0<=s.1.2.2.1/\s.1.2.2.1<=5/\(s.2.2.2.1.length:Int)=s.1.2.2.1) (E:=λe=> ∃c,e.2.2.1= [c] /\D6 c/\e.2.2.2.1.length=5) (λs=>(5-s.1.2.2.1).toNat) (by
  rintro⟨⟨_,_,k,_⟩,_,l,ps,_⟩ ⟨c,rfl,hc,h0,h1,h2⟩
  simp only at h0 h1 h2;unfold JJ;refine .br (λhk=> ?_) λhk=> .done ⟨c,rfl,hc,by have : ¬k<5:=of_decide_eq_false hk;show ps.length=5;omega⟩;have hk:k<5:=of_decide_eq_true hk;refine .draw (FH hc (by simp)) λc1 _ h1 _=> .iteP rfl (.iteP (by simp only[bI,cm];omega) (.again ?_));simp only;rw[uj (n:=k+1) (by omega) (by omega)];exact⟨⟨c1,rfl,h1,by omega,by omega,by simp only[bI,cm];omega⟩,by omega⟩) (s:=(((),(),0,()),(()),[c],([]:List Int),())) ⟨c,rfl,h,cJ _,by simp,by simp⟩
 rw[h1];exact⟨c2,_,rfl,h2,h3⟩
theorem YS{c:o0}(h:D6 c):Dn (λy:List pZ×Unit=>y.1.length<=6) (Pj [c]):=by
 unfold Pj;refine .bind (Jp h (by decide)) λc0 y0 hc0 hy0=> .iteP rfl ?_;unfold Uk
 obtain⟨⟨_,_,l,ps,_⟩,h1,c2,rfl,h2,h3⟩:=UV (B:=Nb) (I:=λs=> ∃c,s.2.2.1= [c] /\D6 c/\0<=s.1.2.2.2.1/\s.2.2.2.1.length+s.1.2.2.2.1.toNat<=6) (E:=λe=> ∃c,e.2.2.1= [c] /\D6 c/\e.2.2.2.1.length<=6) (λs=>s.1.2.2.2.1.toNat) (by
  rintro⟨⟨_,_,g,k,_⟩,_,l,ps,_⟩ ⟨c,rfl,hc,h0,h1⟩
  simp only at h0 h1;unfold Nb;refine .br (λhk=> ?_) λhk=> .done ⟨c,rfl,hc,by show ps.length<=6;omega⟩;have hk:k>0:=of_decide_eq_true hk;have e:IntKind.wrap .i64 (k-1)=k-1:=uj (by omega) (by omega);refine .draw (HC hc _) λc1 _ h1 _=> .iteP rfl (.br (λ_=> .draw (VV h1) λc2 _ h2 _=> .iteP rfl (.iteP (by simp only[bI,cm];omega) (.again ?_))) λ_=> .draw (VV h1) λc2 _ h2 _=> .iteP rfl (.iteP (by simp only[bI,cm];omega) (.again ?_)))
  all_goals
   simp only[e];exact⟨⟨c2,rfl,h2,by omega,by simp only[bI,cm];omega⟩,by omega⟩) (s:=(((),(),1,y0.1,()),(()),[c0],([]:List pZ),())) ⟨c0,rfl,hc0,hy0.1,by have:=hy0.2;simp;omega⟩
 rw[h1];exact⟨c2,_,rfl,h2,h3⟩
theorem Zr{c:o0}(h:D6 c):Dn (λ_:Op×Unit=>True) (Ql [c]):=by
 unfold Ql;refine .bind (VV h) λ_ _ _ _=> ?_
 repeat first |exact .ret (by assumption) trivial|refine .iteP rfl ?_|refine .br (λ_=> ?_) λ_=> ?_|refine .bind (EE (by assumption) _) λ_ _ _ _=> ?_|refine .bind (HC (by assumption) _) λ_ _ _ _=> ?_|refine .bind (FH (by assumption) (by simp)) λ_ _ _ _=> ?_
theorem XV{c:o0}(h:D6 c):Dn (λy:List pZ×Unit=>y.1.length<=17) (Qm [c]):=by
 unfold Qm;refine .bind (YS h) λc1 y h1 hy=> .iteP rfl (.bind (EE h1 _) λc2 _ h2 _=> .iteP rfl (.br (λ_=> ?_) λ_=> .br (λ_=> ?_) λ_=> .ret h2 (by show y.1.length<=17;omega)))
 ·refine .bind (FH h2 (by simp)) λc3 _ h3 _=> .iteP rfl (.bind (Zr h3) λc4 z h4 _=> .iteP rfl ?_);have e: ∀x:pZ,(y.1++ [x]).length<=17:=λx=>by simp only[bI,cm];omega
  exact .iteP (aU (bn _ (e _)) (by decide)) (.ret h4 (e _))
 ·unfold Uj
  obtain⟨⟨_,_,l,ps,_⟩,h1,c2,rfl,h2,h3⟩:=UV (B:=LW) (I:=λs=> ∃c,s.2.2.1= [c] /\D6 c/\s.2.2.2.1.length<=17) (E:=λe=> ∃c,e.2.2.1= [c] /\D6 c/\e.2.2.2.1.length<=17) (λs=>17-s.2.2.2.1.length) (by
   rintro⟨⟨_,_,_⟩,_,l,ps,_⟩ ⟨c,rfl,hc,h0⟩
   simp only at h0;unfold LW;refine .br (λhk=> ?_) λhk=> .done ⟨c,rfl,hc,h0⟩;have hk: (ps.length:Int)<17:=of_decide_eq_true hk;refine .draw (VV hc) λc1 _ h1 _=> .iteP rfl (.iteP (by simp only[bI,cm];omega) (.again ?_));exact⟨⟨c1,rfl,h1,by simp only[bI,cm];omega⟩,by simp only[bI,cm];omega⟩) (s:=(((),(),()),(()),[c2],y.1,())) ⟨c2,rfl,h2,by show y.1.length<=17;omega⟩
  show Dn _ ((mu LW (((),(),()),(()),[_],y.1,())).bind _);rw[h1];exact⟨c2,_,rfl,h2,h3⟩
end
end
section
def D5(M:Nat)(c:mD):Prop:=c.replicas.length<=M/\c.witnesses.length<=M
def Dz(M:Nat)(s:o4):Prop:=D5 M s.config/\s.log.length<=M/\s.learned.length<=M
def KI(M:Nat)(m:jw):Prop:=m.configs.length<=M/\ ∀c∈m.configs,D5 M c
def Dd(M:Nat)(c:oZ):Prop:=(c.servers.length<=M/\ ∀s∈c.servers,Dz M s)/\c.sides.length<=M/\KI M c.master/\c.places.length<=M
theorem CW{n:Nat}(h:n<=1048576):n<=maxLen:=by unfold maxLen;omega
end
section
theorem Fm{ρ:Type}(a b:Int)(x y:ρ):br (a==b) x y=if a=b then x else y:=by rw[BC];by_cases h:a=b<;>simp[h]
theorem CQ{ρ:Type}(b:Bool)(x y:ρ):br (!b) x y=br b y x:=by cases b<;>rfl
def Ff(x a b:Int):Bool:=decide (a<=x)&&decide (x<=b)
theorem DC(x a b:Int):CY x a b=some (Ff x a b,()):=by unfold CY Ff;rw[BB];split<;>rename_i h<;>simp[h]
theorem Hk(x a b:Int):C0 x a b=some (Ff x a b,()):=by unfold C0 Ff;rw[BB];split<;>rename_i h<;>simp[h]
theorem CS{x a b:Int}:Ff x a b=true↔a<=x/\x<=b:=by simp[Ff]
def Jf(l:List Int):Prop:=∀k (h:k<l.length),(0<=l[k] /\l[k] <=4)/\ ∀_:0<k,l[k-1]'(by omega)<l[k]
theorem NP(l:List Int)(hl:l.length<=maxLen): (Ei l=some (true,())/\Eh l=some (true,())/\Jf l)\/(Ei l=some (false,())/\Eh l=some (false,())):=by
 have eX:=Bo (B1:=E7) (B2:=E6) l.length (λk=>((l,(k:Int),()),(),())) (λk=>((l,l,(l.length:Int),(k:Int),()),(),())) (.inr (((),()),(),())) (.inr (((),()),(),())) (λ_=> .inl ((false,()),(),())) (λ_=> .inl ((false,()),(),()))
  (λk=> ∀h:k<l.length,(0<=l[k] /\l[k] <=4)/\ ∀_:0<k,l[k-1]'(by omega)<l[k]) (λ_=>True)
  (by simp only[E7];rw[BB,if_neg (by omega)])
  (by simp only[E6];rw[BB,if_neg (by omega)])
  (λk hk=>by
    have c1: (k:Int)< (l.length:Int):=by omega
    have c2: (0:Int)<=(k:Int):=by omega
    have e1:l[k]? =some l[k] :=ao hk;simp only[E7,E6,BB,AJ,if_pos c1,if_pos c2,Cj,e1,an,DC,Hk];cases hw:Ff l[k] 0 4 with
    |false=>exact .inr ⟨rfl,rfl,trivial⟩
    |true=>
     simp only[cS,Ar];have hw:=CS.1 hw;by_cases h0:0<k
     ·have c3: (k:Int)>0:=by omega
      have c4: (0:Int)<=((k-1:Nat):Int):=by omega
      have e2:l[k-1]? =some l[k-1] :=ao (by omega);simp only[if_pos c3,Ao h0 (by omega),if_pos c4,Cj,e2,an];by_cases hlt:l[k-1]<l[k]
      ·rw[if_neg (by omega),if_neg (by omega),Ap hl hk];exact .inl ⟨rfl,rfl,λ_=>⟨hw,λ_=>hlt⟩⟩
      ·rw[if_pos (by omega),if_pos (by omega)];exact .inr ⟨rfl,rfl,trivial⟩
     ·rw[if_neg (by omega),if_neg (by omega),Ap hl hk];exact .inl ⟨rfl,rfl,λ_=>⟨hw,λh=>absurd h h0⟩⟩)
 unfold Ei Eh;rcases eX with ⟨k1,k2,k3⟩| ⟨k,_,k1,k2,_⟩
 ·rw[show J6 ((l,0,()),(),())=_ from k1,show J5 ((l,l,(l.length:Int),0,()),(),())=_ from k2];exact .inl ⟨rfl,rfl,λk hk=>k3 k hk hk⟩
 ·rw[show J6 ((l,0,()),(),())=_ from k1,show J5 ((l,l,(l.length:Int),0,()),(),())=_ from k2];exact .inr ⟨rfl,rfl⟩
theorem Jf.lt{l:List Int}(h:Jf l): ∀ (d i:Nat) (h2:i+d+1<l.length),l[i]'(by omega)<l[i+d+1] :=by
 intro d
 induction d with
 |zero=>intro i h2;exact (h (i+1) h2).2 (by omega)
 |succ d ih=>intro i h2;have h1:=ih i (by omega);have h3:=(h (i+d+1+1) h2).2 (by omega);exact Int.lt_trans h1 h3
theorem Jf.pair{l:List Int}(h:Jf l):l.Pairwise (· < ·):=by rw[Ct];intro i j hi hj hij;have:=h.lt (j-i-1) i (by omega);simpa [show i+(j-i-1)+1=j by omega] using this
theorem Jf.len{l:List Int}(h:Jf l):l.length<=5:=by
 have ge: ∀k (hk:k<l.length),(k:Int)<=l[k] :=by
  intro k
  induction k with
  |zero=>intro hk;exact (h 0 hk).1.1
  |succ k ih=>intro hk;have h1:=ih (by omega);have h2:=(h (k+1) hk).2 (by omega);simp only[bJ] at h2;omega
 rcases cM 5 l.length with hlt|hge
 ·have h1:=ge 5 hlt;have h2:=(h 5 hlt).1.2;omega
 ·exact hge
theorem C9(l:List Int)(x:Int)(hl:l.length<=maxLen):DD l x=some (decide (x∈l),())/\EH l x=some (decide (x∈l),()):=by
 have eX:=Bo (B1:=HT) (B2:=G8) l.length (λk=>((l,x,(k:Int),()),(),())) (λk=>((l,x,(l.length:Int),(k:Int),()),(),())) (.inr (((),()),(),())) (.inr (((),()),(),())) (λ_=> .inl ((true,()),(),())) (λk=> .inl (((k:Int),()),(),()))
  (λk=>l[k]? ≠some x) (λk=>l[k]? =some x)
  (by simp only[HT];rw[BB,if_neg (by omega)])
  (by simp only[G8];rw[BB,if_neg (by omega)])
  (λk hk=>by
    have c1: (k:Int)< (l.length:Int):=by omega
    have c2: (0:Int)<=(k:Int):=by omega
    have e1:l[k]? =some l[k] :=ao hk;simp only[HT,G8,BB,AJ,if_pos c1,if_pos c2,Cj,e1,an,Ap hl hk,Fm];by_cases he:l[k] =x
    ·rw[if_pos he,if_pos he.symm,he];exact .inr ⟨rfl,rfl,rfl⟩
    ·rw[if_neg he,if_neg (λh=>he h.symm)];exact .inl ⟨rfl,rfl,λh=>he (Option.some.inj h)⟩)
 unfold DD EH Jj LI;rcases eX with ⟨k1,k2,k3⟩| ⟨k,hk,k1,k2,k3⟩
 ·rw[show M1 ((l,x,0,()),(),())=_ from k1,show Mr ((l,x,(l.length:Int),0,()),(),())=_ from k2]
  have hn:x∉l:=λh=>by obtain⟨k,hk,he⟩:=aP h;exact k3 k hk (by rw[ao hk,he])
  rw[decide_eq_false hn];exact⟨rfl,rfl⟩
 ·rw[show M1 ((l,x,0,()),(),())=_ from k1,show Mr ((l,x,(l.length:Int),0,()),(),())=_ from k2];rw[decide_eq_true (ax k3)];refine⟨rfl,?_⟩;simp only[an,Cw];rw[decide_eq_true (by omega)]
end
section
theorem FR{n:Nat}(h:n<=1048576):n*8<=2 ^ 40:=by
 have : (2:Nat) ^ 40=1099511627776:=by decide
 omega
theorem U0(l:List Int)(x:Int)(hl:l.length<=1000)(h: ∀y∈l,y<x):G2 l x=some (l++ [x],()):=by
 have hm:l.length<=maxLen:=by unfold maxLen;omega
 have eX:=AN (B:=IC) l (λk (_:Unit)=>((l,x,(k:Int),()),(),())) (λ_ _=>True) (λk r _=>((l,x,((k+r.length:Nat):Int),()),(),()))
  (λb hb=>by simp only[IC];rw[BB,if_neg (by omega)];rfl)
  (λk b y hy hb=>by
    have hk:=BI hy;have c1: (k:Int)< (l.length:Int):=by omega
    have c2: (0:Int)<=(k:Int):=by omega
    refine .inl ⟨(),?_,trivial,?_⟩
    ·simp only[IC,BB,AJ,if_pos c1,if_pos c2,Cj,hy,an,if_pos (h y (ax hy)),Ap hm hk]
    ·rw[bA,show k+((l.drop (k+1)).length+1)=k+1+(l.drop (k+1)).length by omega])
  0 () (bL _) trivial
 unfold G2;rw[show QW ((l,x,0,()),(),())=_ from eX];simp only[an,ct,aM];have c0: ¬ ((l.length:Int)< (l.length:Int)):=by omega
 have d1: (0:Int)<=0/\(0:Int)<=(l.length:Int)/\(l.length:Int)<=(l.length:Int):=by omega
 have d2: (0:Int)<=(l.length:Int)/\(l.length:Int)<=(l.length:Int)/\(l.length:Int)<=(l.length:Int):=by omega
 simp only[BB,if_neg c0,AJ,if_pos d1,if_pos d2,Cj,CK,ct,CA,cN,da,bM,Cq,bC];rw[if_pos (FR (by omega)),if_pos (FR (by simp;omega))];exact if_pos (FR (by simp;omega))
theorem Pp(a b:List Int)(ha:Jf a)(hb:b.length<=maxLen):FV a b=some (a.filter λx=>decide (x∈b),()):=by
 have hl:=ha.len;have hm:a.length<=maxLen:=by unfold maxLen;omega
 have hp:=ha.pair
 have eX:=AN (B:=FK) a (λk (out:List Int)=>((a,b,(),(k:Int),()),(),(out,()))) (λk out=>out=(a.take k).filter λx=>decide (x∈b)) (λk r out=>(((),()),(),(out++r.filter λx=>decide (x∈b),())))
  (λout hb=>by simp only[FK];rw[BB,if_neg (by omega)];simp)
  (λk out x hx hout=>by
    have hk:=BI hx;have c1: (k:Int)< (a.length:Int):=by omega
    have c2: (0:Int)<=(k:Int):=by omega
    have hxe:a[k] =x:=by rw[ao hk] at hx;exact Option.some.inj hx
    simp only[FK,BB,AJ,if_pos c1,if_pos c2,Cj,hx,an,(C9 b x hb).1,Ap hm hk];by_cases hin:x∈b
    ·have hlt: ∀y∈out,y<x:=by
      intro y hy;rw[hout,CI] at hy;obtain⟨i,hi,he⟩:=aP hy.1;have hi':i<k:=by simp at hi;omega
      rw[CE] at he;rw[<-he,<-hxe];exact Ct.1 hp i k (by omega) hk hi'
     have hol:out.length<=1000:=by rw[hout];have:=CB (λx=>decide (x∈b)) (a.take k);simp at this;omega
     simp only[if_pos hin,U0 out x hol hlt,an];refine .inl ⟨out++ [x],rfl,?_,?_⟩
     ·rw[hout,Cr,hx,Cv];simp[hin]
     ·simp[hin]
    ·simp only[if_neg hin];refine .inl ⟨out,rfl,?_,?_⟩
     ·rw[hout,Cr,hx,Cv];simp[hin]
     ·simp[hin])
  0 [] (bL _) rfl
 unfold FV;rw[show MP ((a,b,(),0,()),(),([],()))=_ from eX];rfl
theorem Sc{n:Nat}(hn:n<=5): ∃m,Ou (IntKind.wrap .u64 (n:Int))=some (m,()):=by
 have :n=0\/n=1\/n=2\/n=3\/n=4\/n=5:=by omega
 rcases this with rfl|rfl|rfl|rfl|rfl|rfl
 ·exact⟨0,by kernel_rfl⟩
 ·exact⟨1,by kernel_rfl⟩
 ·exact⟨2,by kernel_rfl⟩
 ·exact⟨2,by kernel_rfl⟩
 ·exact⟨3,by kernel_rfl⟩
 ·exact⟨3,by kernel_rfl⟩
theorem XK(l:List Int)(ha:Jf l):Dp l 0 (l.length:Int)=some (l,()):=by
 have hl:=ha.len;have hm:l.length<=maxLen:=by unfold maxLen;omega
 have inner: ∀k (hk:k<l.length),0<k->Em (((),0,(l.length:Int),(k:Int),(k:Int),()),(),(l,()))=some (((),0,(l.length:Int),(k:Int),()),(),(l,())):=by
  intro k hk h0;refine kT ?_;have c1: (k:Int)>0:=by omega
  have c2: (0:Int)<=(k:Int)/\(k:Int)< (l.length:Int):=by omega
  have c3: (0:Int)<=((k-1:Nat):Int)/\((k-1:Nat):Int)< (l.length:Int):=by omega
  have e1:l[k]? =some l[k] :=ao hk;have e2:l[k-1]? =some l[k-1] :=ao (by omega);have hlt:=(ha k hk).2 h0
  have less:Hv l[k] l[k-1] =some (false,()):=by unfold Hv HV;simp only[beq_self_eq_true,cS,an,Ar];rw[decide_eq_false (by omega)]
  simp only[Df,BB,AJ,if_pos c1,if_pos c2,Ao h0 (by omega),if_pos c3,Cj,e1,e2,an,less,Ar]
 have outer:=Bn (B:=CZ) (λs=> ∃k:Nat,0<k/\s=(((),0,(l.length:Int),(k:Int),()),(),(l,()))) (λs=>l.length-s.1.2.2.2.1.toNat) (λe=>e=((()),(),(l,())))
  (λs hs=>by
    obtain⟨k,h0,rfl⟩:=hs;by_cases hk:k<l.length
    ·have c1: (k:Int)< (l.length:Int):=by omega
     refine .inl ⟨(((),0,(l.length:Int),((k+1:Nat):Int),()),(),(l,())),?_,⟨k+1,by omega,rfl⟩,?_⟩
     ·simp only[CZ,BB,if_pos c1,inner k hk h0,an,Ap hm hk]
     ·simp only[Cj];omega
    ·have c1: ¬ (k:Int)< (l.length:Int):=by omega
     exact .inr ⟨_,by simp only[CZ,BB,if_neg c1],rfl⟩)
  (s:=(((),0,(l.length:Int),((1:Nat):Int),()),(),(l,()))) ⟨1,by omega,rfl⟩
 obtain⟨e,h1,rfl⟩:=outer;unfold Dp;rw[show IntKind.wrap .i64 ((0:Int)+1)=((1:Nat):Int) from by rw[uj (by omega) (by omega)];rfl,show El (((),0,(l.length:Int),((1:Nat):Int),()),(),(l,()))=_ from h1];rfl
theorem ZF(l:List Int)(ha:Jf l):Gk l=some (l,()):=by
 have hl:=ha.len;obtain⟨m,hm⟩:=Sc hl
 have hp:DS l 0 (l.length:Int) m=some (l,()):=by
  unfold DS
  have :Gl (((),0,(l.length:Int),m,true,true,()),(),(l,()))=some ((()),(),(l,())):=by refine kT ?_;simp only[Er];rw[uj (by omega) (by omega),BB,if_pos (by omega),XK l ha,an,AL rfl]
  rw[this];rfl
 unfold Gk;simp only[hm,an,hp];exact AL trivial _ _
theorem Vh(l:List Int)(ha:Jf l):Fc l=some (l,()):=by
 have hl:=ha.len;have hm:l.length<=maxLen:=by unfold maxLen;omega
 unfold Fc;rw[BB];split
 ·rfl
 ·have eX:=Bn (B:=DI) (λs=> ∃k:Nat,0<k/\k<=l.length/\s=(((),(k:Int),()),(),(l,()))) (λs=>l.length-s.1.2.1.toNat) (λe=>e= .inr (((),(),()),(),(l,())))
   (λs hs=>by
     obtain⟨k,h0,hkl,rfl⟩:=hs;by_cases hk:k<l.length
     ·have c1: (k:Int)< (l.length:Int):=by omega
      have c2: (0:Int)<=(k:Int)/\(k:Int)< (l.length:Int):=by omega
      have c3: (0:Int)<=((k-1:Nat):Int)/\((k-1:Nat):Int)< (l.length:Int):=by omega
      have e1:l[k]? =some l[k] :=ao hk;have e2:l[k-1]? =some l[k-1] :=ao (by omega);have hlt:=(ha k hk).2 h0;refine .inl ⟨(((),((k+1:Nat):Int),()),(),(l,())),?_,⟨k+1,by omega,by omega,rfl⟩,?_⟩
      ·simp only[DI,BB,AJ,if_pos c1,if_pos c2,Ao h0 (by omega),if_pos c3,Cj,e1,e2,an,Fm,Ap hm hk];rw[if_neg (by omega)]
      ·simp only[Cj];omega
     ·have c1: ¬ (k:Int)< (l.length:Int):=by omega
      exact .inr ⟨_,by simp only[DI,BB,if_neg c1],rfl⟩)
   (s:=(((),((1:Nat):Int),()),(),(l,()))) ⟨1,by omega,by omega,rfl⟩
  obtain⟨e,h1,rfl⟩:=eX;rw[show IR (((),1,()),(),(l,()))=_ from h1];rfl
theorem XC(l:List Int)(ha:Jf l):GI l=some (l,()):=by have hl:=ha.len;unfold GI FG;rw[AL (FR (by omega)),an,ZF l ha,an,AL rfl,Vh l ha];rfl
end
section
theorem Nv{σ ε:Type}{B:σ->Option (σ⊕ε)}(n:Nat)(m:Nat->σ)(t:ε)(f:Nat->ε)(p:Nat->Bool)(h0:B (m n)=some (.inr t))(h: ∀k,k<n->B (m k)=some (if p k=true then .inr (f k) else .inl (m (k+1)))):
  (mu B (m 0)=some t/\ ∀k,k<n->p k=false)\/ ∃k,k<n/\mu B (m 0)=some (f k)/\p k=true/\ ∀j,j<k->p j=false:=by
 have eX: ∀d j,j+d=n->(mu B (m j)=some t/\ ∀k,j<=k->k<n->p k=false)\/ ∃k,k<n/\mu B (m j)=some (f k)/\p k=true/\ ∀i,j<=i->i<k->p i=false:=by
  intro d
  induction d with
  |zero=>
   intro j hj;have :j=n:=by omega
   subst this;exact .inl ⟨kT h0,λk a b=>by omega⟩
  |succ d ih=>
   intro j hj;have h1:=h j (by omega);cases hp:p j with
   |true=>rw[hp,if_pos rfl] at h1;exact .inr ⟨j,by omega,kT h1,hp,λi a b=>by omega⟩
   |false=>
    rw[hp,if_neg (by simp)] at h1;rw[qR h1];rcases ih (j+1) (by omega) with ⟨k1,k2⟩| ⟨k,k0,k1,k2,k3⟩
    ·refine .inl ⟨k1,λk a b=> ?_⟩;rcases Nat.eq_or_lt_of_le a with rfl|a
     ·exact hp
     ·exact k2 k a b
    ·refine .inr ⟨k,k0,k1,k2,λi a b=> ?_⟩;rcases Nat.eq_or_lt_of_le a with rfl|a
     ·exact hp
     ·exact k3 i a b
 rcases eX n 0 (by omega) with ⟨a,b⟩| ⟨k,a,b,c,d⟩
 ·exact .inl ⟨a,λk hk=>b k (bL _) hk⟩
 ·exact .inr ⟨k,a,b,c,λj hj=>d j (bL _) hj⟩
theorem LN{σ1 ε1 σ2 ε2 β:Type}{B1:σ1->Option (σ1⊕ε1)}{B2:σ2->Option (σ2⊕ε2)}(n:Nat)(m1:Nat->β->σ1)(m2:Nat->β->σ2)(J:Nat->β->Prop)(E1:β->ε1)(E2:β->ε2)
  (h0: ∀b,J n b->B1 (m1 n b)=some (.inr (E1 b))/\B2 (m2 n b)=some (.inr (E2 b)))
  (h1: ∀k b,k<n->J k b-> ∃b',B1 (m1 k b)=some (.inl (m1 (k+1) b'))/\B2 (m2 k b)=some (.inl (m2 (k+1) b'))/\J (k+1) b')
  (b:β) (hb:J 0 b): ∃b',J n b'/\mu B1 (m1 0 b)=some (E1 b')/\mu B2 (m2 0 b)=some (E2 b'):=by
 have go: ∀ (d k:Nat) (b:β),k+d=n->J k b-> ∃b',J n b'/\mu B1 (m1 k b)=some (E1 b')/\mu B2 (m2 k b)=some (E2 b'):=by
  intro d
  induction d with
  |zero=>
   intro k b hk hj;have :k=n:=by omega
   subst this;exact⟨b,hj,kT (h0 b hj).1,kT (h0 b hj).2⟩
  |succ d ih=>intro k b hk hj;obtain⟨b',p1,p2,p3⟩:=h1 k b (by omega) hj;obtain⟨c,q1,q2,q3⟩:=ih (k+1) b' (by omega) p3;exact⟨c,q1,by rw[qR p1];exact q2,by rw[qR p2];exact q3⟩
 exact go n 0 b (by omega) hb
theorem ML{l:List Int}{p:Int->Bool}(h: ∀x∈l,p x=true):l.filter p=l:=List.filter_eq_self.2 h
theorem Wc(a b:List Int)(ha:a.length<=1000)(hb:b.length<=maxLen):Dq a b=some (a.filter λx=> !decide (x∈b),()):=by
 have hm:a.length<=maxLen:=by unfold maxLen;omega
 have hm':a.length<=9223372036854775807:=hm
 have has: ∀x,Fe x b=some (decide (x∈b),()):=by intro x;unfold Fe;rw[(C9 b x hb).2];rfl
 have find:=Nv (B:=Dc) a.length (λk=>((a,(b,()),(a.length:Int),(k:Int),()),(),())) (.inr (((),()),(),())) (λk=> .inl (((k:Int),()),(),())) (λk=>match a[k]? with |some x=>decide (x∈b)|none=>false)
  (by simp only[Dc];rw[BB,if_neg (by omega)])
  (λk hk=>by
    have c1: (k:Int)< (a.length:Int):=by omega
    have c2: (0:Int)<=(k:Int):=by omega
    simp only[Dc,BB,AJ,if_pos c1,if_pos c2,Cj,ao hk,an,has,Ap hm hk];by_cases hin:a[k] ∈b<;>simp[hin])
 unfold Dq D3;rcases find with ⟨k1,k2⟩| ⟨i,hi,k1,k2,k3⟩
 ·rw[show EC ((a,(b,()),(a.length:Int),0,()),(),())=_ from k1];simp only[an,Cz,beq_self_eq_true,Bg];rw[ML λx hx=> ?_];obtain⟨k,hk,rfl⟩:=aP hx;have:=k2 k hk;rw[ao hk] at this;simpa using this
 ·rw[show EC ((a,(b,()),(a.length:Int),0,()),(),())=_ from k1]
  have hne: ((i:Int)== -1)=false:=by simp only[beq_eq_false_iff_ne,ne_eq];omega
  simp only[an,Cw,hne,Ar,Ap hm hi];rw[ao hi] at k2
  have loop:=Bn (B:=C6) (λs=> ∃ (i j:Nat) (v:List Int),s=(((),(b,()),(i:Int),(j:Int),()),(),(v,()))/\i<=j/\j<=a.length/\v.length=a.length/\v.take i=(a.take j).filter (λx=> !decide (x∈b))/\v.drop j=a.drop j) (λs=>a.length-s.1.2.2.2.1.toNat)
   (λe=> ∃ (i:Nat) (v:List Int),e=(((),(i:Int),()),(),(v,()))/\i<=a.length/\v.length=a.length/\v.take i=a.filter (λx=> !decide (x∈b)))
   (λs hs=>by
     obtain⟨i,j,v,rfl,hij,hj,hv,ht,hd⟩:=hs;by_cases hlt:j<a.length
     ·have c1: (j:Int)< (v.length:Int):=by omega
      have c2: (0:Int)<=(j:Int)/\(j:Int)< (v.length:Int):=by omega
      have c3: (0:Int)<=(i:Int)/\(i:Int)< (v.length:Int):=by omega
      have e1:v[j]? =some a[j] :=by have:=congrArg (λl:List Int=>l[0]?) hd;simpa [bc,ao hlt] using this
      have e2:v[i]? =some (v[i]'(by omega)):=ao _;have hta:a.take (j+1)=a.take j++ [a[j]] :=by rw[Cr,ao hlt];rfl
      have hdd:v.drop (j+1)=a.drop (j+1):=by have:=congrArg (List.drop 1) hd;simpa [cd,bU] using this
      left;simp only[C6,BB,AJ,if_pos c1,if_pos c2,Cj,e1,an,has,if_pos c3,e2,Ap hm hlt,CQ,Ap hm (show i<a.length by omega)];by_cases hin:a[j] ∈b
      ·rw[if_pos hin];refine⟨_,rfl,⟨i,j+1,v,rfl,by omega,by omega,hv,?_,hdd⟩,?_⟩
       ·rw[ht,hta,Cv];simp[hin]
       ·simp only[Cj];omega
      ·rw[if_neg hin];refine⟨_,rfl,⟨i+1,j+1,v.set i a[j],rfl,by omega,by omega,by simp[hv],?_,?_⟩,?_⟩
       ·rw[w7 _ (by omega),ht,hta,Cv];simp[hin]
       ·rw[CL (by omega),hdd]
       ·simp only[Cj];omega
     ·have :j=a.length:=by omega
      subst this;right;refine⟨_,by simp only[C6];rw[BB,if_neg (by omega)],⟨i,v,rfl,hij,hv,?_⟩⟩;rw[ht,Cq])
   (s:=(((),(b,()),(i:Int),((i+1:Nat):Int),()),(),(a,()))) ⟨i,i+1,a,rfl,by omega,by omega,rfl,by
     have hta:a.take (i+1)=a.take i++ [a[i]] :=by rw[Cr,ao hi];rfl
     rw[hta,Cv,ML (l:=a.take i) λx hx=> ?_]
     ·simp only[decide_eq_true_eq] at k2;simp[k2]
     ·obtain⟨j,hj,rfl⟩:=aP hx;have hj':j<i:=by simp at hj;omega
      have:=k3 j hj';rw[ao (by omega)] at this;rw[CE];simpa using this,rfl⟩
  obtain⟨e,h1,i',v,rfl,h2,h3,h4⟩:=loop;rw[show Fk (((),(b,()),(i:Int),((i+1:Nat):Int),()),(),(a,()))=_ from h1];have d1: (0:Int)<=(i':Int)/\(i':Int)<=(v.length:Int)/\(v.length:Int)<=((v.length:Nat):Int):=by omega
  have d2:i'+(v.length-i')<=v.length:=by omega
  have d3: (0:Int)<=0/\(0:Int)<=(i':Int)/\(i':Int)<=((v.length:Nat):Int):=by omega
  simp only[an,Cj,CK,aM,CA,AJ,if_pos d1,if_pos d2,if_pos d3];rw[if_pos ⟨trivial,by simp;omega⟩];rw[bf,CF (by simp;omega),List.take_take,Nat.min_self,h4]
theorem Nl(a b:List Int)(ha:Jf a)(hb:b.length<=maxLen):E0 a b=some (a.filter λx=> !decide (x∈b),()):=by have hl:=ha.len;unfold E0;rw[XC a ha,an,Wc a b (by omega) hb];rfl
theorem W6(a b:List Int)(ha:Jf a)(hb:b.length<=maxLen):Gu a b=some (a.filter λx=>decide (x∈b),()):=by
 have hl:=ha.len;unfold Gu;rw[Nl a b ha hb];simp only[an]
 rw[Nl a (a.filter λx=> !decide (x∈b)) ha (by have:=CB (λx=> !decide (x∈b)) a;unfold maxLen;omega)]
 simp only[an]
 congr 2
 apply List.filter_congr;intro x hx;simp[CI,hx]
theorem F8(c:mD)(h:D5 maxLen c):BT (CV c) (EU c):=by
 unfold CV EU;simp only[DC,Hk,an];cases Ff c.epoch 1 20 with
 |false=>exact⟨_,rfl,rfl⟩
 |true=>
  rcases NP c.replicas h.1 with ⟨a1,a2,a3⟩| ⟨a1,a2⟩
  ·rcases NP c.witnesses h.2 with ⟨b1,b2,b3⟩| ⟨b1,b2⟩
   ·simp only[a1,a2,b1,b2,an,Bg,(C9 c.replicas c.primary h.1).1,(C9 c.replicas c.primary h.1).2,Pp _ _ a3 h.2,W6 _ _ a3 h.2];cases decide (c.primary∈c.replicas)<;>exact⟨_,rfl,rfl⟩
   ·simp only[a1,a2,b1,b2,an,Bg,Ar];exact⟨_,rfl,rfl⟩
  ·simp only[a1,a2,an,Bg,Ar];exact⟨_,rfl,rfl⟩
end
section
theorem L3(l:List Int)(hl:l.length<=maxLen):BT (FU l) (Jq l):=by
 have eX:=Bo (B1:=IA) (B2:=DB) l.length (λk=>((l,(k:Int),()),(),())) (λk=>((l,(),(l.length:Int),(k:Int),()),(),())) (.inr ((l,(),()),(),())) (.inr (((),()),(),())) (λ_=> .inl ((l,false,()),(),())) (λk=> .inl (((k:Int),()),(),()))
  (λ_=>True) (λ_=>True)
  (by simp only[IA];rw[BB,if_neg (by omega)])
  (by simp only[DB];rw[BB,if_neg (by omega)])
  (λk hk=>by
    have c1: (k:Int)< (l.length:Int):=by omega
    have c2: (0:Int)<=(k:Int):=by omega
    simp only[IA,DB,BB,AJ,if_pos c1,if_pos c2,Cj,ao hk,an,KR,DC,Hk,Ap hl hk];cases Ff l[k] 0 3 with
    |false=>exact .inr ⟨rfl,rfl,trivial⟩
    |true=>exact .inl ⟨rfl,rfl,trivial⟩)
 unfold FU Jq Ej EL;rcases eX with ⟨k1,k2,_⟩| ⟨k,_,k1,k2,_⟩
 ·rw[show N4 ((l,0,()),(),())=_ from k1,show Fr ((l,(),(l.length:Int),0,()),(),())=_ from k2];simp only[an,Cz];cases ((l.length:Int)==5)<;>exact⟨_,rfl,rfl⟩
 ·rw[show N4 ((l,0,()),(),())=_ from k1,show Fr ((l,(),(l.length:Int),0,()),(),())=_ from k2];simp only[an,Cw];rw[decide_eq_true (by omega)];cases ((l.length:Int)==5)<;>exact⟨_,rfl,rfl⟩
theorem masterLog(m:jw)(h:KI maxLen m): ∃b,C7 m=some (b,())/\F3 m=some (b,()):=by
 obtain⟨hl,hc⟩:=h
 have eX:=Bo (B1:=DK) (B2:=Gp) m.configs.length (λk=>(((),(k:Int),()),((m.configs,m.activated,()),()),())) (λk=>(((),m.configs,(m.configs.length:Int),(k:Int),()),((m.configs,m.activated,()),()),())) (.inr (((),(),()),((m.configs,m.activated,()),()),())) (.inr (((),(),()),((m.configs,m.activated,()),()),())) (λ_=> .inl (((),false,()),((m.configs,m.activated,()),()),())) (λ_=> .inl (((),false,()),((m.configs,m.activated,()),()),()))
  (λ_=>True) (λ_=>True)
  (by simp only[DK];rw[BB,if_neg (by omega)])
  (by simp only[Gp];rw[BB,if_neg (by omega)])
  (λk hk=>by
    have c1: (k:Int)< (m.configs.length:Int):=by omega
    have c2: (0:Int)<=(k:Int):=by omega
    obtain⟨b,v1,v2⟩:=F8 m.configs[k] (hc _ (Cn hk));simp only[DK,Gp,BB,AJ,if_pos c1,if_pos c2,Cj,ao hk,an,v1,v2,Ap hl hk,CQ];cases b with
    |false=>exact .inr ⟨rfl,rfl,trivial⟩
    |true=>
     cases (m.configs[k].epoch==((k+1:Nat):Int)) with
     |false=>exact .inr ⟨rfl,rfl,trivial⟩
     |true=>exact .inl ⟨rfl,rfl,trivial⟩)
 unfold C7 F3;rcases eX with ⟨k1,k2,_⟩| ⟨k,_,k1,k2,_⟩
 ·rw[show HN (((),0,()),((m.configs,m.activated,()),()),())=_ from k1,show Lm (((),m.configs,(m.configs.length:Int),0,()),((m.configs,m.activated,()),()),())=_ from k2];simp only[an,Cz,DC,Hk];exact⟨_,rfl,rfl⟩
 ·rw[show HN (((),0,()),((m.configs,m.activated,()),()),())=_ from k1,show Lm (((),m.configs,(m.configs.length:Int),0,()),((m.configs,m.activated,()),()),())=_ from k2];exact⟨_,rfl,rfl⟩
theorem NW(x:s7):BT (EM x) (FM x):=by unfold EM FM;simp only[DC,Hk,an];cases ((x.epoch==0)&&((x.holder==0)&&((x.ends==0)&&true)))<;>cases Ff x.epoch 1 20<;>cases Ff x.holder 0 4<;>exact⟨_,rfl,rfl⟩
theorem Iy(l:List tc)(hl:l.length<=maxLen):BT (Dt l) (FI l):=by
 have eX:=Bo (B1:=GP) (B2:=Dm) l.length (λk=>((l,(k:Int),()),(),())) (λk=>((l,(),(l.length:Int),(k:Int),()),(),())) (.inr ((l,(),()),(),())) (.inr (((),()),(),())) (λ_=> .inl ((l,false,()),(),())) (λk=> .inl (((k:Int),()),(),()))
  (λ_=>True) (λ_=>True)
  (by simp only[GP];rw[BB,if_neg (by omega)])
  (by simp only[Dm];rw[BB,if_neg (by omega)])
  (λk hk=>by
    have c1: (k:Int)< (l.length:Int):=by omega
    have c2: (0:Int)<=(k:Int):=by omega
    simp only[GP,Dm,BB,AJ,if_pos c1,if_pos c2,Cj,ao hk,an,JK,DC,Hk,Ap hl hk];cases Ff l[k].rack 0 9 with
    |false=>exact .inr ⟨rfl,rfl,trivial⟩
    |true=>
     cases Ff l[k].capacity 0 9 with
     |false=>exact .inr ⟨rfl,rfl,trivial⟩
     |true=>
      cases Ff l[k].load 0 99 with
      |false=>exact .inr ⟨rfl,rfl,trivial⟩
      |true=>exact .inl ⟨rfl,rfl,trivial⟩)
 unfold Dt FI DY Ek;rcases eX with ⟨k1,k2,_⟩| ⟨k,_,k1,k2,_⟩
 ·rw[show M0 ((l,0,()),(),())=_ from k1,show EZ ((l,(),(l.length:Int),0,()),(),())=_ from k2];simp only[an,Cz];cases ((l.length:Int)==5)<;>exact⟨_,rfl,rfl⟩
 ·rw[show M0 ((l,0,()),(),())=_ from k1,show EZ ((l,(),(l.length:Int),0,()),(),())=_ from k2];simp only[an,Cw];rw[decide_eq_true (by omega)];cases ((l.length:Int)==5)<;>exact⟨_,rfl,rfl⟩
theorem Xz(x:Op):BT (DM x) (JA x):=by unfold DM JA;simp only[DC,Hk,an];cases Ff x.client 0 2<;>cases Ff x.seq 1 99<;>cases Ff x.object 0 2<;>cases Ff x.value 0 9<;>cases (x.kind==1)<;>cases (x.kind==2)<;>cases (x.old==0)<;>exact⟨_,rfl,rfl⟩
theorem isLog(l:List pZ)(hl:l.length<=maxLen): (DU l=some (true,())/\H3 l=some (true,())/\l.length<=16)\/(DU l=some (false,())/\H3 l=some (false,())):=by
 have eX:=Bo (B1:=IB) (B2:=LV) l.length (λk=>((l,(k:Int),()),(),())) (λk=>((l,l,(l.length:Int),(k:Int),()),(),())) (.inr ((l,(),()),(),())) (.inr ((l,(),()),(),())) (λ_=> .inl ((l,false,()),(),())) (λ_=> .inl ((l,false,()),(),()))
  (λ_=>True) (λ_=>True)
  (by simp only[IB];rw[BB,if_neg (by omega)])
  (by simp only[LV];rw[BB,if_neg (by omega)])
  (λk hk=>by
    have c1: (k:Int)< (l.length:Int):=by omega
    have c2: (0:Int)<=(k:Int):=by omega
    obtain⟨b,v1,v2⟩:=Xz l[k].op;simp only[IB,LV,BB,AJ,if_pos c1,if_pos c2,Cj,ao hk,an,v1,v2,DC,Hk,Ap hl hk,CQ];cases Ff l[k].epoch 1 20 with
    |false=>exact .inr ⟨rfl,rfl,trivial⟩
    |true=>
     simp only[Bg];by_cases h0:0<k
     ·have c3: (k:Int)>0:=by omega
      have c4: (0:Int)<=((k-1:Nat):Int):=by omega
      have e2:l[k-1]? =some l[k-1] :=ao (by omega);simp only[if_pos c3,Ao h0 (by omega),if_pos c4,Cj,e2,an];by_cases hlt:l[k].epoch<l[k-1].epoch
      ·rw[if_pos hlt,if_pos (show l[k-1].epoch>l[k].epoch from hlt)];cases b<;>exact .inr ⟨rfl,rfl,trivial⟩
      ·rw[if_neg hlt,if_neg (show ¬l[k-1].epoch>l[k].epoch from hlt)];cases b with
       |false=>exact .inr ⟨rfl,rfl,trivial⟩
       |true=>exact .inl ⟨rfl,rfl,trivial⟩
     ·have c3: ¬ (k:Int)>0:=by omega
      simp only[if_neg c3];cases b with
      |false=>exact .inr ⟨rfl,rfl,trivial⟩
      |true=>exact .inl ⟨rfl,rfl,trivial⟩)
 unfold DU H3;rcases eX with ⟨k1,k2,_⟩| ⟨k,_,k1,k2,_⟩
 ·rw[show Nw ((l,0,()),(),())=_ from k1,show QV ((l,l,(l.length:Int),0,()),(),())=_ from k2];simp only[an,Cz];by_cases h: (l.length:Int)<=16
  ·rw[decide_eq_true h];exact .inl ⟨rfl,rfl,by omega⟩
  ·rw[decide_eq_false h];exact .inr ⟨rfl,rfl⟩
 ·rw[show Nw ((l,0,()),(),())=_ from k1,show QV ((l,l,(l.length:Int),0,()),(),())=_ from k2];exact .inr ⟨rfl,rfl⟩
theorem LF(a b:List Int)(ha:a.length<=maxLen):Hg a b=some (decide (a=b),())/\Ha a b=some (decide (a=b),()):=by
 unfold Hg Ha HB;by_cases hlen:a.length=b.length
 ·have hbe: (!((a.length:Int)==(b.length:Int)))=false:=by simp[hlen]
  have eX:=Bo (B1:=F9) (B2:=Gg) a.length (λk=>((a,b,(k:Int),()),(),())) (λk=>((a,b,(a.length:Int),(k:Int),()),(),())) (.inr (((),()),(),())) (.inr (((),()),(),())) (λ_=> .inl ((false,()),(),())) (λ_=> .inl ((false,()),(),()))
   (λk=>a[k]? =b[k]?) (λk=>a[k]? ≠b[k]?)
   (by simp only[F9];rw[BB,if_neg (by omega)])
   (by simp only[Gg];rw[BB,if_neg (by omega)])
   (λk hk=>by
     have c1: (k:Int)< (a.length:Int):=by omega
     have c2: (0:Int)<=(k:Int):=by omega
     simp only[F9,Gg,BB,AJ,if_pos c1,if_pos c2,Cj,ao hk,ao (show k<b.length by omega),an,Ap ha hk,CQ,Fm];by_cases he:a[k] =b[k]'(by omega)
     ·simp only[if_pos he];exact .inl ⟨trivial,trivial,by rw[he]⟩
     ·simp only[if_neg he];exact .inr ⟨trivial,trivial,λh=>he (Option.some.inj h)⟩)
  rw[hbe,Ar,Ar];rcases eX with ⟨k1,k2,k3⟩| ⟨k,hk,k1,k2,k3⟩
  ·rw[show KF ((a,b,0,()),(),())=_ from k1,show Mq ((a,b,(a.length:Int),0,()),(),())=_ from k2]
   have :a=b:=bu λk=>by
    rcases cM k a.length with h|h
    ·exact k3 k h
    ·rw[ck h,ck (by omega)]
   rw[decide_eq_true this];exact⟨rfl,rfl⟩
  ·rw[show KF ((a,b,0,()),(),())=_ from k1,show Mq ((a,b,(a.length:Int),0,()),(),())=_ from k2];have :a≠b:=λh=>k3 (by rw[h]);rw[decide_eq_false this];exact⟨rfl,rfl⟩
 ·have hbe: (!((a.length:Int)==(b.length:Int)))=true:=by
   simp only[bD,beq_eq_false_iff_ne,ne_eq];omega
  rw[hbe,Bg,Bg,decide_eq_false (λh=>hlen (by rw[h]))];exact⟨rfl,rfl⟩
theorem Ew(a b:mD)(ha:D5 maxLen a):Fa a b=some (decide (a=b),())/\Es a b=some (decide (a=b),()):=by unfold Fa Es;simp only[(LF a.replicas b.replicas ha.1).1,(LF a.replicas b.replicas ha.1).2,(LF a.witnesses b.witnesses ha.2).1,(LF a.witnesses b.witnesses ha.2).2,an,Fm,BB];obtain⟨a1,a2,a3,a4⟩:=a;obtain⟨b1,b2,b3,b4⟩:=b;simp only[mD.mk.injEq];by_cases h1:a1=b1<;>by_cases h2:a2=b2<;>by_cases h3:a3=b3<;>by_cases h4:a4=b4<;>simp[h1,h2,h3,h4]
theorem IJ(l:List pZ)(hl:l.length<=maxLen): ∃n,Gz l=some (n,())/\Ie l=some (n,()):=by
 unfold Gz Ie;rcases bh l.length with h|h
 ·have : ((l.length:Int)==0)=true:=by simp[h]
  rw[this];exact⟨_,rfl,rfl⟩
 ·have : ((l.length:Int)==0)=false:=by
   simp only[beq_eq_false_iff_ne,ne_eq];omega
  rw[this,Ar,Ao h hl,AL (by omega),Cj,ao (show l.length-1<l.length by omega)];exact⟨_,rfl,rfl⟩
theorem N7(c:mD)(x:Int)(h:D5 maxLen c): ∃n,D8 c x=some (n,())/\JN c x=some (n,())/\(n=0\/n=1\/n=2\/n=3):=by unfold D8 JN;obtain⟨b,v1,v2⟩:=F8 c h;simp only[v1,v2,an,(C9 c.replicas x h.1).1,(C9 c.replicas x h.1).2,(C9 c.witnesses x h.2).1,(C9 c.witnesses x h.2).2];cases b<;>cases (x==c.primary)<;>cases decide (x∈c.replicas)<;>cases decide (x∈c.witnesses)<;>exact⟨_,rfl,rfl,by decide⟩
end
section
theorem C5{c:mD}(h:D5 1048576 c):D5 maxLen c:=⟨CW h.1,CW h.2⟩
theorem ED{m:jw}(h:KI 1048576 m):KI maxLen m:=⟨CW h.1,λc hc=>C5 (h.2 c hc)⟩
theorem Jm(c:mD)(h:D5 maxLen c):HW c=some (decide (c=⟨0,0,[],[]⟩),()):=by unfold HW;rw[(Ew c _ h).1];rfl
theorem MU(s:o4)(id:Int)(h:Dz 1048576 s):BT (CU s id) (Gv s id):=by
 have hc:=C5 h.1;unfold CU Gv;simp only[DC,Hk,an,CQ];cases Ff s.version 1 2 with
 |false=>exact⟨_,rfl,rfl⟩
 |true=>
 cases Ff s.epoch 0 20 with
 |false=>exact⟨_,rfl,rfl⟩
 |true=>
 rcases isLog s.log (CW h.2.1) with ⟨a1,a2,a3⟩| ⟨a1,a2⟩
 case inr=>simp only[a1,a2,an,Bg,Ar];exact⟨_,rfl,rfl⟩
 rcases isLog s.learned (CW h.2.2) with ⟨b1,b2,b3⟩| ⟨b1,b2⟩
 case inr=>simp only[a1,a2,b1,b2,an,Bg,Ar];exact⟨_,rfl,rfl⟩
 simp only[a1,a2,b1,b2,an,Bg];cases hw:Ff s.first 0 16 with
 |false=>exact⟨_,rfl,rfl⟩
 |true=>
 have hf:=CS.1 hw;rw[uj (n:=s.first+(s.log.length:Int)) (by omega) (by omega)];by_cases h16:s.first+(s.log.length:Int)<=16
 case neg=>
  have e1:Ff (s.first+(s.log.length:Int)) 0 16=false:=by unfold Ff;simp;omega
  simp only[e1,Bg,Ar,BB,if_pos (show s.first+(s.log.length:Int)>16 by omega)];exact⟨_,rfl,rfl⟩
 have e1:Ff (s.first+(s.log.length:Int)) 0 16=true:=CS.2 ⟨by omega,h16⟩;simp only[e1,Bg,BB,if_neg (show ¬s.first+(s.log.length:Int)>16 by omega),Jm s.config hc,(Ew s.config ⟨0,0,[],[]⟩ hc).2,an];cases Ff s.commit 0 (s.first+(s.log.length:Int)) with
 |false=>exact⟨_,rfl,rfl⟩
 |true=>
 simp only[Bg];by_cases hz:s.config=⟨0,0,[],[]⟩
 ·simp only[if_pos hz];cases (s.first==0)<;>cases (s.commit==0)<;>cases ((s.log.length:Int)==0)<;>exact⟨_,rfl,rfl⟩
 ·simp only[if_neg hz];cases s.intact with
  |false=>exact⟨_,rfl,rfl⟩
  |true=>
  simp only[Bg];by_cases he:s.epoch<s.config.epoch
  ·simp only[if_pos he];exact⟨_,rfl,rfl⟩
  ·simp only[if_neg he];obtain⟨n,n1,n2⟩:=IJ s.log (CW h.2.1);simp only[n1,n2,an];by_cases hn:n>s.config.epoch
   ·simp only[if_pos hn];exact⟨_,rfl,rfl⟩
   ·simp only[if_neg hn];obtain⟨r,r1,r2,r3⟩:=N7 s.config id hc;simp only[r1,r2,an];rcases r3 with rfl|rfl|rfl|rfl
    ·exact⟨_,rfl,rfl⟩
    ·exact⟨_,rfl,rfl⟩
    ·exact⟨_,rfl,rfl⟩
    ·have ht:L7 s.first s.log=some (decide ((s.log.length:Int)<=3)&&((s.first==0)||((s.log.length:Int)==3)),()):=by
      unfold L7;simp only[a2,Hk,an,Bg,BB];rw[uj (by omega) (by omega),show Ff s.first 0 (16-(s.log.length:Int))=true from CS.2 ⟨by omega,by omega⟩];by_cases h3: (s.log.length:Int)<=3
      ·rw[if_pos h3,decide_eq_true h3];cases (s.first==0)<;>cases ((s.log.length:Int)==3)<;>rfl
      ·rw[if_neg h3,decide_eq_false h3];rfl
     rw[ht];by_cases h3: (s.log.length:Int)<=3
     ·rw[if_pos h3,decide_eq_true h3];cases (s.first==0)<;>cases ((s.log.length:Int)==3)<;>exact⟨_,rfl,rfl⟩
     ·rw[if_neg h3,decide_eq_false h3];exact⟨_,rfl,rfl⟩
theorem KX(m:jw)(e:Int)(h:KI 1048576 m): ∃c b,EY m e=some (c,b,())/\Hw m e=some (c,b,())/\D5 maxLen c:=by
 obtain⟨b,m1,m2⟩:=masterLog m (ED h);have zero:D5 maxLen ⟨0,0,[],[]⟩:=⟨bL _,bL _⟩
 have hl:=h.1;unfold EY Hw;simp only[m1,m2,DC,Hk,an,CQ];cases b with
 |false=>exact⟨_,_,rfl,rfl,zero⟩
 |true=>
  cases hw:Ff e 1 (m.configs.length:Int) with
  |false=>exact⟨_,_,rfl,rfl,zero⟩
  |true=>
   have hw:=CS.1 hw;simp only[Bg];rw[uj (n:=e-1) (by omega) (by omega)];have hlt: (e-1).toNat<m.configs.length:=by omega
   have hk:=h.2 _ (Cn hlt)
   have copy: ∀c:mD,D5 1048576 c->Gj c=some (c,())/\Ey c=some (c,()):=by intro c hc;unfold Gj Ey;simp only[bC];rw[AL (FR hc.1),AL (FR hc.2)];exact⟨rfl,rfl⟩
   rw[AL (by omega),AL (by omega),ao hlt];simp only[an,(copy _ hk).1,(copy _ hk).2];exact⟨_,_,rfl,rfl,C5 hk⟩
theorem Dg(x:oZ)(h:Dd 1048576 x):BT (CP x) (DL x):=by
 obtain⟨⟨hs1,hs2⟩,hsd,hml,hpl⟩:=h;have hm:=CW hs1
 have eX:=Bo (B1:=CX) (B2:=Ft) x.servers.length (λk=>(((),(k:Int),()),((x.now,x.servers,x.sides,x.master.configs,x.master.activated,x.masterUp,x.lease.epoch,x.lease.holder,x.lease.ends,x.places,()),()),())) (λk=>(((),x.servers,(x.servers.length:Int),(k:Int),()),((x.now,x.servers,x.sides,x.master.configs,x.master.activated,x.masterUp,x.lease.epoch,x.lease.holder,x.lease.ends,x.places,()),()),())) (.inr (((),()),(),())) (.inr (((),()),(),())) (λ_=> .inl ((false,()),(),())) (λ_=> .inl ((false,()),(),()))
  (λ_=>True) (λ_=>True)
  (by simp only[CX];rw[BB,if_neg (by omega)])
  (by simp only[Ft];rw[BB,if_neg (by omega)])
  (λk hk=>by
    have c1: (k:Int)< (x.servers.length:Int):=by omega
    have c2: (0:Int)<=(k:Int):=by omega
    have hsk:=hs2 _ (Cn hk);obtain⟨b,v1,v2⟩:=MU x.servers[k] (k:Int) hsk;obtain⟨n,n1,n2⟩:=IJ x.servers[k].learned (CW hsk.2.2);obtain⟨c,d,d1,d2,d3⟩:=KX x.master x.servers[k].config.epoch hml;have hcfg:=C5 hsk.1
    simp only[CX,Ft,BB,AJ,if_pos c1,if_pos c2,Cj,ao hk,an,v1,v2,n1,n2,Ap hm hk,CQ,
     show (⟨x.master.configs,x.master.activated⟩:jw)=x.master from rfl,d1,d2,Jm _ hcfg,(Ew _ (⟨0,0,[],[]⟩:mD) hcfg).2,(Ew c x.servers[k].config d3).1,(Ew c x.servers[k].config d3).2]
    cases b with
    |false=>exact .inr ⟨rfl,rfl,trivial⟩
    |true=>
     simp only[Bg];by_cases h1:x.servers[k].epoch>(x.master.configs.length:Int)
     ·simp only[if_pos h1];exact .inr ⟨trivial,trivial,trivial⟩
     ·simp only[if_neg h1];by_cases h2:n>x.master.activated
      ·simp only[if_pos h2];exact .inr ⟨trivial,trivial,trivial⟩
      ·simp only[if_neg h2];by_cases h3:x.servers[k].config=⟨0,0,[],[]⟩
       ·simp only[if_pos h3];exact .inl ⟨trivial,trivial,trivial⟩
       ·simp only[if_neg h3];cases d with
        |false=>exact .inr ⟨rfl,rfl,trivial⟩
        |true=>
         simp only[Bg];by_cases h4:c=x.servers[k].config
         ·simp only[if_pos h4];by_cases h5:x.servers[k].config.epoch>x.master.activated
          ·simp only[if_pos h5];exact .inr ⟨trivial,trivial,trivial⟩
          ·simp only[if_neg h5];exact .inl ⟨trivial,trivial,trivial⟩
         ·simp only[if_neg h4];exact .inr ⟨trivial,trivial,trivial⟩)
 unfold CP DL;obtain⟨b1,a1,a2⟩:=L3 x.sides (CW hsd);obtain⟨b2,m1,m2⟩:=masterLog x.master (ED hml);obtain⟨b3,l1,l2⟩:=NW x.lease;obtain⟨b4,p1,p2⟩:=Iy x.places (CW hpl);simp only[DC,Hk,a1,a2,m1,m2,l1,l2,p1,p2,an,CQ,BB];cases Ff x.now 0 999 with
 |false=>exact⟨_,rfl,rfl⟩
 |true=>
 cases ((x.servers.length:Int)==5) with
 |false=>exact⟨_,rfl,rfl⟩
 |true=>
 cases b1 with
 |false=>exact⟨_,rfl,rfl⟩
 |true=>
 cases b2 with
 |false=>exact⟨_,rfl,rfl⟩
 |true=>
 cases Ff x.masterUp 0 3 with
 |false=>cases b3<;>cases b4<;>exact⟨_,rfl,rfl⟩
 |true=>
 cases b3 with
 |false=>exact⟨_,rfl,rfl⟩
 |true=>
 cases b4 with
 |false=>exact⟨_,rfl,rfl⟩
 |true=>
 simp only[Bg];by_cases h1:x.lease.epoch>x.master.activated
 ·simp only[if_pos h1];exact⟨_,rfl,rfl⟩
 ·simp only[if_neg h1];rcases eX with ⟨k1,k2,_⟩| ⟨k,_,k1,k2,_⟩
  ·rw[show Fy (((),0,()),((x.now,x.servers,x.sides,x.master.configs,x.master.activated,x.masterUp,x.lease.epoch,x.lease.holder,x.lease.ends,x.places,()),()),())=_ from k1,show Jt (((),x.servers,(x.servers.length:Int),0,()),((x.now,x.servers,x.sides,x.master.configs,x.master.activated,x.masterUp,x.lease.epoch,x.lease.holder,x.lease.ends,x.places,()),()),())=_ from k2];exact⟨_,rfl,rfl⟩
  ·rw[show Fy (((),0,()),((x.now,x.servers,x.sides,x.master.configs,x.master.activated,x.masterUp,x.lease.epoch,x.lease.holder,x.lease.ends,x.places,()),()),())=_ from k1,show Jt (((),x.servers,(x.servers.length:Int),0,()),((x.now,x.servers,x.sides,x.master.configs,x.master.activated,x.masterUp,x.lease.epoch,x.lease.holder,x.lease.ends,x.places,()),()),())=_ from k2];exact⟨_,rfl,rfl⟩
end
section
theorem Gh{c:mD}(h:D5 maxLen c)(hv:CV c=some (true,())):Jf c.replicas/\Jf c.witnesses/\c.primary∈c.replicas/\1<=c.epoch/\c.epoch<=20/\ ∀x∈c.replicas,x∉c.witnesses:=by
 unfold CV at hv;simp only[DC,an] at hv;cases hw:Ff c.epoch 1 20 with
 |false=>rw[hw] at hv;cases hv
 |true=>
  rw[hw] at hv;rcases NP c.replicas h.1 with ⟨a1,a2,a3⟩| ⟨a1,a2⟩
  ·rcases NP c.witnesses h.2 with ⟨b1,b2,b3⟩| ⟨b1,b2⟩
   ·simp only[a1,b1,an,Bg,(C9 c.replicas c.primary h.1).1,Pp _ _ a3 h.2,BB] at hv;by_cases hp:c.primary∈c.replicas
    ·rw[if_pos hp] at hv;refine⟨a3,b3,hp,(CS.1 hw).1,(CS.1 hw).2,λx hx hxw=> ?_⟩
     have hz: ((((c.replicas.filter λx=>decide (x∈c.witnesses)).length:Nat):Int)==0)=true:=by simpa using hv
     have hz: (c.replicas.filter λx=>decide (x∈c.witnesses)).length=0:=by simp only[beq_iff_eq] at hz;omega
     have:=aY hz;have hm:x∈c.replicas.filter λx=>decide (x∈c.witnesses):=by simp[CI,hx,hxw]
     rw[this] at hm;cases hm
    ·rw[if_neg hp] at hv;cases hv
   ·simp only[a1,b1,an,Bg,Ar] at hv;cases hv
  ·simp only[a1,an,Bg,Ar] at hv;cases hv
theorem LS{m:jw}(h:KI maxLen m)(hv:C7 m=some (true,())): (∀k (hk:k<m.configs.length),CV m.configs[k] =some (true,())/\m.configs[k].epoch=(k:Int)+1)/\0<=m.activated/\m.activated<=(m.configs.length:Int):=by
 obtain⟨hl,hc⟩:=h
 have eX:=Bo (B1:=DK) (B2:=DK) m.configs.length (λk=>(((),(k:Int),()),((m.configs,m.activated,()),()),())) (λk=>(((),(k:Int),()),((m.configs,m.activated,()),()),())) (.inr (((),(),()),((m.configs,m.activated,()),()),())) (.inr (((),(),()),((m.configs,m.activated,()),()),())) (λ_=> .inl (((),false,()),((m.configs,m.activated,()),()),())) (λ_=> .inl (((),false,()),((m.configs,m.activated,()),()),()))
  (λk=> ∀hk:k<m.configs.length,CV m.configs[k] =some (true,())/\m.configs[k].epoch=(k:Int)+1) (λ_=>True)
  (by simp only[DK];rw[BB,if_neg (by omega)])
  (by simp only[DK];rw[BB,if_neg (by omega)])
  (λk hk=>by
    have c1: (k:Int)< (m.configs.length:Int):=by omega
    have c2: (0:Int)<=(k:Int):=by omega
    obtain⟨b,v1,v2⟩:=F8 m.configs[k] (hc _ (Cn hk))
    have step:DK (((),(k:Int),()),((m.configs,m.activated,()),()),())=br b (br (m.configs[k].epoch==((k+1:Nat):Int)) (some (.inl (((),((k+1:Nat):Int),()),((m.configs,m.activated,()),()),()))) (some (.inr (.inl (((),false,()),((m.configs,m.activated,()),()),()))))) (some (.inr (.inl (((),false,()),((m.configs,m.activated,()),()),())))):=by simp only[DK,BB,AJ,if_pos c1,if_pos c2,Cj,ao hk,an,v1,Ap hl hk,CQ]
    rw[step];cases b with
    |false=>exact .inr ⟨rfl,rfl,trivial⟩
    |true=>
     rw[Bg,Fm];by_cases he:m.configs[k].epoch=((k+1:Nat):Int)
     ·rw[if_pos he];exact .inl ⟨rfl,rfl,λ_=>⟨v1,by omega⟩⟩
     ·rw[if_neg he];exact .inr ⟨rfl,rfl,trivial⟩)
 unfold C7 at hv;rcases eX with ⟨k1,_,k3⟩| ⟨k,_,k1,_,_⟩
 ·rw[show HN (((),0,()),((m.configs,m.activated,()),()),())=_ from k1] at hv;simp only[an,Cz,DC,ae,ap,and_true] at hv;exact⟨λk hk=>k3 k hk hk,(CS.1 hv).1,(CS.1 hv).2⟩
 ·rw[show HN (((),0,()),((m.configs,m.activated,()),()),())=_ from k1] at hv;cases hv
theorem Kg{s:o4}{id:Int}(h:Dz 1048576 s)(hv:CU s id=some (true,())):0<=s.first/\s.first<=16/\s.log.length<=16/\0<=s.commit/\s.commit<=s.first+(s.log.length:Int)/\DU s.log=some (true,())/\DU s.learned=some (true,())/\0<=s.epoch/\s.epoch<=20:=by
 unfold CU at hv;simp only[DC,an,CQ] at hv;cases h1:Ff s.version 1 2 with
 |false=>rw[h1] at hv;cases hv
 |true=>
 cases h2:Ff s.epoch 0 20 with
 |false=>rw[h1,h2] at hv;cases hv
 |true=>
 rw[h1,h2] at hv;rcases isLog s.log (CW h.2.1) with ⟨a1,a2,a3⟩| ⟨a1,a2⟩
 case inr=>simp only[a1,an,Bg,Ar] at hv;cases hv
 rcases isLog s.learned (CW h.2.2) with ⟨b1,b2,b3⟩| ⟨b1,b2⟩
 case inr=>simp only[a1,b1,an,Bg,Ar] at hv;cases hv
 simp only[a1,b1,an,Bg] at hv;cases hw:Ff s.first 0 16 with
 |false=>rw[hw] at hv;cases hv
 |true=>
 have hf:=CS.1 hw;rw[hw,uj (n:=s.first+(s.log.length:Int)) (by omega) (by omega)] at hv;simp only[Bg] at hv;cases h3:Ff (s.first+(s.log.length:Int)) 0 16 with
 |false=>rw[h3] at hv;cases hv
 |true=>
 cases h4:Ff s.commit 0 (s.first+(s.log.length:Int)) with
 |false=>rw[h3,h4] at hv;cases hv
 |true=>
 exact⟨hf.1,hf.2,a3,(CS.1 h4).1,(CS.1 h4).2,a1,b1,(CS.1 h2).1,(CS.1 h2).2⟩
structure VC (x:oZ):Prop where
 len:x.servers.length=5
 ml:C7 x.master=some (true,())
 sides:FU x.sides=some (true,())
 places:Dt x.places=some (true,())
 lease:EM x.lease=some (true,())
 now:0<=x.now/\x.now<=999
 up:0<=x.masterUp/\x.masterUp<=3
 srv: ∀k (hk:k<x.servers.length),CU x.servers[k] (k:Int)=some (true,())
theorem Dl{x:oZ}(h:Dd 1048576 x)(hv:CP x=some (true,())):VC x:=by
 obtain⟨⟨hs1,hs2⟩,hsd,hml,hpl⟩:=h;have hm:=CW hs1
 have eX:=Bo (B1:=CX) (B2:=CX) x.servers.length (λk=>(((),(k:Int),()),((x.now,x.servers,x.sides,x.master.configs,x.master.activated,x.masterUp,x.lease.epoch,x.lease.holder,x.lease.ends,x.places,()),()),())) (λk=>(((),(k:Int),()),((x.now,x.servers,x.sides,x.master.configs,x.master.activated,x.masterUp,x.lease.epoch,x.lease.holder,x.lease.ends,x.places,()),()),())) (.inr (((),()),(),())) (.inr (((),()),(),())) (λ_=> .inl ((false,()),(),())) (λ_=> .inl ((false,()),(),()))
  (λk=> ∀hk:k<x.servers.length,CU x.servers[k] (k:Int)=some (true,())) (λ_=>True)
  (by simp only[CX];rw[BB,if_neg (by omega)])
  (by simp only[CX];rw[BB,if_neg (by omega)])
  (λk hk=>by
    have c1: (k:Int)< (x.servers.length:Int):=by omega
    have c2: (0:Int)<=(k:Int):=by omega
    have hsk:=hs2 _ (Cn hk);obtain⟨b,v1,v2⟩:=MU x.servers[k] (k:Int) hsk;obtain⟨n,n1,n2⟩:=IJ x.servers[k].learned (CW hsk.2.2);obtain⟨c,d,d1,d2,d3⟩:=KX x.master x.servers[k].config.epoch hml;have hcfg:=C5 hsk.1
    have step:CX (((),(k:Int),()),((x.now,x.servers,x.sides,x.master.configs,x.master.activated,x.masterUp,x.lease.epoch,x.lease.holder,x.lease.ends,x.places,()),()),())=some (.inr (.inl ((false,()),(),())))\/(b=true/\CX (((),(k:Int),()),((x.now,x.servers,x.sides,x.master.configs,x.master.activated,x.masterUp,x.lease.epoch,x.lease.holder,x.lease.ends,x.places,()),()),())=some (.inl (((),((k+1:Nat):Int),()),((x.now,x.servers,x.sides,x.master.configs,x.master.activated,x.masterUp,x.lease.epoch,x.lease.holder,x.lease.ends,x.places,()),()),()))):=by
     simp only[CX,BB,AJ,if_pos c1,if_pos c2,Cj,ao hk,an,v1,n1,Ap hm hk,CQ,
      show (⟨x.master.configs,x.master.activated⟩:jw)=x.master from rfl,d1,Jm _ hcfg,(Ew c x.servers[k].config d3).1]
     cases b with
     |false=>exact .inl rfl
     |true=>
      simp only[Bg]
      repeat' split
      all_goals first |exact .inl trivial|exact .inr ⟨trivial,trivial⟩| (cases d<;>first |exact .inl rfl| (simp only[Bg];repeat' split)<;>first |exact .inl trivial|exact .inr ⟨trivial,trivial⟩)
    rcases step with h1| ⟨rfl,h1⟩
    ·rw[h1];exact .inr ⟨rfl,rfl,trivial⟩
    ·rw[h1];exact .inl ⟨rfl,rfl,λ_=>v1⟩)
 unfold CP at hv;obtain⟨b1,a1,a2⟩:=L3 x.sides (CW hsd);obtain⟨b2,m1,m2⟩:=masterLog x.master (ED hml);obtain⟨b3,l1,l2⟩:=NW x.lease;obtain⟨b4,p1,p2⟩:=Iy x.places (CW hpl);simp only[DC,a1,m1,l1,p1,an,CQ,BB] at hv;cases h1:Ff x.now 0 999 with
 |false=>rw[h1] at hv;cases hv
 |true=>
 cases h2: ((x.servers.length:Int)==5) with
 |false=>rw[h1,h2] at hv;cases hv
 |true=>
 cases b1 with
 |false=>rw[h1,h2] at hv;cases hv
 |true=>
 cases b2 with
 |false=>rw[h1,h2] at hv;cases hv
 |true=>
 cases h3:Ff x.masterUp 0 3 with
 |false=>rw[h1,h2,h3] at hv;cases hv
 |true=>
 cases b3 with
 |false=>rw[h1,h2,h3] at hv;cases hv
 |true=>
 cases b4 with
 |false=>rw[h1,h2,h3] at hv;cases hv
 |true=>
 rw[h1,h2,h3] at hv;simp only[Bg] at hv;by_cases h4:x.lease.epoch>x.master.activated
 ·rw[if_pos h4] at hv;cases hv
 ·rw[if_neg h4] at hv;rcases eX with ⟨k1,_,k3⟩| ⟨k,_,k1,_,_⟩
  ·refine⟨?_,m1,a1,p1,l1,CS.1 h1,CS.1 h3,λk hk=>k3 k hk hk⟩;simp only[beq_iff_eq] at h2;omega
  ·rw[show Fy (((),0,()),((x.now,x.servers,x.sides,x.master.configs,x.master.activated,x.masterUp,x.lease.epoch,x.lease.holder,x.lease.ends,x.places,()),()),())=_ from k1] at hv;cases hv
end
section
theorem Zp(l:List pZ)(hl:l.length<=maxLen):BT (Dy l) (Hc l):=by
 have eX:=Bo (B1:=Fw) (B2:=Da) l.length (λk=>((l,(k:Int),()),(),())) (λk=>((l,(),(l.length:Int),(k:Int),()),(),())) (.inr (((),()),(),())) (.inr (((),()),(),())) (λ_=> .inl ((true,()),(),())) (λk=> .inl (((k:Int),()),(),()))
  (λ_=>True) (λ_=>True)
  (by simp only[Fw];rw[BB,if_neg (by omega)])
  (by simp only[Da];rw[BB,if_neg (by omega)])
  (λk hk=>by
    have c1: (k:Int)< (l.length:Int):=by omega
    have c2: (0:Int)<=(k:Int):=by omega
    simp only[Fw,Da,H4,KS,GS,BB,AJ,if_pos c1,if_pos c2,Cj,ao hk,an,Ap hl hk];cases (l[k].op.kind==2) with
    |false=>exact .inl ⟨rfl,rfl,trivial⟩
    |true=>exact .inr ⟨rfl,rfl,trivial⟩)
 unfold Dy Hc DP DZ;rcases eX with ⟨k1,k2,_⟩| ⟨k,_,k1,k2,_⟩
 ·rw[show KG ((l,0,()),(),())=_ from k1,show EA ((l,(),(l.length:Int),0,()),(),())=_ from k2];exact⟨_,rfl,rfl⟩
 ·rw[show KG ((l,0,()),(),())=_ from k1,show EA ((l,(),(l.length:Int),0,()),(),())=_ from k2];simp only[an,Cw];rw[decide_eq_true (by omega)];exact⟨_,rfl,rfl⟩
end
section
section
variable {α:Type}
def K9(w:α->Int):List α->Int
 | [] =>0
 |x::l=>w x+K9 w l
theorem Vj(w:α->Int)(a b:List α):K9 w (a++b)=K9 w a+K9 w b:=by
 induction a with
 |nil=>simp[K9]
 |cons x a ih=>simp only[cw,K9,ih];omega
def H6(l:List α):Int:=(l.length:Int)
end
def Qd(c:mD):Int:=H6 c.replicas+H6 c.witnesses
def NN(s:o4):Int:=Qd s.config+H6 s.log+H6 s.learned
def tMl(m:jw):Int:=H6 m.configs+K9 Qd m.configs
def tSs(l:List o4):Int:=H6 l+K9 NN l
def Tq(c:oZ):Int:=tSs c.servers+H6 c.sides+tMl c.master+H6 c.places
theorem aay{α:Type}(l:List α):0<=H6 l:=by unfold H6;omega
theorem R8(c:mD):0<=Qd c:=by unfold Qd H6;omega
theorem aaw(s:o4):0<=NN s:=by have:=R8 s.config;unfold NN H6;omega
end
section

end
section
theorem Qc{n c:Nat}(h:n<=1048577)(hc:c<=1000):n*c<=2 ^ 40:=by
 have h1:n*c<=1048577*1000:=Nat.mul_le_mul h hc;have h2: (2:Nat) ^ 40=1099511627776:=by decide
 omega
theorem KP(c:mD)(h:D5 1048576 c):Gj c=some (c,())/\Ey c=some (c,()):=by have a:=h.1;have b:=h.2;unfold Gj Ey;simp only[bC,AJ,if_pos (Qc (Cx a) (show 8<=1000 by decide)),if_pos (Qc (Cx b) (show 8<=1000 by decide))];exact⟨trivial,trivial⟩
theorem H2(l:List pZ)(h:l.length<=1048576):EF l=some (l,())/\DW l=some (l,()):=by unfold EF DW;simp only[bC,AJ,if_pos (Qc (Cx h) (show 56<=1000 by decide))];exact⟨trivial,trivial⟩
theorem ZU(l:List Int)(h:l.length<=1048576):FG l=some (l,()):=by unfold FG;simp only[AJ,if_pos (Qc (Cx h) (show 8<=1000 by decide))]
theorem Wb(l:List tc)(h:l.length<=1048576):JY l=some (l,()):=by unfold JY;simp only[AJ,if_pos (Qc (Cx h) (show 24<=1000 by decide))]
theorem MJ(s:o4)(h:Dz 1048576 s):Gy s=some (s,())/\EV s=some (s,()):=by unfold Gy EV;simp only[(KP _ h.1).1,(KP _ h.1).2,(H2 _ h.2.1).1,(H2 _ h.2.1).2,(H2 _ h.2.2).1,(H2 _ h.2.2).2,an];exact⟨trivial,trivial⟩
theorem Ef{α:Type}{l:List α}{k:Nat}{x:α}(h:l[k]? =some x):l.take (k+1)=l.take k++ [x] :=by rw[Cr,h];rfl
theorem LU{α:Type}(l:List α)(k:Nat)(x:α)(h:l.length<=1048576): (l.take k++ [x]).length<=1048577:=by rw[bI,cH,cm];omega
theorem NU(m:jw)(h:KI 1048576 m):Kx m=some (m,())/\Hx m=some (m,()):=by
 obtain⟨hl,hc⟩:=h
 have k1:=AN (B:=Jy) m.configs (λk (b:List mD)=>(((),(),(),(k:Int),()),((m.configs,m.activated,()),((),0,()),((),m.activated,()),()),(b,()))) (λk b=>b=m.configs.take k) (λ_ _ _=>(((),(),()),(((),0,()),((),m.activated,()),()),(m.configs,())))
  (λb hb=>by simp only[Jy];rw[BB,if_neg (by omega),hb,Cq])
  (λk b c hx hb=>by
    have hk:=BI hx;have c1: (k:Int)< (m.configs.length:Int):=by omega
    have c2: (0:Int)<=(k:Int):=by omega
    subst hb;refine .inl ⟨m.configs.take (k+1),?_,rfl,rfl⟩;simp only[Jy,BB,AJ,if_pos c1,if_pos c2,Cj,hx,an,(KP c (hc c (ax hx))).1,Ap (CW hl) hk,if_pos (Qc (LU m.configs k c hl) (show 64<=1000 by decide)),Ef hx])
  0 [] (bL _) rfl
 have k2:=AN (B:=G6) m.configs (λk (b:List mD)=>(((),(),m.configs,(m.configs.length:Int),(k:Int),()),(((),0,()),((),m.activated,()),()),(b,()))) (λk b=>b=m.configs.take k) (λ_ _ _=>(((),(),()),(((),0,()),((),m.activated,()),()),(m.configs,())))
  (λb hb=>by simp only[G6];rw[BB,if_neg (by omega),hb,Cq])
  (λk b c hx hb=>by
    have hk:=BI hx;have c1: (k:Int)< (m.configs.length:Int):=by omega
    have c2: (0:Int)<=(k:Int):=by omega
    subst hb;refine .inl ⟨m.configs.take (k+1),?_,rfl,rfl⟩;simp only[G6,BB,AJ,if_pos c1,if_pos c2,Cj,hx,an,(KP c (hc c (ax hx))).2,Ap (CW hl) hk,if_pos (Qc (LU m.configs k c hl) (show 64<=1000 by decide)),Ef hx])
  0 [] (bL _) rfl
 unfold Kx Hx;rw[show Rk (((),(),(),0,()),((m.configs,m.activated,()),((),0,()),((),m.activated,()),()),(([]:List mD),()))=_ from k1,show OT (((),(),m.configs,(m.configs.length:Int),0,()),(((),0,()),((),m.activated,()),()),(([]:List mD),()))=_ from k2];exact⟨rfl,rfl⟩
theorem D4(x:oZ)(ok:Dd 1048576 x):DF x=some (x,())/\De x=some (x,()):=by
 obtain⟨⟨hl,hs⟩,hsd,hml,hpl⟩:=ok
 have k1:=AN (B:=Jz) x.servers (λk (b:List o4)=>(((),(),(),(k:Int),()),((x.now,x.servers,x.sides,x.master.configs,x.master.activated,x.masterUp,x.lease.epoch,x.lease.holder,x.lease.ends,x.places,()),(0,(),(),(),0,0,0,0,0,(),()),(x.now,(),x.sides,x.master.configs,x.master.activated,x.masterUp,x.lease.epoch,x.lease.holder,x.lease.ends,x.places,()),()),(b,()))) (λk b=>b=x.servers.take k) (λ_ _ _=>(((),(),(),()),((x.now,x.servers,x.sides,x.master.configs,x.master.activated,x.masterUp,x.lease.epoch,x.lease.holder,x.lease.ends,x.places,()),(0,(),(),(),0,0,0,0,0,(),()),(x.now,(),x.sides,x.master.configs,x.master.activated,x.masterUp,x.lease.epoch,x.lease.holder,x.lease.ends,x.places,()),()),(x.servers,())))
  (λb hb=>by simp only[Jz];rw[BB,if_neg (by omega),hb,Cq])
  (λk b c hx hb=>by
    have hk:=BI hx;have c1: (k:Int)< (x.servers.length:Int):=by omega
    have c2: (0:Int)<=(k:Int):=by omega
    subst hb;refine .inl ⟨x.servers.take (k+1),?_,rfl,rfl⟩;simp only[Jz,BB,AJ,if_pos c1,if_pos c2,Cj,hx,an,(MJ c (hs c (ax hx))).1,Ap (CW hl) hk,if_pos (Qc (LU x.servers k c hl) (show 152<=1000 by decide)),Ef hx])
  0 [] (bL _) rfl
 have k2:=AN (B:=Gs) x.servers (λk (b:List o4)=>(((),(),(),x.servers,(x.servers.length:Int),(k:Int),()),((x.now,x.servers,x.sides,x.master.configs,x.master.activated,x.masterUp,x.lease.epoch,x.lease.holder,x.lease.ends,x.places,()),(0,(),(),(),0,0,0,0,0,(),()),(x.now,(),x.sides,x.master.configs,x.master.activated,x.masterUp,x.lease.epoch,x.lease.holder,x.lease.ends,x.places,()),()),(b,()))) (λk b=>b=x.servers.take k) (λ_ _ _=>(((),(),(),()),((x.now,x.servers,x.sides,x.master.configs,x.master.activated,x.masterUp,x.lease.epoch,x.lease.holder,x.lease.ends,x.places,()),(0,(),(),(),0,0,0,0,0,(),()),(x.now,(),x.sides,x.master.configs,x.master.activated,x.masterUp,x.lease.epoch,x.lease.holder,x.lease.ends,x.places,()),()),(x.servers,())))
  (λb hb=>by simp only[Gs];rw[BB,if_neg (by omega),hb,Cq])
  (λk b c hx hb=>by
    have hk:=BI hx;have c1: (k:Int)< (x.servers.length:Int):=by omega
    have c2: (0:Int)<=(k:Int):=by omega
    subst hb;refine .inl ⟨x.servers.take (k+1),?_,rfl,rfl⟩;simp only[Gs,BB,AJ,if_pos c1,if_pos c2,Cj,hx,an,(MJ c (hs c (ax hx))).2,Ap (CW hl) hk,if_pos (Qc (LU x.servers k c hl) (show 152<=1000 by decide)),Ef hx])
  0 [] (bL _) rfl
 unfold DF De
 rw[show Rl (((),(),(),0,()),((x.now,x.servers,x.sides,x.master.configs,x.master.activated,x.masterUp,x.lease.epoch,x.lease.holder,x.lease.ends,x.places,()),(0,(),(),(),0,0,0,0,0,(),()),(x.now,(),x.sides,x.master.configs,x.master.activated,x.masterUp,x.lease.epoch,x.lease.holder,x.lease.ends,x.places,()),()),(([]:List o4),()))=_ from k1,
  show Oh (((),(),(),x.servers,(x.servers.length:Int),0,()),((x.now,x.servers,x.sides,x.master.configs,x.master.activated,x.masterUp,x.lease.epoch,x.lease.holder,x.lease.ends,x.places,()),(0,(),(),(),0,0,0,0,0,(),()),(x.now,(),x.sides,x.master.configs,x.master.activated,x.masterUp,x.lease.epoch,x.lease.holder,x.lease.ends,x.places,()),()),(([]:List o4),()))=_ from k2]
 have em: (⟨x.master.configs,x.master.activated⟩:jw)=x.master:=rfl;simp only[an,bC,em,(NU _ hml).1,(NU _ hml).2,ZU _ hsd,Wb _ hpl,AJ,if_pos (Qc (Cx hsd) (show 8<=1000 by decide)),if_pos (Qc (Cx hpl) (show 24<=1000 by decide))];exact⟨trivial,trivial⟩
theorem Sg(x:oZ)(id:Int)(ok:Dd 1048576 x): ∃b,GA x id=some (b,())/\Dk x id=some (b,())/\(b=true->CP x=some (true,())/\0<=id/\id<5):=by
 obtain⟨v,v1,v2⟩:=Dg x ok;unfold GA Dk;simp only[v1,v2,an,DC,Hk];cases v with
 |false=>exact⟨false,rfl,rfl,nofun⟩
 |true=>refine⟨Ff id 0 4,rfl,rfl,λh=>⟨rfl,?_⟩⟩;have:=CS.1 h;omega
end
section
theorem Yo{γ:Type}{F:List Int->Option (List Int×Unit)}{B2: (List Int×γ×Int×Int×Unit)×Unit×Unit->Option (((List Int×γ×Int×Int×Unit)×Unit×Unit)⊕(((Int×Unit)×Unit×Unit)⊕((Unit×Unit)×Unit×Unit)))}
  {B5: (Unit×γ×Int×Int×Unit)×Unit×(List Int×Unit)->Option (((Unit×γ×Int×Int×Unit)×Unit×(List Int×Unit))⊕((Unit×Int×Unit)×Unit×(List Int×Unit)))} (g:γ) (p:Int->Option (Bool×Unit)) (q:Int->Bool)
  (hF: ∀a0,F a0=(((mu B2 ((a0,g,(a0.length:Int),0,()),(),())).bind λe7=>Sum.elim (λe7_=>some (e7_.1.1,())) (λ_=>some ((-1:Int),())) e7).bind λy1=>br (y1.1==(-1)) (some (a0,())) ((mu B5 (((),g,y1.1,IntKind.wrap .i64 (y1.1+1),()),(),(a0,()))).bind λe10=>iteP (0<=e10.1.2.1/\e10.1.2.1<=(e10.2.2.1.length:Int)/\(e10.2.2.1.length:Int)<=((e10.2.2.1.length:Nat):Int)) (iteP ((0+e10.1.2.1.toNat)+((e10.2.2.1.length:Int).toNat-e10.1.2.1.toNat)<=e10.2.2.1.length) (iteP (0<=(0:Int)/\(0:Int)<=e10.1.2.1/\e10.1.2.1<=((e10.2.2.1.length:Nat):Int)) (iteP ((0+(0:Int).toNat)=0/\(e10.1.2.1.toNat-(0:Int).toNat)<=(e10.2.2.1.take (0+e10.1.2.1.toNat)++List.replicate ((e10.2.2.1.length:Int).toNat-e10.1.2.1.toNat) (0:Int)++e10.2.2.1.drop ((0+e10.1.2.1.toNat)+((e10.2.2.1.length:Int).toNat-e10.1.2.1.toNat))).length) (some (((e10.2.2.1.take (0+e10.1.2.1.toNat)++List.replicate ((e10.2.2.1.length:Int).toNat-e10.1.2.1.toNat) (0:Int)++e10.2.2.1.drop ((0+e10.1.2.1.toNat)+((e10.2.2.1.length:Int).toNat-e10.1.2.1.toNat))).take (e10.1.2.1.toNat-(0:Int).toNat)),())) (iteP ((0+(0:Int).toNat)+(e10.1.2.1.toNat-(0:Int).toNat)<=(e10.2.2.1.take (0+e10.1.2.1.toNat)++List.replicate ((e10.2.2.1.length:Int).toNat-e10.1.2.1.toNat) (0:Int)++e10.2.2.1.drop ((0+e10.1.2.1.toNat)+((e10.2.2.1.length:Int).toNat-e10.1.2.1.toNat))).length) (some ((((e10.2.2.1.take (0+e10.1.2.1.toNat)++List.replicate ((e10.2.2.1.length:Int).toNat-e10.1.2.1.toNat) (0:Int)++e10.2.2.1.drop ((0+e10.1.2.1.toNat)+((e10.2.2.1.length:Int).toNat-e10.1.2.1.toNat))).drop (0+(0:Int).toNat)).take (e10.1.2.1.toNat-(0:Int).toNat)),())) none)) none) none) none)))
  (h2: ∀ (l:List Int) (n k:Int),B2 ((l,g,n,k,()),(),())=br (decide (k<n)) (iteP (0<=k) ((l[k.toNat]?).bind λx=>(p x).bind λy=>br y.1 (some (.inr (.inl ((k,()),(),())))) (some (.inl ((l,g,n,IntKind.wrap .i64 (k+1),()),(),())))) none) (some (.inr (.inr (((),()),(),())))))
  (h5: ∀ (v:List Int) (i j:Int),B5 (((),g,i,j,()),(),(v,()))=br (decide (j< (v.length:Int))) (iteP (0<=j/\j< (v.length:Int)) ((v[j.toNat]?).bind λx=>(p x).bind λy=>br (!y.1) (iteP (0<=i/\i< (v.length:Int)) ((v[i.toNat]?).bind λ_=>some (.inl (((),g,IntKind.wrap .i64 (i+1),IntKind.wrap .i64 (j+1),()),(),(v.set i.toNat x,())))) none) (some (.inl (((),g,i,IntKind.wrap .i64 (j+1),()),(),(v,()))))) none) (some (.inr (((),i,()),(),(v,())))))
  (a:List Int) (ha:a.length<=1000) (hp: ∀x∈a,p x=some (q x,())):F a=some (a.filter λx=> !q x,()):=by
 have hm:a.length<=maxLen:=by unfold maxLen;omega
 have find:=Nv (B:=B2) a.length (λk=>((a,g,(a.length:Int),(k:Int),()),(),())) (.inr (((),()),(),())) (λk=> .inl (((k:Int),()),(),())) (λk=>match a[k]? with |some x=>q x|none=>false)
  (by rw[h2,BB,if_neg (by omega)])
  (λk hk=>by
    have c1: (k:Int)< (a.length:Int):=by omega
    have c2: (0:Int)<=(k:Int):=by omega
    simp only[h2,BB,AJ,if_pos c1,if_pos c2,Cj,ao hk,an,hp _ (Cn hk),Ap hm hk];cases q a[k]<;>rfl)
 rw[hF];rcases find with ⟨k1,k2⟩| ⟨i,hi,k1,k2,k3⟩
 ·rw[show mu B2 ((a,g,(a.length:Int),0,()),(),())=_ from k1];simp only[an,Cz,beq_self_eq_true,Bg];rw[ML λx hx=> ?_];obtain⟨k,hk,rfl⟩:=aP hx;have:=k2 k hk;rw[ao hk] at this;simpa using this
 ·rw[show mu B2 ((a,g,(a.length:Int),0,()),(),())=_ from k1]
  have hne: ((i:Int)== -1)=false:=by simp only[beq_eq_false_iff_ne,ne_eq];omega
  simp only[an,Cw,hne,Ar,Ap hm hi];rw[ao hi] at k2
  have loop:=Bn (B:=B5) (λs=> ∃ (i j:Nat) (v:List Int),s=(((),g,(i:Int),(j:Int),()),(),(v,()))/\i<=j/\j<=a.length/\v.length=a.length/\v.take i=(a.take j).filter (λx=> !q x)/\v.drop j=a.drop j) (λs=>a.length-s.1.2.2.2.1.toNat)
   (λe=> ∃ (i:Nat) (v:List Int),e=(((),(i:Int),()),(),(v,()))/\i<=a.length/\v.length=a.length/\v.take i=a.filter (λx=> !q x))
   (λs hs=>by
     obtain⟨i,j,v,rfl,hij,hj,hv,ht,hd⟩:=hs;by_cases hlt:j<a.length
     ·have c1: (j:Int)< (v.length:Int):=by omega
      have c2: (0:Int)<=(j:Int)/\(j:Int)< (v.length:Int):=by omega
      have c3: (0:Int)<=(i:Int)/\(i:Int)< (v.length:Int):=by omega
      have e1:v[j]? =some a[j] :=by have:=congrArg (λl:List Int=>l[0]?) hd;simpa [bc,ao hlt] using this
      have e2:v[i]? =some (v[i]'(by omega)):=ao _;have hta:a.take (j+1)=a.take j++ [a[j]] :=by rw[Cr,ao hlt];rfl
      have hdd:v.drop (j+1)=a.drop (j+1):=by have:=congrArg (List.drop 1) hd;simpa [cd,bU] using this
      left;simp only[h5,BB,AJ,if_pos c1,if_pos c2,Cj,e1,an,hp _ (Cn hlt),if_pos c3,e2,Ap hm hlt,CQ,Ap hm (show i<a.length by omega)];cases hq:q a[j] with
      |true=>
       refine⟨_,rfl,⟨i,j+1,v,rfl,by omega,by omega,hv,?_,hdd⟩,?_⟩
       ·rw[ht,hta,Cv];simp[hq]
       ·simp only[Cj];omega
      |false=>
       refine⟨_,rfl,⟨i+1,j+1,v.set i a[j],rfl,by omega,by omega,by simp[hv],?_,?_⟩,?_⟩
       ·rw[w7 _ (by omega),ht,hta,Cv];simp[hq]
       ·rw[CL (by omega),hdd]
       ·simp only[Cj];omega
     ·have :j=a.length:=by omega
      subst this;right;refine⟨_,by rw[h5,BB,if_neg (by omega)],⟨i,v,rfl,hij,hv,?_⟩⟩;rw[ht,Cq])
   (s:=(((),g,(i:Int),((i+1:Nat):Int),()),(),(a,()))) ⟨i,i+1,a,rfl,by omega,by omega,rfl,by
     have hta:a.take (i+1)=a.take i++ [a[i]] :=by rw[Cr,ao hi];rfl
     rw[hta,Cv,ML (l:=a.take i) λx hx=> ?_]
     ·simp[k2]
     ·obtain⟨j,hj,rfl⟩:=aP hx;have hj':j<i:=by simp at hj;omega
      have:=k3 j hj';rw[ao (by omega)] at this;rw[CE];simpa using this,rfl⟩
  obtain⟨e,h1,i',v,rfl,g2,g3,g4⟩:=loop;rw[h1];have d1: (0:Int)<=(i':Int)/\(i':Int)<=(v.length:Int)/\(v.length:Int)<=((v.length:Nat):Int):=by omega
  have d2:i'+(v.length-i')<=v.length:=by omega
  have d3: (0:Int)<=0/\(0:Int)<=(i':Int)/\(i':Int)<=((v.length:Nat):Int):=by omega
  simp only[an,Cj,CK,aM,CA,AJ,if_pos d1,if_pos d2,if_pos d3,true_and,ct];rw[if_pos (by simp;omega)];rw[bf,CF (by simp;omega),List.take_take,Nat.min_self,g4]
theorem ZX(n:Int)(h0:0<=n)(h1:n<=1000000):Im n=some ([],()):=by
 unfold Im;have e1:IntKind.wrap .i64 ((0:Int)-0)=0:=uj (by decide) (by decide);have e2:IntKind.wrap .i64 (n-0)=n:=by rw[uj (by omega) (by omega)];omega
 simp only[e1,e2,BB,if_neg (show ¬n<0 by omega)];by_cases h:n>0
 ·have e: (2:Int) ^ 40=1099511627776:=by decide
  have c1:0<n/\n*((8:Nat):Int)<=2 ^ 40:=⟨h,by omega⟩
  have c2: (0:Int)<=0/\(0:Int)<=0/\(0:Int)<=((n.toNat:Nat):Int):=by omega
  simp only[if_pos h,AJ,if_pos c1,if_pos c2,and_self,if_true];simp
 ·simp only[if_neg h]
theorem XF(l:List (List Int))(hl:l.length<=10)(h: ∀a∈l,a.length<=1000):I3 l=some (l.flatten,()):=by
 have hm:l.length<=maxLen:=by unfold maxLen;omega
 have tot: ∀k,(l.take k).flatten.length<=k*1000:=by
  intro k
  induction k with
  |zero=>simp
  |succ k ih=>
   cases hx:l[k]? with
   |none=>
    have hle:l.length<=k:=by simpa using hx
    rw[bT hle] at ih;rw[bT (Cx hle)];exact aU ih (bn _ (cA k))
   |some a=>rw[Ef hx,CH,bI];have:=h a (ax hx);simp only[List.flatten_cons,List.flatten_nil,bM];rw[Nat.succ_mul];exact Nat.add_le_add ih this
 have k1:=AN (B:=Gt) l (λk (n:Int)=>((l,n,l,(l.length:Int),(k:Int),()),(),())) (λk n=>n=((l.take k).flatten.length:Int)) (λ_ _ _=>((l,(l.flatten.length:Int),()),(),()))
  (λn hn=>by simp only[Gt];rw[BB,if_neg (by omega),hn,Cq])
  (λk n a hx hn=>by
    have hk:=BI hx;have c1: (k:Int)< (l.length:Int):=by omega
    have c2: (0:Int)<=(k:Int):=by omega
    have t:=tot k;have ha:=h a (ax hx);have hk10:k*1000<=10000:=by omega
    refine .inl ⟨n+(a.length:Int),?_,?_,rfl⟩
    ·simp only[Gt,BB,AJ,if_pos c1,if_pos c2,Cj,hx,an,Ap hm hk,uj (n:=n+(a.length:Int)) (by omega) (by omega),if_neg (show ¬n+(a.length:Int)<0 by omega)]
    ·rw[Ef hx,CH,bI,hn];simp)
  0 0 (bL _) (by simp)
 have t:=tot l.length;rw[Cq] at t
 have k2:=AN (B:=Gc) l (λk (b:List Int)=>(((),l,(l.length:Int),(k:Int),()),(),(b,()))) (λk b=>b=(l.take k).flatten) (λ_ _ _=>(((),()),(),(l.flatten,())))
  (λb hb=>by simp only[Gc];rw[BB,if_neg (by omega),hb,Cq])
  (λk b a hx hb=>by
    have hk:=BI hx;have c1: (k:Int)< (l.length:Int):=by omega
    have c2: (0:Int)<=(k:Int):=by omega
    have t:=tot k;have ha:=h a (ax hx);have hs: (b++a).length*8<=2 ^ 40:=Qc (by rw[hb,bI];omega) (by decide);refine .inl ⟨b++a,?_,?_,rfl⟩
    ·simp only[Gc,BB,AJ,if_pos c1,if_pos c2,Cj,hx,an,Ap hm hk,if_pos hs]
    ·rw[Ef hx,CH,hb];simp)
  0 [] (bL _) (by simp)
 unfold I3;rw[show Oi ((l,0,l,(l.length:Int),0,()),(),())=_ from k1];simp only[an,ZX _ (show (0:Int)<=(l.flatten.length:Int) by omega) (by omega)];rw[show Nz (((),l,(l.length:Int),0,()),(),([],()))=_ from k2];rfl
end
section
def SS(l:List Int):Prop:=l.Pairwise (· < ·)
theorem SS.uniq: ∀ {a b:List Int},SS a->SS b->(∀y,y∈a↔y∈b)->a=b
 | [],[],_,_,_=>rfl
 | [],b::l,_,_,h=>by have:=(h b).2 aH;cases this
 |a::l,[],_,_,h=>by have:=(h a).1 aH;cases this
 |a::l,b::m,ha,hb,h=>by
  obtain⟨a1,a2⟩:=CC.1 ha;obtain⟨b1,b2⟩:=CC.1 hb
  have hab:a=b:=by
   rcases aW.1 ((h a).1 aH) with e|e
   ·exact e
   ·rcases aW.1 ((h b).2 aH) with f|f
    ·exact f.symm
    ·have:=b1 a e;have:=a1 b f;omega
  subst hab
  have hlm:l=m:=SS.uniq a2 b2 λy=>by
   constructor
   ·intro hy;rcases aW.1 ((h y).1 (aE _ hy)) with e|e
    ·have:=a1 y hy;omega
    ·exact e
   ·intro hy;rcases aW.1 ((h y).2 (aE _ hy)) with e|e
    ·have:=b1 y hy;omega
    ·exact e
  rw[hlm]
theorem Va{A B:List Int}{x:Int}(h:SS (A++B))(ha: ∀y∈A,y<x)(hb: ∀y∈B,x<y):SS (A++ [x] ++B):=by
 obtain⟨h1,h2,h3⟩:=Cy.1 h;refine Cy.2 ⟨Cy.2 ⟨h1,CG _ _,λa h b hb'=> ?_⟩,h2,λa h b hb'=> ?_⟩
 ·rw[aI.1 hb'];exact ha a h
 ·rcases bz.1 h with h|h
  ·exact h3 a h b hb'
  ·rw[aI.1 h];exact hb b hb'
theorem Zt(l:List Int)(x:Int)(hl:l.length<=1000)(hs:SS l): ∃r,G2 l x=some (r,())/\SS r/\(∀y,y∈r↔y=x\/y∈l)/\r.length<=l.length+1/\(x∉l->r.length=l.length+1):=by
 have hm:l.length<=maxLen:=by unfold maxLen;omega
 rcases Nv (B:=IC) l.length (λk=>((l,x,(k:Int),()),(),())) ((l,x,(l.length:Int),()),(),()) (λk=>((l,x,(k:Int),()),(),())) (λk=>match l[k]? with |some y=> !decide (y<x)|none=>false)
  (by simp only[IC];rw[BB,if_neg (by omega)])
  (λk hk=>by
    have c1: (k:Int)< (l.length:Int):=by omega
    have c2: (0:Int)<=(k:Int):=by omega
    simp only[IC,BB,AJ,if_pos c1,if_pos c2,Cj,ao hk,an,Ap hm hk];by_cases h:l[k]<x<;>simp[h]) with ⟨k1,k2⟩| ⟨i,hi,k1,k2,k3⟩
 ·have all: ∀y∈l,y<x:=by
   intro y hy;obtain⟨k,hk,rfl⟩:=aP hy;have:=k2 k hk;rw[ao hk] at this;simpa using this
  refine⟨l++ [x],U0 l x hl all,?_,?_,?_,λ_=>by simp⟩
  ·have:=Va (A:=l) (B:=[]) (x:=x) (by simpa using hs) all (by simp);simpa using this
  ·intro y;simp[or_comm]
  ·simp
 ·rw[ao hi] at k2;simp only[bD,decide_eq_false_iff_not,Int.not_lt] at k2
  have lt: ∀y∈l.take i,y<x:=by
   intro y hy;obtain⟨j,hj,rfl⟩:=aP hy;have hj':j<i:=by simp at hj;omega
   have:=k3 j hj';rw[ao (by omega)] at this;rw[CE];simpa using this
  have hd:l.drop i=l[i]::l.drop (i+1):=b8 hi;have hsp:l.take i++l.drop i=l:=List.take_append_drop i l
  have ge: ∀y∈l.drop i,l[i] <=y:=by
   intro y hy;rw[hd] at hy;rcases aW.1 hy with rfl|hy
   ·exact cJ _
   ·have h2:SS (l.drop i):=List.Pairwise.sublist (List.drop_sublist i l) hs;rw[hd] at h2;exact Int.le_of_lt ((CC.1 h2).1 y hy)
  unfold G2;rw[show QW ((l,x,0,()),(),())=_ from k1];have c1: (i:Int)< (l.length:Int):=by omega
  have c2: (0:Int)<=(i:Int):=by omega
  simp only[an,BB,Fm,AJ,if_pos c1,if_pos c2,Cj,ao hi,bC];by_cases he:l[i] =x
  ·simp only[if_pos he,if_pos (FR (show l.length<=1048576 by omega))];refine⟨l,rfl,hs,λy=>⟨.inr,?_⟩,by omega,λh=>absurd (by rw[<-he];exact Cn hi) h⟩
   rintro (rfl|h)
   ·rw[<-he];exact Cn hi
   ·exact h
  ·have d1: (0:Int)<=0/\(0:Int)<=(i:Int)/\(i:Int)<=(l.length:Int):=by omega
   have d2: (0:Int)<=(i:Int)/\(i:Int)<=(l.length:Int)/\(l.length:Int)<=(l.length:Int):=by omega
   have e1: (l.drop i).take (l.length-i)=l.drop i:=bT (by simp);simp only[if_neg he,if_pos d1,if_pos d2,CK,ct,CA,e1];rw[if_pos (FR (by simp;omega)),if_pos (FR (by simp;omega)),if_pos (FR (by simp;omega))];refine⟨_,rfl,Va (by rw[hsp];exact hs) lt (λy hy=> ?_),λy=> ?_,by simp;omega,λ_=>by simp;omega⟩
   ·have:=ge y hy;omega
   ·conv=>rhs;rw[<-hsp]
    simp only[bz,aI];constructor
    ·rintro ((h|h)|h)
     ·exact .inr (.inl h)
     ·exact .inl h
     ·exact .inr (.inr h)
    ·rintro (h|h|h)
     ·exact .inl (.inr h)
     ·exact .inl (.inl h)
     ·exact .inr h
theorem Zu{β:Type}(l:List Int)(hl:l.length<=500){mk:Nat->List Int->β}{ε:Type}{B:β->Option (β⊕ε)}{E:List Int->ε}
  (h0: ∀v,B (mk l.length v)=some (.inr (E v)))
  (h1: ∀k v x,l[k]? =some x->B (mk k v)=(G2 v x).bind λy=>some (.inl (mk (k+1) y.1)))
  (v:List Int) (hv:SS v) (hvl:v.length<=500): ∃r,mu B (mk 0 v)=some (E r)/\SS r/\(∀y,y∈r↔y∈v\/y∈l)/\r.length<=v.length+l.length:=by
 have go: ∀ (n k:Nat) (v:List Int),k+n=l.length->SS v->v.length+n<=1000-> ∃r,mu B (mk k v)=some (E r)/\SS r/\(∀y,y∈r↔y∈v\/y∈l.drop k)/\r.length<=v.length+n:=by
  intro n
  induction n with
  |zero=>
   intro k v hk hv _;have :k=l.length:=by omega
   subst this;exact⟨v,kT (h0 v),hv,by simp,by omega⟩
  |succ n ih=>
   intro k v hk hv hn;have hlt:k<l.length:=by omega
   obtain⟨r,r1,r2,r3,r4,_⟩:=Zt v l[k] (by omega) hv;obtain⟨s,s1,s2,s3,s4⟩:=ih (k+1) r (by omega) r2 (by omega);refine⟨s,?_,s2,λy=> ?_,by omega⟩
   ·rw[qR (by rw[h1 k v _ (ao hlt),r1];rfl)];exact s1
   ·rw[s3,r3,b8 hlt,aW];constructor
    ·rintro ((h|h)|h)
     ·exact .inr (.inl h)
     ·exact .inl h
     ·exact .inr (.inr h)
    ·rintro (h|h|h)
     ·exact .inl (.inr h)
     ·exact .inl (.inl h)
     ·exact .inr h
 obtain⟨r,h1,h2,h3,h4⟩:=go l.length 0 v (by omega) hv (by omega);rw[ct] at h3;exact⟨r,h1,h2,h3,h4⟩
theorem WU(a b:List Int)(ha:a.length<=100)(hb:b.length<=100): ∃r,Hi a b=some (r,())/\SS r/\(∀y,y∈r↔y∈a\/y∈b)/\r.length<=a.length+b.length:=by
 have am:a.length<=maxLen:=by unfold maxLen;omega
 have bm:b.length<=maxLen:=by unfold maxLen;omega
 obtain⟨r,r1,r2,r3,r4⟩:=Zu (B:=Ga) (mk:=λk v=>((a,b,(),(k:Int),()),(),(v,()))) (E:=λv=>((b,(),()),(),(v,()))) a (by omega)
  (λv=>by simp only[Ga];rw[BB,if_neg (by omega)])
  (λk v x hx=>by
    have hk:=BI hx;have c1: (k:Int)< (a.length:Int):=by omega
    have c2: (0:Int)<=(k:Int):=by omega
    simp only[Ga,BB,AJ,if_pos c1,if_pos c2,Cj,hx,an,Ap am hk])
  [] List.Pairwise.nil (bL _)
 obtain⟨s,s1,s2,s3,s4⟩:=Zu (B:=Gb) (mk:=λk v=>((b,(),(k:Int),()),(),(v,()))) (E:=λv=>(((),()),(),(v,()))) b (by omega)
  (λv=>by simp only[Gb];rw[BB,if_neg (by omega)])
  (λk v x hx=>by
    have hk:=BI hx;have c1: (k:Int)< (b.length:Int):=by omega
    have c2: (0:Int)<=(k:Int):=by omega
    simp only[Gb,BB,AJ,if_pos c1,if_pos c2,Cj,hx,an,Ap bm hk])
  r r2 (by simp at r4;omega)
 unfold Hi;rw[show Nx ((a,b,(),0,()),(),([],()))=_ from r1];simp only[an];rw[show Ny ((b,(),0,()),(),(r,()))=_ from s1];refine⟨s,rfl,s2,λy=> ?_,by simp at r4;omega⟩;rw[s3,r3];simp
def SL(l:List Int):Prop:=l.Pairwise (· <= ·)
theorem aat(A R:List Int)(a x:Int): ((A++a::x::R).set (A.length+1) a).set A.length x=A++x::a::R:=by
 induction A with
 |nil=>rfl
 |cons b A ih=>simp only[cw,bA,List.set_cons_succ,ih]
theorem YA(D:List Int)(n k:Int)(x:Int)(hn:n<=12): ∀ (A C:List Int),A.length+C.length+D.length<=12->SL (A++C)->(∀c∈C,x<c)->
  ∃Q,Em (((),0,n,k,(A.length:Int),()),(),(A++x:: (C++D),()))=some (((),0,n,k,()),(),(Q++D,()))/\SL Q/\Q.Perm (x:: (A++C)):=by
 intro A
 induction h:A.length generalizing A with
 |zero=>intro C hl hs hc;have :A= [] :=cP.1 h;subst this;refine⟨x::C,kT ?_,CC.2 ⟨λc h=>Int.le_of_lt (hc c h),hs⟩,by simp⟩;simp only[Df,BB];rw[if_neg (by simp)];rfl
 |succ m ih=>
  intro C hl hs hc;obtain⟨A',a,rfl⟩: ∃A' a,A=A'++ [a] :=⟨A.dropLast,A.getLast (by intro e;subst e;simp at h),(List.dropLast_concat_getLast _).symm⟩
  have hm:A'.length=m:=by simpa using h
  have c1: ((m+1:Nat):Int)>0:=by omega
  have hlen: ((A'++ [a])++x:: (C++D)).length=m+2+C.length+D.length:=by simp;omega
  have c2: (0:Int)<=((m+1:Nat):Int)/\((m+1:Nat):Int)< (((A'++ [a])++x:: (C++D)).length:Int):=by rw[hlen];omega
  have c3: (0:Int)<=((m+1-1:Nat):Int)/\((m+1-1:Nat):Int)< (((A'++ [a])++x:: (C++D)).length:Int):=by rw[hlen];omega
  have e1: ((A'++ [a])++x:: (C++D))[m+1]? =some x:=by rw[<-h,aZ (by simp)];simp
  have e2: ((A'++ [a])++x:: (C++D))[m+1-1]? =some a:=by rw[aR (by simp;omega),aZ (by omega)];simp[hm]
  have pw:IntKind.wrap .i64 (((m+1:Nat):Int)-1)=((m+1-1:Nat):Int):=Ao (by omega) (by unfold maxLen;omega)
  have less:Hv x a=some (decide (x<a),()):=by unfold Hv HV;simp only[beq_self_eq_true,cS,an,Ar]
  by_cases hxa:x<a
  ·have hsw: (((A'++ [a])++x:: (C++D)).set (m+1) a).set (m+1-1) x=A'++x:: ((a::C)++D):=by
    have:=aat A' (C++D) a x;rw[hm] at this;simpa using this
   have c5:m+1-1< (((A'++ [a])++x:: (C++D)).set (m+1) a).length:=by rw[Cu,hlen];omega
   have hz:=ao c5
   obtain⟨Q,q1,q2,q3⟩:=ih A' hm (a::C) (by simp at hl ⊢;omega) (by simpa using hs) (λc h=>by
    rcases aW.1 h with rfl|h
    ·exact hxa
    ·exact hc c h)
   refine⟨Q,?_,q2,q3.trans (by simp)⟩;unfold Em at q1 ⊢;rw[<-q1];refine qR ?_;simp only[Df,BB,AJ,if_pos c1,if_pos c2,pw,if_pos c3,Cj,e1,e2,an,less,if_pos hxa,hz,hsw];rfl
  ·have hall: ∀y∈A',y<=a:=by
    intro y hy;have h1:SL (A'++ [a]):=(Cy.1 hs).1;exact (Cy.1 h1).2.2 y hy a (by simp)
   refine⟨(A'++ [a])++x::C,?_,?_,?_⟩
   ·refine kT ?_;rw[show (A'++ [a])++x::C++D=(A'++ [a])++x:: (C++D) by simp];simp only[Df,BB,AJ,if_pos c1,if_pos c2,pw,if_pos c3,Cj,e1,e2,an,less,if_neg hxa]
   ·obtain⟨p1,p2,p3⟩:=Cy.1 hs;refine Cy.2 ⟨p1,CC.2 ⟨λc h=>Int.le_of_lt (hc c h),p2⟩,λy hy z hz=> ?_⟩
    have hyx:y<=x:=by
     rcases bz.1 hy with h|h
     ·have:=hall y h;omega
     ·rw[aI.1 h];omega
    rcases aW.1 hz with rfl|hz
    ·exact hyx
    ·have:=hc z hz;omega
   ·exact List.perm_middle
theorem Tu(l:List Int)(hl:l.length<=12): ∃r,Dp l 0 (l.length:Int)=some (r,())/\SL r/\r.Perm l:=by
 have hm:l.length<=maxLen:=by unfold maxLen;omega
 unfold Dp;cases l with
 |nil=>
  refine⟨[],?_,List.Pairwise.nil,List.Perm.refl _⟩
  rw[show El (((),0,(([]:List Int).length:Int),IntKind.wrap .i64 (0+1),()),(),([],()))=some ((()),(),([],())) from kT (by rw[show IntKind.wrap .i64 ((0:Int)+1)=((1:Nat):Int) from by rw[uj (by omega) (by omega)];rfl];simp only[CZ,BB];rw[if_neg (by simp)])]
  rfl
 |cons b l=>
  generalize hL:b::l=L at hl hm;have hpos:0<L.length:=by rw[<-hL];simp
  have outer:=Bn (B:=CZ) (λs=> ∃ (k:Nat) (Q:List Int),0<k/\k<=L.length/\Q.length=k/\SL Q/\Q.Perm (L.take k)/\s=(((),0,(L.length:Int),(k:Int),()),(),(Q++L.drop k,()))) (λs=>L.length-s.1.2.2.2.1.toNat) (λe=> ∃Q:List Int,SL Q/\Q.Perm L/\e=((()),(),(Q,())))
   (λs hs=>by
     obtain⟨k,Q,h0,hk,hq,hq2,hq3,rfl⟩:=hs;by_cases hlt:k<L.length
     ·have c1: (k:Int)< (L.length:Int):=by omega
      obtain⟨R,r1,r2,r3⟩:=YA (L.drop (k+1)) (L.length:Int) (k:Int) L[k] (by omega) Q [] (by simp;omega) (by simpa using hq2) (by simp);have hd:L.drop k=L[k]::L.drop (k+1):=b8 hlt;rw[hq,bC,<-hd] at r1;refine .inl ⟨(((),0,(L.length:Int),((k+1:Nat):Int),()),(),(R++L.drop (k+1),())),?_,⟨k+1,R,by omega,by omega,?_,r2,?_,rfl⟩,?_⟩
      ·simp only[CZ,BB,if_pos c1,r1,an,Ap hm hlt]
      ·rw[r3.length_eq];simp[hq]
      ·rw[Cr,ao hlt];refine r3.trans ?_;rw[bM];refine List.Perm.trans ?_ (List.perm_append_comm);simpa using hq3
      ·simp only[Cj];omega
     ·have :k=L.length:=by omega
      subst this;refine .inr ⟨_,by simp only[CZ,BB];rw[if_neg (by omega)],Q,hq2,by simpa using hq3,by simp⟩)
   (s:=(((),0,(L.length:Int),((1:Nat):Int),()),(),(L,()))) ⟨1,L.take 1,by omega,by omega,by simp;omega,by rw[<-hL];simp[SL],List.Perm.refl _,by rw[List.take_append_drop]⟩
  obtain⟨e,h1,Q,q1,q2,rfl⟩:=outer;rw[show IntKind.wrap .i64 ((0:Int)+1)=((1:Nat):Int) from by rw[uj (by omega) (by omega)];rfl,show El (((),0,(L.length:Int),((1:Nat):Int),()),(),(L,()))=_ from h1];exact⟨Q,rfl,q1,q2⟩
theorem abC{n:Nat}(hn:n<=12): ∃m,Ou (IntKind.wrap .u64 (n:Int))=some (m,()):=by
 have :n<=5\/n=6\/n=7\/n=8\/n=9\/n=10\/n=11\/n=12:=by omega
 rcases this with h|rfl|rfl|rfl|rfl|rfl|rfl|rfl
 ·exact Sc h
 ·exact⟨3,by kernel_rfl⟩
 ·exact⟨3,by kernel_rfl⟩
 ·exact⟨4,by kernel_rfl⟩
 ·exact⟨4,by kernel_rfl⟩
 ·exact⟨4,by kernel_rfl⟩
 ·exact⟨4,by kernel_rfl⟩
 ·exact⟨4,by kernel_rfl⟩
theorem aaq(l:List Int)(hl:l.length<=12): ∃r,Gk l=some (r,())/\SL r/\r.Perm l:=by
 obtain⟨m,hm⟩:=abC hl;obtain⟨r,r1,r2,r3⟩:=Tu l hl
 have hp:DS l 0 (l.length:Int) m=some (r,()):=by
  unfold DS
  have :Gl (((),0,(l.length:Int),m,true,true,()),(),(l,()))=some ((()),(),(r,())):=by refine kT ?_;simp only[Er];rw[uj (by omega) (by omega),BB,if_pos (by omega),r1,an,AL r3.length_eq]
  rw[this];rfl
 unfold Gk;simp only[hm,an,hp];exact⟨r,AL r3.length_eq _ _,r2,r3⟩
theorem Uv(l:List Int)(hl:l.length<=1000)(hs:SL l)(k0:Nat)(h0:0<k0)(hk:k0<l.length)(hss:SS (l.take k0))(heq:l[k0] =l[k0-1]):
  ∃e,Lx (((),(k0:Int),(k0,l.length-k0),1,()),(),(l,()))=some e/\ ∃ (kk:Nat) (v:List Int),e=(((),(kk:Int),()),(),(v,()))/\kk<=l.length/\v.length=l.length/\SS (v.take kk)/\ ∀y,y∈v.take kk↔y∈l:=by
 have hm:l.length<=maxLen:=by unfold maxLen;omega
 have mem0: ∀y,y∈l.take k0↔y∈l.take (k0+1):=by
  intro y;rw[Cr,ao hk,heq];simp only[Option.toList_some,bz,aI];refine⟨.inl,?_⟩
  rintro (h|rfl)
  ·exact h
  ·rw[List.mem_take_iff_getElem];exact⟨k0-1,by omega,rfl⟩
 refine Bn (B:=Fd) (λs=> ∃ (kk k2:Nat) (v:List Int),s=(((),(kk:Int),(k0,l.length-k0),(k2:Int),()),(),(v,()))/\0<k2/\k0+k2<=l.length/\k0<=kk/\kk+1<=k0+k2/\v.length=l.length/\SS (v.take kk)/\(∀y,y∈v.take kk↔y∈l.take (k0+k2))/\v.drop (k0+k2-1)=l.drop (k0+k2-1)) (λs=>l.length-s.1.2.2.2.1.toNat) _
  (λs hI=> ?_) (s:=(((),(k0:Int),(k0,l.length-k0),((1:Nat):Int),()),(),(l,()))) ⟨k0,1,l,rfl,by omega,by omega,by omega,by omega,rfl,hss,mem0,rfl⟩
 obtain⟨kk,k2,v,rfl,a1,a2,a3,a4,a5,a6,a7,a8⟩:=hI;by_cases hlt:k0+k2<l.length
 ·left;have c1: (k2:Int)< ((l.length-k0:Nat):Int):=by omega
  have c2: (0:Int)<=(k2:Int)/\(k2:Int)< ((l.length-k0:Nat):Int):=by omega
  have c3: (0:Int)<=((k2-1:Nat):Int)/\((k2-1:Nat):Int)< ((l.length-k0:Nat):Int):=by omega
  have c4: (0:Int)<=(kk:Int)/\(kk:Int)< (v.length:Int):=by omega
  have g1:v[k0+(k2-1)]? =some l[k0+k2-1] :=by have:=congrArg (λz:List Int=>z[0]?) a8;simp only[bc,bF] at this;rw[show k0+(k2-1)=k0+k2-1 by omega,this];exact ao _
  have g2:v[k0+k2]? =some l[k0+k2] :=by have:=congrArg (λz:List Int=>z[1]?) a8;simp only[bc] at this;rw[show k0+k2-1+1=k0+k2 by omega] at this;rw[this];exact ao _
  have g3:v[kk]? =some (v[kk]'(by omega)):=ao _;have hle:l[k0+k2-1] <=l[k0+k2] :=Ct.1 hs _ _ (by omega) hlt (by omega)
  have hdd:v.drop (k0+k2)=l.drop (k0+k2):=by have:=congrArg (List.drop 1) a8;simpa [cd,show k0+k2-1+1=k0+k2 by omega] using this
  have hta:l.take (k0+k2+1)=l.take (k0+k2)++ [l[k0+k2]] :=by rw[Cr,ao hlt];rfl
  have inb: ∀y∈l.take (k0+k2),y<=l[k0+k2-1] :=by
   intro y hy;obtain⟨j,hj,rfl⟩:=aP hy;have hj':j<k0+k2:=by simp at hj;omega
   rw[CE];by_cases e:j=k0+k2-1
   ·subst e;exact cJ _
   ·exact Ct.1 hs _ _ (by omega) (by omega) (by omega)
  have hkm:k2<l.length:=by omega
  have hkm':kk<l.length:=by omega
  simp only[Fd,BB,CQ,Fm,AJ,if_pos c1,if_pos c2,Ao a1 (by unfold maxLen;omega),if_pos c3,Cj,g1,g2,an,Ap hm hkm,Ap hm hkm',if_pos c4,g3];by_cases he:l[k0+k2] =l[k0+k2-1]
  ·simp only[if_pos he];refine⟨_,rfl,⟨kk,k2+1,v,rfl,by omega,by omega,a3,by omega,a5,a6,λy=> ?_,hdd⟩,?_⟩
   ·rw[a7,show k0+(k2+1)=k0+k2+1 by omega,hta,he];simp only[bz,aI];refine⟨.inl,?_⟩
    rintro (h|rfl)
    ·exact h
    ·rw[List.mem_take_iff_getElem];exact⟨k0+k2-1,by omega,rfl⟩
   ·simp only[Cj];omega
  ·simp only[if_neg he];have hts: (v.set kk l[k0+k2]).take (kk+1)=v.take kk++ [l[k0+k2]] :=w7 _ (by omega);refine⟨_,rfl,⟨kk+1,k2+1,v.set kk l[k0+k2],rfl,by omega,by omega,by omega,by omega,by simp[a5],?_,λy=> ?_,?_⟩,?_⟩
   ·rw[hts]
    have:=Va (A:=v.take kk) (B:=[]) (x:=l[k0+k2]) (by simpa using a6) (λy hy=>by have:=inb y ((a7 y).1 hy);omega) (by simp)
    simpa using this
   ·rw[hts,show k0+(k2+1)=k0+k2+1 by omega,hta];simp only[bz,a7]
   ·rw[show k0+(k2+1)-1=k0+k2 by omega,CL (by omega),hdd]
   ·simp only[Cj];omega
 ·right;have hkk:k0+k2=l.length:=by omega
  refine⟨_,by simp only[Fd,BB];rw[if_neg (by omega)],kk,v,rfl,by omega,a5,a6,λy=> ?_⟩;rw[a7,hkk,Cq]
theorem Wa(l:List Int)(hl:l.length<=1000)(hs:SL l): ∃r,Fc l=some (r,())/\SS r/\(∀y,y∈r↔y∈l)/\r.length<=l.length:=by
 have hm:l.length<=maxLen:=by unfold maxLen;omega
 unfold Fc;rw[BB];split
 ·refine⟨l,rfl,?_,λ_=>Iff.rfl,aw _⟩
  match l with
  | [] =>exact List.Pairwise.nil
  | [a] =>exact CG _ _
  |a::b::l=>simp at*;omega
 ·have eX:=Bn (B:=DI) (λs=> ∃k:Nat,0<k/\k<=l.length/\SS (l.take k)/\s=(((),(k:Int),()),(),(l,()))) (λs=>l.length-s.1.2.1.toNat)
   (λe=>(e= .inr (((),(),()),(),(l,()))/\SS l)\/ ∃ (kk:Nat) (W:List Int),e= .inl (((),(0,kk),()),(),(W,()))/\kk<=W.length/\kk<=l.length/\SS (W.take kk)/\ ∀y,y∈W.take kk↔y∈l)
   (λs hI=>by
     obtain⟨k,h0,hkl,hss,rfl⟩:=hI;by_cases hk:k<l.length
     ·have c1: (k:Int)< (l.length:Int):=by omega
      have c2: (0:Int)<=(k:Int)/\(k:Int)< (l.length:Int):=by omega
      have c3: (0:Int)<=((k-1:Nat):Int)/\((k-1:Nat):Int)< (l.length:Int):=by omega
      have c4: (0:Int)<=(k:Int)/\(k:Int)<=(l.length:Int)/\(l.length:Int)<=(l.length:Int):=by omega
      have e1:l[k]? =some l[k] :=ao hk;have e2:l[k-1]? =some l[k-1] :=ao (by omega);by_cases he:l[k] =l[k-1]
      ·right;obtain⟨e,f1,kk,v,rfl,f2,f3,f4,f5⟩:=Uv l hl hs k h0 hk hss he;have d1: (0:Int)<=(kk:Int)/\(kk:Int)<=(v.length:Int)/\(v.length:Int)<=(v.length:Int):=by omega
       have d2:kk+(v.length-kk)<=v.length:=by omega
       have d3: (0:Int)<=0/\(0:Int)<=(kk:Int)/\(kk:Int)<=(v.length:Int):=by omega
       simp only[DI,BB,AJ,if_pos c1,if_pos c2,Ao h0 (by omega),if_pos c3,Cj,e1,e2,an,Fm,if_pos he,if_pos c4,aM];rw[f1];simp only[an,Cj,if_pos d1,if_pos d2,if_pos d3,CK,CA]
       have ht: (v.take kk++List.replicate (v.length-kk) 0++v.drop (kk+(v.length-kk))).take kk=v.take kk:=by rw[bf,CF (by simp;omega),List.take_take,Nat.min_self]
       refine⟨_,rfl,.inr ⟨kk,_,rfl,by simp;omega,f2,by rw[ht];exact f4,λy=>by rw[ht];exact f5 y⟩⟩
      ·left;have hle:l[k-1] <=l[k] :=Ct.1 hs _ _ (by omega) hk (by omega);refine⟨(((),((k+1:Nat):Int),()),(),(l,())),?_,⟨k+1,by omega,by omega,?_,rfl⟩,?_⟩
       ·simp only[DI,BB,AJ,if_pos c1,if_pos c2,Ao h0 (by omega),if_pos c3,Cj,e1,e2,an,Fm,Ap hm hk,if_neg he]
       ·rw[Cr,e1]
        have:=Va (A:=l.take k) (B:=[]) (x:=l[k]) (by simpa using hss) (λy hy=>by
         obtain⟨j,hj,rfl⟩:=aP hy;have hj':j<k:=by simp at hj;omega
         rw[CE]
         have :l[j] <=l[k-1] :=by
          by_cases e:j=k-1
          ·subst e;exact cJ _
          ·exact Ct.1 hs _ _ (by omega) (by omega) (by omega)
         omega) (by simp)
        simpa using this
       ·simp only[Cj];omega
     ·have hk':k=l.length:=by omega
      subst hk';rw[Cq] at hss;exact .inr ⟨_,by simp only[DI,BB];rw[if_neg (by omega)],.inl ⟨rfl,hss⟩⟩)
   (s:=(((),((1:Nat):Int),()),(),(l,()))) ⟨1,by omega,by omega,by
     cases l with
     |nil=>exact List.Pairwise.nil
     |cons a l=>exact CG _ _,rfl⟩
  obtain⟨e,h1,h2⟩:=eX;rw[show IR (((),1,()),(),(l,()))=_ from h1];rcases h2 with ⟨rfl,h2⟩| ⟨kk,W,rfl,h3,h4,h5,h6⟩
  ·exact⟨l,rfl,h2,λ_=>Iff.rfl,aw _⟩
  ·refine⟨W.take kk,?_,h5,h6,by simp;omega⟩;simp only[an,Cw];exact AL ⟨trivial,h3⟩ _ _
theorem Ue(l:List Int)(hl:l.length<=12): ∃r,GI l=some (r,())/\SS r/\(∀y,y∈r↔y∈l)/\r.length<=l.length:=by obtain⟨s,s1,s2,s3⟩:=aaq l hl;have sl:=s3.length_eq;obtain⟨r,r1,r2,r3,r4⟩:=Wa s (by omega) s2;unfold GI FG;rw[AL (FR (by omega)),an,s1,an,AL sl,r1];exact⟨r,rfl,r2,λy=>by rw[r3,s3.mem_iff],by omega⟩
theorem abz(a b:List Int)(h:a.length+b.length<=12): ∃r,Hi a b=some (r,())/\Hb a b=some (r,())/\SS r/\(∀y,y∈r↔y∈a\/y∈b)/\r.length<=a.length+b.length:=by
 obtain⟨r,r1,r2,r3,r4⟩:=WU a b (by omega) (by omega);obtain⟨s,s1,s2,s3,s4⟩:=Ue (a++b) (by simp;omega);have hrs:r=s:=r2.uniq s2 λy=>by rw[r3,s3,bz]
 subst hrs;refine⟨r,r1,?_,r2,r3,r4⟩;unfold Hb
 have hc:=XF [a,b] (by simp) (by intro x hx;simp only[aW,List.not_mem_nil,or_false] at hx;rcases hx with rfl|rfl<;>omega)
 rw[hc,an,show ([a,b]:List (List Int)).flatten=a++b by simp,s1];rfl
end
section
theorem H8(m:jw)(e:Int)(h:KI 1048576 m)(hv:C7 m=some (true,())): ∃c b,EY m e=some (c,b,())/\Hw m e=some (c,b,())/\D5 maxLen c/\(b=Ff e 1 (m.configs.length:Int))/\(b=true->CV c=some (true,())/\c.epoch=e)/\(b=false->c=⟨0,0,[],[]⟩):=by
 obtain⟨b,m1,m2⟩:=masterLog m (ED h);rw[hv] at m1;simp only[ae,ap,and_true] at m1;subst m1;obtain⟨f1,_,_⟩:=LS (ED h) hv;have zero:D5 maxLen ⟨0,0,[],[]⟩:=⟨bL _,bL _⟩
 have hl:=h.1;unfold EY Hw;simp only[hv,m2,DC,Hk,an,CQ,Bg];cases hw:Ff e 1 (m.configs.length:Int) with
 |false=>exact⟨_,_,rfl,rfl,zero,rfl,nofun,λ_=>rfl⟩
 |true=>
  have hw:=CS.1 hw;simp only[Bg];rw[uj (n:=e-1) (by omega) (by omega)];have hlt: (e-1).toNat<m.configs.length:=by omega
  have hk:=h.2 _ (Cn hlt)
  have copy: ∀c:mD,D5 1048576 c->Gj c=some (c,())/\Ey c=some (c,()):=by intro c hc;unfold Gj Ey;simp only[bC];rw[AL (FR hc.1),AL (FR hc.2)];exact⟨rfl,rfl⟩
  rw[AL (by omega),AL (by omega),ao hlt];simp only[an,(copy _ hk).1,(copy _ hk).2];refine⟨_,_,rfl,rfl,C5 hk,rfl,λ_=>⟨(f1 _ hlt).1,?_⟩,nofun⟩;rw[(f1 _ hlt).2];omega
theorem Jg(x:oZ)(ok:Dd 1048576 x)(hv:CP x=some (true,())): ∃c b,C1 x.master=some (c,b,())/\Dr x.master=some (c,b,())/\D5 maxLen c/\(b=decide (x.master.activated>0))/\(b=true->CV c=some (true,())/\c.epoch=x.master.activated)/\(b=false->c=⟨0,0,[],[]⟩):=by
 have vc:=Dl ok hv;obtain⟨_,f2,f3⟩:=LS (ED ok.2.2.1) vc.ml;obtain⟨c,b,c1,c2,c3,c4,c5,c6⟩:=H8 x.master x.master.activated ok.2.2.1 vc.ml;unfold C1 Dr;rw[c1,c2];refine⟨c,b,rfl,rfl,c3,?_,c5,c6⟩;rw[c4];unfold Ff;rw[decide_eq_true f3,cR];by_cases h:x.master.activated>0
 ·rw[decide_eq_true h,decide_eq_true (by omega)]
 ·rw[decide_eq_false h,decide_eq_false (by omega)]
end
section
def La(p:Nat->Bool)(n:Nat):List Int:=((List.range n).filter p).map λ(k:Nat)=>(k:Int)
theorem Qo(p:Nat->Bool)(n:Nat):La p (n+1)=La p n++if p n=true then [(n:Int)] else [] :=by
 unfold La;rw[List.range_succ,Cv,bH]
 congr 1
 cases h:p n<;>simp[h]
theorem NV(p:Nat->Bool)(n:Nat)(x:Int):x∈La p n↔ ∃k:Nat,k<n/\p k=true/\x=(k:Int):=by
 unfold La;simp only[aD,CI,bq];constructor
 ·rintro⟨k,⟨h1,h2⟩,rfl⟩;exact⟨k,h1,h2,rfl⟩
 ·rintro⟨k,h1,h2,rfl⟩;exact⟨k,⟨h1,h2⟩,rfl⟩
theorem W7(p:Nat->Bool)(n:Nat): (La p n).length<=n:=by unfold La;rw[aF];exact aU (CB _ _) (by simp)
theorem R6(p:Nat->Bool){n:Nat}(hn:n<=5):Jf (La p n):=by
 have hp: (La p n).Pairwise (· < ·):=by unfold La;rw[List.pairwise_map];exact (List.Pairwise.filter _ List.pairwise_lt_range).imp λh=>by omega
 intro k hk;have hm: (La p n)[k] ∈La p n:=Cn hk;obtain⟨j,h1,_,h2⟩:=(NV p n _).1 hm;exact⟨⟨by omega,by omega⟩,λh0=>Ct.1 hp (k-1) k (by omega) hk (by omega)⟩
theorem ZZ(p q:Nat->Bool)(n:Nat): (La p n).filter (λx=>decide (x∈La q n))=La (λk=>p k&&q k) n:=by
 unfold La;rw[List.filter_map,List.filter_filter]
 congr 1
 apply List.filter_congr;intro k hk;have hk:=bq.1 hk
 have : (((λx=>decide (x∈La q n))∘λ(k:Nat)=>(k:Int)) k)=q k:=by
  show decide ((k:Int)∈La q n)=q k;cases hq:q k with
  |true=>exact decide_eq_true ((NV q n _).2 ⟨k,hk,hq,rfl⟩)
  |false=>
   refine decide_eq_false λh=> ?_;obtain⟨j,_,h1,h2⟩:=(NV q n _).1 h;have :j=k:=by omega
   subst this;rw[hq] at h1;cases h1
 have e:decide ((k:Int)∈List.map (λ(k:Nat)=>(k:Int)) (List.filter q (List.range n)))=q k:=this;simp only[Function.comp,e,Bool.and_comm]
def Vc(x:oZ)(k:Nat):Bool:=match x.servers[k]? with |some s=>s.up|none=>false
def N8(l:List Int)(k:Nat):Bool:=match l[k]? with |some s=>s==0|none=>false
theorem WX{p:Nat->Bool}{k:Nat}(h:k<=1000)(y:Int): (La p k++ [y]).length*8<=2 ^ 40:=by have:=W7 p k;refine FR ?_;rw[bI,cm];omega
theorem Yb(x:oZ)(hl:x.servers.length=5)(hv:CP x=some (true,())):K4 x=some (La (Vc x) 5,()):=by
 have ex: (⟨x.now,x.servers,x.sides,⟨x.master.configs,x.master.activated⟩,x.masterUp,⟨x.lease.epoch,x.lease.holder,x.lease.ends⟩,x.places⟩:oZ)=x:=rfl
 have eX:=AN (B:=HU) x.servers (λk (b:List Int)=>(((),(),(k:Int),()),((x.now,x.servers,x.sides,x.master.configs,x.master.activated,x.masterUp,x.lease.epoch,x.lease.holder,x.lease.ends,x.places,()),()),(b,()))) (λk b=>b=La (Vc x) k) (λ_ _ _=>(((),()),(),(La (Vc x) 5,())))
  (λb hb=>by simp only[HU];rw[BB,if_neg (by omega),hb,hl])
  (λk b s hs hb=>by
    have hk:=BI hs;have c1: (k:Int)< (x.servers.length:Int):=by omega
    have c2: (0:Int)<=(k:Int):=by omega
    have hup:Vc x k=s.up:=by unfold Vc;rw[hs]
    subst hb;simp only[HU,BB,AJ,if_pos c1,if_pos c2,Cj,hs,an,ex,hv,Bg,Ap (n:=5) (by decide) (by omega:k<5),if_pos (WX (p:=Vc x) (k:=k) (by omega) (k:Int))];refine .inl ⟨La (Vc x) (k+1),?_,rfl,trivial⟩;rw[Qo,hup];cases s.up
    ·simp;rfl
    ·rfl)
  0 [] (bL _) rfl
 unfold K4;rw[show PC (((),(),0,()),((x.now,x.servers,x.sides,x.master.configs,x.master.activated,x.masterUp,x.lease.epoch,x.lease.holder,x.lease.ends,x.places,()),()),([],()))=_ from eX];rfl
theorem GO{l:List Int}(hl:l.length<=maxLen)(hv:FU l=some (true,())):l.length=5:=by
 obtain⟨b,h1,h2⟩:=L3 l hl;rw[hv] at h1;simp only[ae,ap,and_true] at h1;subst h1;unfold Jq at h2;cases h: ((l.length:Int)==5) with
 |false=>rw[h] at h2;cases h2
 |true=>simp only[beq_iff_eq] at h;omega
theorem WM(l:List Int)(hl:l.length=5)(hv:FU l=some (true,())):JR l=some (La (N8 l) 5,()):=by
 have eX:=AN (B:=G7) l (λk (b:List Int)=>((l,(),(k:Int),()),(),(b,()))) (λk b=>b=La (N8 l) k) (λ_ _ _=>(((),()),(),(La (N8 l) 5,())))
  (λb hb=>by simp only[G7];rw[BB,if_neg (by omega),hb,hl])
  (λk b s hs hb=>by
    have hk:=BI hs;have c1: (k:Int)< (l.length:Int):=by omega
    have c2: (0:Int)<=(k:Int):=by omega
    have hup:N8 l k=(s==0):=by unfold N8;rw[hs]
    subst hb;simp only[G7,BB,AJ,if_pos c1,if_pos c2,Cj,hs,an,hv,Bg,Ap (n:=5) (by decide) (by omega:k<5),if_pos (WX (p:=N8 l) (k:=k) (by omega) (k:Int))];refine .inl ⟨La (N8 l) (k+1),?_,rfl,trivial⟩;rw[Qo,hup];cases (s==0)
    ·simp;rfl
    ·rfl)
  0 [] (bL _) rfl
 unfold JR;rw[show OV ((l,(),0,()),(),([],()))=_ from eX];rfl
def Di(x:oZ)(k:Nat):Bool:=Vc x k&&N8 x.sides k
theorem Yg(x:oZ)(ok:Dd 1048576 x)(hv:CP x=some (true,())):Mg x=some (La (Di x) 5,()):=by have vc:=Dl ok hv;have hsl:=GO (CW ok.2.1) vc.sides;unfold Mg;rw[Yb x vc.len hv,WM x.sides hsl vc.sides];simp only[an];rw[Pp _ _ (R6 _ (aw 5)) (aU (W7 _ _) (by decide)),ZZ];rfl
end
section
def GW(x:oZ)(a:Int):Int:=(x.sides[a.toNat]?).getD 0
theorem Lj(x:oZ)(ok:Dd 1048576 x)(vc:VC x){a b:Int}(ha:0<=a/\a<5)(hb:0<=b/\b<5):EG x.sides a b=some (GW x a==GW x b,())/\GR x.sides a b=some (GW x a==GW x b,()):=by
 have hl:=CW ok.2.1;have h5:=GO hl vc.sides;obtain⟨v,s1,s2⟩:=L3 x.sides hl;rw[vc.sides] at s1;simp only[ae,ap,and_true] at s1;subst s1;have wa:Ff a 0 4=true:=CS.2 (by omega);have wb:Ff b 0 4=true:=CS.2 (by omega);have la:a.toNat<x.sides.length:=by omega
 have lb:b.toNat<x.sides.length:=by omega
 unfold EG GR GW;simp only[vc.sides,s2,DC,Hk,wa,wb,an,Bg,AJ,if_pos ha.1,if_pos hb.1,ao la,ao lb,aQ,and_self]
theorem Hq{x:oZ}(ok:Dd 1048576 x)(vc:VC x){a:Int}(ha:0<=a/\a<5): ∃s,x.servers[a.toNat]? =some s/\Dz 1048576 s/\CU s a=some (true,()):=by
 have hlt:a.toNat<x.servers.length:=by rw[vc.len];omega
 refine⟨_,ao hlt,ok.1.2 _ (Cn hlt),?_⟩;have:=vc.srv _ hlt
 rwa [CN ha.1] at this
def Sj(x:oZ)(a b:Int):Bool:=(GW x a==GW x b)&&(match x.servers[b.toNat]?,x.servers[a.toNat]? with
 |some m,some p=>m.up&&(m.epoch==p.epoch)&&decide (m.commit<=(p.log.length:Int))&&decide (m.config=p.config)
 | _,_=>false)
theorem aaC(x:oZ)(ok:Dd 1048576 x)(vc:VC x){a b:Int}(ha:0<=a/\a<5)(hb:0<=b/\b<5):FW x a b=some (Sj x a b,())/\Qj x a b=some (Sj x a b,()):=by obtain⟨p,p1,p2,_⟩:=Hq ok vc ha;obtain⟨m,m1,m2,_⟩:=Hq ok vc hb;obtain⟨h1,h2⟩:=Lj x ok vc ha hb;obtain⟨e1,e2⟩:=Ew m.config p.config (C5 m2.1);unfold FW Qj Sj;simp only[p1,m1,h1,h2,e1,e2,AJ,if_pos ha.1,if_pos hb.1,an];cases (GW x a==GW x b)<;>cases m.up<;>cases (m.epoch==p.epoch)<;>cases (decide (m.commit<=(p.log.length:Int)))<;>cases (decide (m.config=p.config))<;>exact⟨rfl,rfl⟩
theorem Jv(s:o4)(id:Int)(h:Dz 1048576 s): ∃b,DG s id=some (b,())/\H9 s id=some (b,()):=by obtain⟨v,v1,v2⟩:=MU s id h;obtain⟨n,n1,n2,_⟩:=N7 s.config id (C5 h.1);unfold DG H9;simp only[v1,v2,n1,n2,an];cases v<;>cases s.up<;>cases (n==1)<;>exact⟨_,rfl,rfl⟩
theorem LZ(c:mD)(h:D5 maxLen c): ∃l,DN c=some (l,())/\Ib c=some (l,())/\l.length<=10/\(∀y∈l,0<=y/\y<5)/\SS l/\(CV c=some (true,())-> ∀y,y∈l↔y∈c.replicas\/y∈c.witnesses):=by
 obtain⟨v,v1,v2⟩:=F8 c h;unfold DN Ib;simp only[v1,v2,an,CQ];cases v with
 |false=>exact⟨[],rfl,rfl,bL _,nofun,List.Pairwise.nil,nofun⟩
 |true=>
  obtain⟨a1,a2,_⟩:=Gh h v1;have l1:=a1.len;have l2:=a2.len;obtain⟨r,r1,r2,r3,r4,r5⟩:=abz c.replicas c.witnesses (by omega)
  have rng: ∀ {l:List Int},Jf l-> ∀y∈l,0<=y/\y<5:=by intro l ha y hy;obtain⟨k,hk,rfl⟩:=aP hy;have:=(ha k hk).1;omega
  simp only[Bg,r1,r2,an];refine⟨r,rfl,rfl,by omega,λy hy=> ?_,r3,λ_=>r4⟩;rcases (r4 y).1 hy with h|h
  ·exact rng a1 y h
  ·exact rng a2 y h
theorem MG(x:oZ)(ok:Dd 1048576 x): ∃n,DE x=some (n,())/\Ge x=some (n,())/\(n= -1\/0<=n):=by
 obtain⟨v,v1,v2⟩:=Dg x ok;unfold DE Ge;cases v with
 |false=>
  obtain⟨c,d,d1,d2,_⟩:=KX x.master x.master.activated ok.2.2.1
  have d1:C1 x.master=some (c,d,()):=by unfold C1;rw[d1];rfl
  have d2:Dr x.master=some (c,d,()):=by unfold Dr;rw[d2];rfl
  have g:Eb x c.primary=some (false,()):=by unfold Eb Dk;simp only[v2,an];rfl
  simp only[d1,d2,v1,g,an];cases d<;>exact⟨-1,rfl,rfl,.inl rfl⟩
 |true=>
  obtain⟨c,d,d1,d2,d3,d4,d5,d6⟩:=Jg x ok v1;have vc:=Dl ok v1;simp only[d1,d2,v1,an,CQ,Bg];cases d with
  |false=>exact⟨-1,rfl,rfl,.inl rfl⟩
  |true=>
   obtain⟨asc,_,hpr,_,_,_⟩:=Gh d3 (d5 rfl).1
   have hp:0<=c.primary/\c.primary<5:=by obtain⟨k,hk,e⟩:=aP hpr;have:=(asc k hk).1;omega
   obtain⟨s,s1,s2,_⟩:=Hq ok vc hp;obtain⟨b,b1,b2⟩:=Jv s c.primary s2;have wp:Ff c.primary 0 4=true:=CS.2 (by omega)
   have g:Eb x c.primary=some (b,()):=by unfold Eb Dk;simp only[v2,an,Hk,wp,Bg,AJ,if_pos hp.1,s1,b2]
   simp only[Bg,AJ,if_pos hp.1,s1,b1,g,an];cases b with
   |false=>exact⟨-1,rfl,rfl,.inl rfl⟩
   |true=>
    simp only[Bg];cases he: (s.config.epoch==c.epoch) with
    |false=>exact⟨-1,rfl,rfl,.inl rfl⟩
    |true=>
     obtain⟨m,m1,m2,m3,m4,_⟩:=LZ c d3;have hm:m.length<=maxLen:=by unfold maxLen;omega
     have eX:=Bo (B1:=Eo) (B2:=Db) m.length
      (λk=>(((),(),(),(k:Int),()),((x.now,x.servers,x.sides,x.master.configs,x.master.activated,x.masterUp,x.lease.epoch,x.lease.holder,x.lease.ends,x.places,()),(c.epoch,c.primary,(),(),()),()),(m,c.replicas,c.witnesses,())))
      (λk=>((m,(x,c,()),(m.length:Int),(k:Int),()),(),()))
      (.inr (((),(),()),((c.epoch,c.primary,(),(),()),()),(c.replicas,c.witnesses,()))) (.inr (((),()),(),()))
      (λ_=> .inl (((-1),(),()),((c.epoch,c.primary,(),(),()),()),(c.replicas,c.witnesses,()))) (λk=> .inl (((k:Int),()),(),()))
      (λ_=>True) (λ_=>True)
      (by simp only[Eo];rw[BB,if_neg (by omega)])
      (by simp only[Db];rw[BB,if_neg (by omega)])
      (λk hk=>by
        have c1: (k:Int)< (m.length:Int):=by omega
        have c2: (0:Int)<=(k:Int)/\(k:Int)< (m.length:Int):=by omega
        have hz:=m4 m[k] (Cn hk);obtain⟨h1,h2⟩:=aaC x ok vc hp hz
        simp only[Eo,Db,G1,BB,CQ,AJ,if_pos c1,if_pos c2,if_pos c2.1,Cj,ao hk,an,
         show (⟨x.now,x.servers,x.sides,(⟨x.master.configs,x.master.activated⟩:jw),x.masterUp,(⟨x.lease.epoch,x.lease.holder,x.lease.ends⟩:s7),x.places⟩:oZ)=x from rfl,h1,h2,Ap hm hk]
        cases Sj x c.primary m[k] with
        |true=>exact .inl ⟨rfl,rfl,trivial⟩
        |false=>exact .inr ⟨rfl,rfl,trivial⟩)
     simp only[Bg,m1,m2,an,DQ,D0];rcases eX with ⟨k1,k2,_⟩| ⟨k,_,k1,k2,_⟩
     ·rw[show Ju (((),(),(),0,()),((x.now,x.servers,x.sides,x.master.configs,x.master.activated,x.masterUp,x.lease.epoch,x.lease.holder,x.lease.ends,x.places,()),(c.epoch,c.primary,(),(),()),()),(m,c.replicas,c.witnesses,()))=_ from k1,
       show EB ((m,(x,c,()),(m.length:Int),0,()),(),())=_ from k2]
      simp only[an,Cz];rw[decide_eq_false (by omega)];exact⟨c.primary,rfl,rfl,.inr hp.1⟩
     ·rw[show Ju (((),(),(),0,()),((x.now,x.servers,x.sides,x.master.configs,x.master.activated,x.masterUp,x.lease.epoch,x.lease.holder,x.lease.ends,x.places,()),(c.epoch,c.primary,(),(),()),()),(m,c.replicas,c.witnesses,()))=_ from k1,
       show EB ((m,(x,c,()),(m.length:Int),0,()),(),())=_ from k2]
      simp only[an,Cw];rw[decide_eq_true (by omega)];exact⟨-1,rfl,rfl,.inl rfl⟩
theorem QM(x:oZ)(ok:Dd 1048576 x): ∃b,E3 x=some (b,())/\Ia x=some (b,()):=by
 obtain⟨n,n1,n2,n3⟩:=MG x ok;unfold E3 Ia;simp only[n1,n2,an];rcases n3 with rfl|h
 ·exact⟨false,rfl,rfl⟩
 ·refine⟨true,?_,?_⟩
  ·rw[decide_eq_true h]
  ·have : (n== -1)=false:=by
    simp only[beq_eq_false_iff_ne,ne_eq];omega
   rw[this];rfl
end
section
def Qh(s:o4):List pZ:=if Ff s.commit s.first (s.first+(s.log.length:Int))=true then s.log.take (s.commit-s.first).toNat else []
theorem XE(s:o4)(id:Int)(h:Dz 1048576 s)(hv:CU s id=some (true,())):Dx s=some (Qh s,())/\HD s=some (Qh s,()):=by
 obtain⟨f1,f2,f3,f4,f5,_⟩:=Kg h hv;unfold Dx HD Qh;rw[uj (n:=s.first+(s.log.length:Int)) (by omega) (by omega)];simp only[DC,Hk,an,CQ,BB,if_neg (show ¬s.first<0 by omega)];cases hw:Ff s.commit s.first (s.first+(s.log.length:Int)) with
 |false=>exact⟨rfl,rfl⟩
 |true=>
  have hw:=CS.1 hw;have d1: (0:Int)<=0/\(0:Int)<=s.commit-s.first/\s.commit-s.first<=(s.log.length:Int):=by omega
  have hs: (s.log.take (s.commit-s.first).toNat).length*56<=2 ^ 40:=by
   have : (s.log.take (s.commit-s.first).toNat).length<=16:=by simp;omega
   have e: (2:Nat) ^ 40=1099511627776:=by decide
   omega
  simp only[Bg,if_true];rw[uj (n:=s.commit-s.first) (by omega) (by omega)];simp only[AJ,if_pos d1,EF,DW,CK,ct,CA,bC,if_pos hs,an];exact⟨trivial,trivial⟩
end
section
theorem ab0{s:o4}{id:Int}(h:Dz 1048576 s)(hv:CU s id=some (true,())):s.config=⟨0,0,[],[]⟩\/CV s.config=some (true,()):=by
 have hc:=C5 h.1;by_cases hz:s.config=⟨0,0,[],[]⟩
 ·exact .inl hz
 ·right;obtain⟨b,v1,_⟩:=F8 s.config hc;cases b with
  |true=>exact v1
  |false=>
   exfalso
   have hr:D8 s.config id=some (0,()):=by unfold D8;rw[v1];rfl
   unfold CU at hv;simp only[DC,an,CQ,Jm s.config hc,hr,BB,if_neg hz] at hv;cases h1:Ff s.version 1 2 with
   |false=>rw[h1] at hv;cases hv
   |true=>
   cases h2:Ff s.epoch 0 20 with
   |false=>rw[h1,h2] at hv;cases hv
   |true=>
   rcases isLog s.log (CW h.2.1) with ⟨a1,a2,a3⟩| ⟨a1,a2⟩
   case inr=>simp only[h1,h2,a1,an,Bg,Ar] at hv;cases hv
   rcases isLog s.learned (CW h.2.2) with ⟨b1,b2,b3⟩| ⟨b1,b2⟩
   case inr=>simp only[h1,h2,a1,b1,an,Bg,Ar] at hv;cases hv
   obtain⟨n,n1,n2⟩:=IJ s.log (CW h.2.1);simp only[h1,h2,a1,b1,n1,an,Bg] at hv;cases h3:Ff s.first 0 16<;>rw[h3] at hv
   ·cases hv
   ·cases h4:Ff (IntKind.wrap .i64 (s.first+(s.log.length:Int))) 0 16<;>rw[h4] at hv
    ·cases hv
    ·cases h5:Ff s.commit 0 (IntKind.wrap .i64 (s.first+(s.log.length:Int)))<;>rw[h5] at hv
     ·cases hv
     ·cases h6:s.intact<;>rw[h6] at hv
      ·cases hv
      ·simp only[Bg] at hv
       repeat' split at hv
       all_goals cases hv
def Sf(s:o4)(id:Int):List pZ:=if id∈s.config.replicas then (if (Qh s).length>s.learned.length then Qh s else s.learned) else s.learned
theorem W4(s:o4)(id:Int)(h:Dz 1048576 s)(hv:CU s id=some (true,())):II s id=some (Sf s id,())/\Gw s id=some (Sf s id,()):=by
 have hc:=C5 h.1;obtain⟨p1,p2⟩:=XE s id h hv
 have hs:s.learned.length*56<=2 ^ 40:=by
  have e: (2:Nat) ^ 40=1099511627776:=by decide
  have:=h.2.2;omega
 have cmp: ((Qh s).length:Int)>(s.learned.length:Int)↔(Qh s).length>s.learned.length:=by omega
 have hrep:KY s id=some (decide (id∈s.config.replicas),()):=by unfold KY;rw[(C9 s.config.replicas id hc.1).2];rfl
 have himpl:Gw s id=some (Sf s id,()):=by
  unfold Gw DW Sf;simp only[p2,hrep,an,BB,AJ,if_pos hs,cmp];split
  ·split<;>rfl
  ·rfl
 refine⟨?_,himpl⟩
 have hrole: ∃r,D8 s.config id=some (r,())/\((r=1\/r=2)↔id∈s.config.replicas):=by
  rcases ab0 h hv with hz|hvc
  ·refine⟨0,?_,?_⟩
   ·rw[hz];rfl
   ·rw[hz];simp
  ·obtain⟨_,_,hpr,_⟩:=Gh hc hvc;unfold D8;simp only[hvc,an,CQ,Bg,Fm,(C9 s.config.replicas id hc.1).1,(C9 s.config.witnesses id hc.2).1,BB];by_cases h1:id=s.config.primary
   ·rw[if_pos h1];exact⟨1,rfl,by simp[h1,hpr]⟩
   ·rw[if_neg h1];by_cases h2:id∈s.config.replicas
    ·rw[if_pos h2];exact⟨2,rfl,by simp[h2]⟩
    ·rw[if_neg h2];split
     ·exact⟨3,rfl,by simp[h2]⟩
     ·exact⟨0,rfl,by simp[h2]⟩
 obtain⟨r,r1,r2⟩:=hrole;unfold II EF Sf;simp only[r1,p1,bC,AJ,if_pos hs,an,Fm,BB,cmp];by_cases h1:r=1
 ·rw[if_pos h1,if_pos (r2.1 (.inl h1))];split<;>rfl
 ·rw[if_neg h1];by_cases h2:r=2
  ·rw[if_pos h2,if_pos (r2.1 (.inr h2))];split<;>rfl
  ·rw[if_neg h2,if_neg (λh=>by rcases r2.2 h with h|h<;>contradiction)]
end
end Go.Proofs.YtkghndikalnipaaGreat.En
namespace Go.Proofs.YtkghndikalnipaaGreat.En
open Go.IntKind renaming wrap→acK
open Go
theorem Yx(n:Int)(h0:0<=n)(h1:n<=1000000):Hj n=some ([],()):=by
 unfold Hj;have e1:acK .i64 ((0:Int)-0)=0:=uj (by decide) (by decide);have e2:acK .i64 (n-0)=n:=by rw[uj (by omega) (by omega)];omega
 simp only[e1,e2,BB,if_neg (show ¬n<0 by omega)];by_cases h:n>0
 ·have e: (2:Int) ^ 40=1099511627776:=by decide
  have c1:0<n/\n*((56:Nat):Int)<=2 ^ 40:=⟨h,by omega⟩
  have c2: (0:Int)<=0/\(0:Int)<=0/\(0:Int)<=((n.toNat:Nat):Int):=by omega
  simp only[if_pos h,AJ,if_pos c1,if_pos c2,and_self,if_true];simp
 ·simp only[if_neg h]
theorem ZT(l:List (List pZ))(hl:l.length<=10)(h: ∀a∈l,a.length<=1000):GB l=some (l.flatten,()):=by
 have hm:l.length<=maxLen:=by unfold maxLen;omega
 have tot: ∀k,(l.take k).flatten.length<=k*1000:=by
  intro k
  induction k with
  |zero=>simp
  |succ k ih=>
   cases hx:l[k]? with
   |none=>
    have hle:l.length<=k:=by simpa using hx
    rw[bT hle] at ih;rw[bT (Cx hle)];exact aU ih (bn _ (cA k))
   |some a=>rw[Ef hx,CH,bI];have:=h a (ax hx);simp only[List.flatten_cons,List.flatten_nil,bM];rw[Nat.succ_mul];exact Nat.add_le_add ih this
 have k1:=AN (B:=FL) l (λk (n:Int)=>((l,n,l,(l.length:Int),(k:Int),()),(),())) (λk n=>n=((l.take k).flatten.length:Int)) (λ_ _ _=>((l,(l.flatten.length:Int),()),(),()))
  (λn hn=>by simp only[FL];rw[BB,if_neg (by omega),hn,Cq])
  (λk n a hx hn=>by
    have hk:=BI hx;have c1: (k:Int)< (l.length:Int):=by omega
    have c2: (0:Int)<=(k:Int):=by omega
    have t:=tot k;have ha:=h a (ax hx);have hk10:k*1000<=10000:=by omega
    refine .inl ⟨n+(a.length:Int),?_,?_,rfl⟩
    ·simp only[FL,BB,AJ,if_pos c1,if_pos c2,Cj,hx,an,Ap hm hk,uj (n:=n+(a.length:Int)) (by omega) (by omega),if_neg (show ¬n+(a.length:Int)<0 by omega)]
    ·rw[Ef hx,CH,bI,hn];simp)
  0 0 (bL _) (by simp)
 have t:=tot l.length;rw[Cq] at t
 have k2:=AN (B:=Fx) l (λk (b:List pZ)=>(((),l,(l.length:Int),(k:Int),()),(),(b,()))) (λk b=>b=(l.take k).flatten) (λ_ _ _=>(((),()),(),(l.flatten,())))
  (λb hb=>by simp only[Fx];rw[BB,if_neg (by omega),hb,Cq])
  (λk b a hx hb=>by
    have hk:=BI hx;have c1: (k:Int)< (l.length:Int):=by omega
    have c2: (0:Int)<=(k:Int):=by omega
    have t:=tot k;have ha:=h a (ax hx);have hs: (b++a).length*56<=2 ^ 40:=Qc (by rw[hb,bI];omega) (by decide);refine .inl ⟨b++a,?_,?_,rfl⟩
    ·simp only[Fx,BB,AJ,if_pos c1,if_pos c2,Cj,hx,an,Ap hm hk,if_pos hs]
    ·rw[Ef hx,CH,hb];simp)
  0 [] (bL _) (by simp)
 unfold GB;rw[show MQ ((l,0,l,(l.length:Int),0,()),(),())=_ from k1];simp only[an,Yx _ (show (0:Int)<=(l.flatten.length:Int) by omega) (by omega)];rw[show Mp (((),l,(l.length:Int),0,()),(),([],()))=_ from k2];rfl
theorem aaz(x y:pZ): ((x.epoch==y.epoch)&&((x.op.client==y.op.client)&&((x.op.seq==y.op.seq)&&((x.op.kind==y.op.kind)&&((x.op.object==y.op.object)&&((x.op.old==y.op.old)&&((x.op.value==y.op.value)&&true)))))))=decide (x=y):=by obtain⟨a,b,c,d,e,f,g⟩:=x;obtain⟨a',b',c',d',e',f',g'⟩:=y;rw[bG];simp[and_assoc]
theorem Wf(a b:List pZ)(ha:a.length<=maxLen):FJ a b=some (decide (a=b),()):=by
 unfold FJ;rw[CQ,Fm];split
 ·rename_i hl;have hl:a.length=b.length:=by omega
  rcases Nv (B:=Gd) a.length (λk=>((a,b,(a.length:Int),(k:Int),()),(),())) (.inr (((),()),(),())) (λ_=> .inl ((false,()),(),())) (λk=>decide (a[k]? ≠b[k]?))
   (by simp only[Gd];rw[BB,if_neg (by omega)])
   (λk hk=>by
     have c1: (k:Int)< (a.length:Int):=by omega
     have c2: (0:Int)<=(k:Int):=by omega
     have hk':k<b.length:=by omega
     simp only[Gd,aaz,CQ,BB,AJ,if_pos c1,if_pos c2,Cj,ao hk,ao hk',an,Ap ha hk];by_cases h:a[k] =b[k]<;>simp[h]) with ⟨k1,k2⟩| ⟨i,hi,k1,k2,_⟩
  ·rw[show KH ((a,b,(a.length:Int),0,()),(),())=_ from k1]
   have :a=b:=List.ext_getElem hl λk h1 h2=>by have:=k2 k h1;rw[ao h1,ao h2] at this;simpa using this
   rw[decide_eq_true this];rfl
  ·rw[show KH ((a,b,(a.length:Int),0,()),(),())=_ from k1]
   have :a≠b:=λh=>by rw[h] at k2;simp at k2
   rw[decide_eq_false this];rfl
 ·rename_i hl;have :a≠b:=λh=>hl (by rw[h]);rw[decide_eq_false this]
theorem Qf(a b:List pZ)(ha:a.length<=maxLen): ∃n:Nat,Gi a b=some ((n:Int),())/\n<=a.length/\n<=b.length/\a.take n=b.take n/\(n<a.length->n<b.length->a[n]? ≠b[n]?):=by
 rcases Nv (B:=Fu) a.length (λk=>((a,b,(k:Int),()),(),())) ((((a.length:Nat):Int),()),(),()) (λk=>(((k:Int),()),(),())) (λk=>decide (a[k]? ≠b[k]?))
  (by simp only[Fu];rw[BB,if_neg (by omega)])
  (λk hk=>by
    have c1: (k:Int)< (a.length:Int):=by omega
    have c2: (0:Int)<=(k:Int):=by omega
    by_cases hk':k<b.length
    ·have c3: (k:Int)< (b.length:Int):=by omega
     simp only[Fu,aaz,BB,AJ,if_pos c1,if_pos c2,if_pos c3,Cj,ao hk,ao hk',an,Ap ha hk];by_cases h:a[k] =b[k]<;>simp[h]
    ·have c3: ¬ (k:Int)< (b.length:Int):=by omega
     simp only[Fu,BB,if_pos c1,if_neg c3,ao hk,ck (show b.length<=k by omega)];simp) with ⟨k1,k2⟩| ⟨i,hi,k1,k2,k3⟩
 ·have eq: ∀k,k<a.length->a[k]? =b[k]? :=λk hk=>by simpa using k2 k hk
  have hl:a.length<=b.length:=by
   rcases bh a.length with h|h
   ·omega
   ·have:=eq (a.length-1) (by omega);rw[ao (by omega)] at this;have:=BI this.symm;omega
  refine⟨a.length,?_,aw _,hl,?_,λh=>absurd h (dg _)⟩
  ·unfold Gi;rw[show KE ((a,b,0,()),(),())=_ from k1];rfl
  ·refine bu λk=> ?_;rw[bg,bg];split
   ·exact eq k (by assumption)
   ·rfl
 ·have eq: ∀k,k<i->a[k]? =b[k]? :=λk hk=>by simpa using k3 k hk
  have hl:i<=b.length:=by
   rcases bh i with h|h
   ·omega
   ·have:=eq (i-1) (by omega);rw[ao (by omega)] at this;have:=BI this.symm;omega
  refine⟨i,?_,by omega,hl,?_,λ_ _=>by simpa using k2⟩
  ·unfold Gi;rw[show KE ((a,b,0,()),(),())=_ from k1];rfl
  ·refine bu λk=> ?_;rw[bg,bg];split
   ·exact eq k (by assumption)
   ·rfl
theorem YE(a:List pZ)(n:Int)(t:List pZ)(ha:a.length<=1048576)(ht:t.length<=1048576): ∃l b,HA a n t=some (l,b,())/\L5 a n t=some (l,b,())/\l.length<=19:=by
 unfold HA L5 LY L7;rcases isLog a (CW ha) with ⟨a1,a2,a3⟩| ⟨a1,a2⟩
 case inr=>simp only[a1,a2,an];exact⟨_,_,rfl,rfl,bL _⟩
 rcases isLog t (CW ht) with ⟨t1,t2,t3⟩| ⟨t1,t2⟩
 case inr=>simp only[a1,a2,t1,t2,an];exact⟨_,_,rfl,rfl,bL _⟩
 simp only[a1,a2,t1,t2,an,CQ,Bg,DC,Hk];by_cases c1: (t.length:Int)<=3
 case neg=>simp only[BB,if_neg c1];exact⟨_,_,rfl,rfl,bL _⟩
 rw[uj (n:=16-(t.length:Int)) (by omega) (by omega)];cases hw:Ff n 0 (16-(t.length:Int)) with
 |false=>simp only[BB,if_pos c1];exact⟨_,_,rfl,rfl,bL _⟩
 |true=>
  have hw:=CS.1 hw;simp only[BB,if_pos c1,Bg]
  have rest: ∃l b,(if n>(a.length:Int) then some (([]:List pZ),false,()) else iteP (0<=n/\n<=(a.length:Int)/\(a.length:Int)<=(a.length:Int)) ((Gi ((a.drop n.toNat).take ((a.length:Int).toNat-n.toNat)) t).bind λy3=>if y3.1< (if (t.length:Int)< (acK .i64 ((a.length:Int)-n)) then (t.length:Int) else (acK .i64 ((a.length:Int)-n))) then some (([]:List pZ),false,()) else ((EF a).bind λy4=>iteP (0<=y3.1/\y3.1<=(t.length:Int)/\(t.length:Int)<=(t.length:Int)) (iteP ((y4.1++((t.drop y3.1.toNat).take ((t.length:Int).toNat-y3.1.toNat))).length*56<=2 ^ 40) ((DU (y4.1++((t.drop y3.1.toNat).take ((t.length:Int).toNat-y3.1.toNat)))).bind λy5=>br y5.1 (some ((y4.1++((t.drop y3.1.toNat).take ((t.length:Int).toNat-y3.1.toNat))),true,())) (some (([]:List pZ),false,()))) none) none)) none)=some (l,b,())/\
    (if n>(a.length:Int) then some (([]:List pZ),false,()) else iteP (0<=(if (acK .i64 ((a.length:Int)-n))< (t.length:Int) then (acK .i64 ((a.length:Int)-n)) else (t.length:Int))/\(if (acK .i64 ((a.length:Int)-n))< (t.length:Int) then (acK .i64 ((a.length:Int)-n)) else (t.length:Int))<=(t.length:Int)/\(t.length:Int)<=(t.length:Int)) ((GB ([a,((t.drop (if (acK .i64 ((a.length:Int)-n))< (t.length:Int) then (acK .i64 ((a.length:Int)-n)) else (t.length:Int)).toNat).take ((t.length:Int).toNat-(if (acK .i64 ((a.length:Int)-n))< (t.length:Int) then (acK .i64 ((a.length:Int)-n)) else (t.length:Int)).toNat))]:List (List pZ))).bind λy3=>iteP (0<=n/\n<=(acK .i64 (n+(if (acK .i64 ((a.length:Int)-n))< (t.length:Int) then (acK .i64 ((a.length:Int)-n)) else (t.length:Int))))/\(acK .i64 (n+(if (acK .i64 ((a.length:Int)-n))< (t.length:Int) then (acK .i64 ((a.length:Int)-n)) else (t.length:Int))))<=(a.length:Int)) (iteP (0<=(0:Int)/\(0:Int)<=(if (acK .i64 ((a.length:Int)-n))< (t.length:Int) then (acK .i64 ((a.length:Int)-n)) else (t.length:Int))/\(if (acK .i64 ((a.length:Int)-n))< (t.length:Int) then (acK .i64 ((a.length:Int)-n)) else (t.length:Int))<=(t.length:Int)) ((FJ ((a.drop n.toNat).take ((acK .i64 (n+(if (acK .i64 ((a.length:Int)-n))< (t.length:Int) then (acK .i64 ((a.length:Int)-n)) else (t.length:Int)))).toNat-n.toNat)) ((t.drop (0:Int).toNat).take ((if (acK .i64 ((a.length:Int)-n))< (t.length:Int) then (acK .i64 ((a.length:Int)-n)) else (t.length:Int)).toNat-(0:Int).toNat))).bind λy4=>br y4.1 ((H3 y3.1).bind λy5=>br y5.1 (some (y3.1,true,())) (some (([]:List pZ),false,()))) (some (([]:List pZ),false,()))) none) none) none)=some (l,b,())/\l.length<=19:=by
   by_cases c2:n>(a.length:Int)
   ·simp only[if_pos c2];exact⟨_,_,rfl,rfl,bL _⟩
   ·rw[uj (n:=(a.length:Int)-n) (by omega) (by omega)];obtain⟨i,rfl⟩: ∃i:Nat,n=(i:Int):=⟨n.toNat,by omega⟩
    have hm: (if (a.length:Int)-(i:Int)< (t.length:Int) then (a.length:Int)-(i:Int) else (t.length:Int))=((min t.length (a.length-i):Nat):Int):=by split<;>omega
    have hm2: (if (t.length:Int)< (a.length:Int)-(i:Int) then (t.length:Int) else (a.length:Int)-(i:Int))=((min t.length (a.length-i):Nat):Int):=by split<;>omega
    rw[hm,hm2];generalize hM:min t.length (a.length-i)=m;have d1: (0:Int)<=(i:Int)/\(i:Int)<=(a.length:Int)/\(a.length:Int)<=(a.length:Int):=by omega
    have d2: (0:Int)<=(m:Int)/\(m:Int)<=(t.length:Int)/\(t.length:Int)<=(t.length:Int):=by omega
    have d3: (0:Int)<=(i:Int)/\(i:Int)<=((i:Int)+(m:Int))/\((i:Int)+(m:Int))<=(a.length:Int):=by omega
    have d4: (0:Int)<=0/\(0:Int)<=(m:Int)/\(m:Int)<=(t.length:Int):=by omega
    have e1: (a.drop i).take (a.length-i)=a.drop i:=bT (by simp);have e2: (t.drop m).take (t.length-m)=t.drop m:=bT (by simp);have e3: ((i:Int)+(m:Int)).toNat-i=m:=by omega
    have hc:=ZT [a,t.drop m] (by simp) (by
     intro z hz;simp only[aW,List.not_mem_nil,or_false] at hz;rcases hz with rfl|rfl
     ·omega
     ·simp;omega)
    rw[show ([a,t.drop m]:List (List pZ)).flatten=a++t.drop m by simp] at hc;rw[uj (n:=(i:Int)+(m:Int)) (by omega) (by omega)];have hx: (a++t.drop m).length<=19:=by simp;omega
    have hxm: (a++t.drop m).length<=maxLen:=by unfold maxLen;omega
    have he:=Wf ((a.drop i).take m) (t.take m) (by simp[maxLen];omega);obtain⟨k,k1,k2,k3,k4,k5⟩:=Qf (a.drop i) t (by simp[maxLen];omega);simp only[if_neg c2,AJ,if_pos d1,if_pos d2,if_pos d3,if_pos d4,Cj,CK,ct,CA,e1,e2,e3,hc,he,k1,an,BB];have hk:k<=m:=by simp at k2;omega
    by_cases hkm:k=m
    ·subst hkm;simp only[if_neg (show ¬ ((k:Int)< (k:Int)) by omega),(H2 a ha).1,an,if_pos d2,e2,if_pos k4];rw[if_pos (Qc (by omega) (by decide))];rcases isLog (a++t.drop k) hxm with ⟨z1,z2,_⟩| ⟨z1,z2⟩
     ·simp only[z1,z2,an];exact⟨_,_,rfl,rfl,hx⟩
     ·simp only[z1,z2,an];exact⟨_,_,rfl,rfl,bL _⟩
    ·have hlt:k<m:=by omega
     have hne: ¬ (a.drop i).take m=t.take m:=λh=>by have:=congrArg (λz:List pZ=>z[k]?) h;simp only[bg,if_pos hlt] at this;exact k5 (by simp;omega) (by omega) this
     simp only[if_pos (show ((k:Int)< (m:Int)) by omega),if_neg hne];exact⟨_,_,rfl,rfl,bL _⟩
  by_cases h0:n=0
  ·simp only[Fm,if_pos h0,Bg];exact rest
  ·simp only[Fm,if_neg h0];by_cases h3: (t.length:Int)=3
   ·simp only[h3,beq_self_eq_true,Bg];rw[h3] at rest;exact rest
   ·have : ((t.length:Int)==3)=false:=by simpa using h3
    simp only[this,Ar];exact⟨_,_,rfl,rfl,bL _⟩
end Go.Proofs.YtkghndikalnipaaGreat.En
namespace Go.Proofs.YtkghndikalnipaaGreat.En
open Go
section
theorem Tn(x:s7):BT (Kw x) (Jr x):=by
 obtain⟨b,h1,h2⟩:=NW x;unfold Kw Jr;simp only[h1,h2,an];cases b with
 |false=>simp only[Bool.not_false,Bg];cases ((x.epoch==0)&&((x.holder==0)&&((x.ends==0)&&true)))<;>exact⟨_,rfl,rfl⟩
 |true=>
  simp only[cS,Ar];cases he:x.ends==0 with
  |true=>
   cases hz: ((x.epoch==0)&&((x.holder==0)&&(true&&true))) with
   |true=>exact⟨_,rfl,rfl⟩
   |false=>
    exfalso;unfold FM at h2;rw[he,hz] at h2;simp only[Ar,Hk,an] at h2
    have hw:Ff x.ends 1 1049=false:=by rw[Bool.eq_false_iff];intro hw;have:=CS.1 hw;simp only[beq_iff_eq] at he;omega
    rw[hw] at h2;revert h2;cases Ff x.epoch 1 20<;>cases Ff x.holder 0 4<;>intro h2<;>cases h2
  |false=>
   have hz: ((x.epoch==0)&&((x.holder==0)&&(false&&true)))=false:=by cases x.epoch==0<;>cases x.holder==0<;>rfl
   rw[hz];exact⟨_,rfl,rfl⟩
theorem MO(x:s7)(n:Int):BT (GU x n) (Fz x n):=by obtain⟨b,h1,h2⟩:=NW x;obtain⟨t,t1,t2⟩:=Tn x;unfold GU Fz;simp only[h1,h2,t1,t2,DC,Hk,an];cases b<;>cases Ff n 0 999<;>exact⟨_,rfl,rfl⟩
end
section
def U7(l:List tc)(k:Nat):Bool:=match l[k]? with |some p=>decide (p.load<p.capacity)|none=>false
theorem L0{l:List tc}(hl:l.length<=maxLen)(hv:Dt l=some (true,())):l.length=5:=by
 obtain⟨b,h1,h2⟩:=Iy l hl;rw[hv] at h1;simp only[ae,ap,and_true] at h1;subst h1;unfold FI at h2;cases h: ((l.length:Int)==5) with
 |false=>rw[h] at h2;cases h2
 |true=>simp only[beq_iff_eq] at h;omega
theorem ZY(l:List tc)(hl:l.length<=maxLen)(hv:Dt l=some (true,()))(k:Nat)(hk:k<5):Kt l (k:Int)=some (U7 l k,())/\Nd l (k:Int)=some (U7 l k,()):=by
 have h5:=L0 hl hv;obtain⟨b,h1,h2⟩:=Iy l hl;rw[hv] at h1;simp only[ae,ap,and_true] at h1;subst h1;have hw:Ff (k:Int) 0 4=true:=CS.2 (by omega);have c2: (0:Int)<=(k:Int):=by omega
 have hlt:k<l.length:=by omega
 unfold Kt Nd U7;simp only[hv,h2,DC,Hk,hw,an,Bg,AJ,if_pos c2,Cj,ao hlt];exact⟨trivial,trivial⟩
theorem Vd(x:oZ)(hl:x.servers.length=5)(hs:x.sides.length=5)(k:Nat)(hk:k<5):Ic x (k:Int)=some (Di x k,()):=by
 have c2: (0:Int)<=(k:Int):=by omega
 have h1:k<x.servers.length:=by omega
 have h2:k<x.sides.length:=by omega
 unfold Ic Di Vc N8;simp only[AJ,if_pos c2,Cj,ao h1,ao h2,an];cases x.servers[k].up<;>rfl
theorem PR:IH=some ([0,1,2,3,4],()):=by
 unfold IH
 have :OS (((),0,()),(()),(([]:List Int),()))=some (((),()),(()),([0,1,2,3,4],())):=by refine (qR (by rfl)).trans ?_;refine (qR (by rfl)).trans ?_;refine (qR (by rfl)).trans ?_;refine (qR (by rfl)).trans ?_;refine (qR (by rfl)).trans ?_;exact kT (by rfl)
 rw[this];rfl
end
section
theorem Pe(a b:List Int)(ha:Jf a)(hb:b.length<=maxLen):Ec a b=some (a.filter λx=> !decide (x∈b),()):=by
 have hl:=ha.len;have hm:a.length<=maxLen:=by unfold maxLen;omega
 have hp:=ha.pair
 have eX:=AN (B:=Fv) a (λk (out:List Int)=>((a,b,(),(k:Int),()),(),(out,()))) (λk out=>out=(a.take k).filter λx=> !decide (x∈b)) (λk r out=>(((),()),(),(out++r.filter λx=> !decide (x∈b),())))
  (λout hb=>by simp only[Fv];rw[BB,if_neg (by omega)];simp)
  (λk out x hx hout=>by
    have hk:=BI hx;have c1: (k:Int)< (a.length:Int):=by omega
    have c2: (0:Int)<=(k:Int):=by omega
    have hxe:a[k] =x:=by rw[ao hk] at hx;exact Option.some.inj hx
    simp only[Fv,CQ,BB,AJ,if_pos c1,if_pos c2,Cj,hx,an,(C9 b x hb).1,Ap hm hk];by_cases hin:x∈b
    ·simp only[if_pos hin];refine .inl ⟨out,rfl,?_,?_⟩
     ·rw[hout,Cr,hx,Cv];simp[hin]
     ·simp[hin]
    ·have hlt: ∀y∈out,y<x:=by
      intro y hy;rw[hout,CI] at hy;obtain⟨i,hi,he⟩:=aP hy.1;have hi':i<k:=by simp at hi;omega
      rw[CE] at he;rw[<-he,<-hxe];exact Ct.1 hp i k (by omega) hk hi'
     have hol:out.length<=1000:=by rw[hout];have:=CB (λx=> !decide (x∈b)) (a.take k);simp only[cH] at this;omega
     simp only[if_neg hin,U0 out x hol hlt,an];refine .inl ⟨out++ [x],rfl,?_,?_⟩
     ·rw[hout,Cr,hx,Cv];simp[hin]
     ·simp[hin])
  0 [] (bL _) rfl
 unfold Ec;rw[show Mo ((a,b,(),0,()),(),([],()))=_ from eX];rfl
end
section
theorem aaj(l:List tc)(hl:l.length<=maxLen)(hv:Dt l=some (true,()))(m:List Int)(hm:Jf m)(h1:Ei m=some (true,()))(h2:Eh m=some (true,())): ∃r,Ku l m=some (r,())/\Nf l m=some (r,())/\r.length<=5:=by
 have h5:=L0 hl hv
 have hp2:FI l=some (true,()):=by obtain⟨b,a1,a2⟩:=Iy l hl;rw[hv] at a1;simp only[ae,ap,and_true] at a1;subst a1;exact a2
 have ml:=hm.len;have mm:m.length<=maxLen:=by unfold maxLen;omega
 let R:List Int:=m.map λid=>match l[id.toNat]? with |some p=>p.rack|none=>0
 have hR:R.length=m.length:=by simp[R]
 have at_: ∀k,(hk:k<m.length)-> ∃p,l[m[k].toNat]? =some p/\0<=m[k] /\R[k]? =some p.rack:=by
  intro k hk;have hr:=(hm k hk).1;have hlt:m[k].toNat<l.length:=by omega
  refine⟨_,ao hlt,hr.1,?_⟩;simp only[R,aq,ao hk,aB,ao hlt]
 obtain⟨r,r1,r2,r3,r4⟩:=Zu (B:=H7) (mk:=λk v=>((l,m,(),(k:Int),()),(),(v,()))) (E:=λv=>(((),()),(),(v,()))) R (by omega)
  (λv=>by simp only[H7];rw[BB,if_neg (by omega)])
  (λk v x hx=>by
    have hk:k<m.length:=by have:=BI hx;omega
    have c1: (k:Int)< (m.length:Int):=by omega
    have c2: (0:Int)<=(k:Int):=by omega
    obtain⟨p,p1,p2,p3⟩:=at_ k hk;rw[hx] at p3;have p3:=Option.some.inj p3;simp only[H7,BB,Bg,AJ,if_pos c1,if_pos c2,Cj,ao hk,an,hv,h1,if_pos p2,p1,Ap mm hk,p3])
  [] List.Pairwise.nil (bL _)
 have kI:=AN (B:=Jx) m (λk (v:List Int)=>((l,(),m,(m.length:Int),(k:Int),()),(),(v,()))) (λk v=>v=R.take k) (λ_ _ _=>(((),()),(),(R,())))
  (λv h=>by simp only[Jx];rw[BB,if_neg (by omega),h,bT (by omega)])
  (λk v x hx h=>by
    have hk:=BI hx;have c1: (k:Int)< (m.length:Int):=by omega
    have c2: (0:Int)<=(k:Int):=by omega
    obtain⟨p,p1,p2,p3⟩:=at_ k hk;have h40: (v++ [p.rack]).length*8<=2 ^ 40:=FR (by rw[h];simp;omega);simp only[Jx,BB,AJ,if_pos c1,if_pos c2,Cj,ao hk,an,if_pos p2,p1,Ap mm hk,if_pos h40];refine .inl ⟨v++ [p.rack],rfl,?_,trivial⟩;rw[h,Ef p3])
  0 [] (bL _) rfl
 obtain⟨s,s1,s2,s3,s4⟩:=Ue R (by omega);have hrs:r=s:=r2.uniq s2 λy=>by rw[r3,s3];simp
 subst hrs;unfold Ku Nf;rw[show Rj ((l,m,(),0,()),(),([],()))=_ from r1];simp only[hp2,h2,an,cS,Ar];rw[show Ri ((l,(),m,(m.length:Int),0,()),(),([],()))=_ from kI];simp only[an,s1];exact⟨r,rfl,rfl,by omega⟩
theorem NQ{l:List Int}(h:SS l)(hr: ∀y∈l,0<=y/\y<5):Jf l:=by intro k hk;have:=hr _ (Cn hk);exact⟨by omega,λh0=>Ct.1 h _ _ (by omega) hk (by omega)⟩
theorem LB{l:List Int}(h:Jf l):Ei l=some (true,())/\Eh l=some (true,()):=by
 have hl:=h.len;have hm:l.length<=maxLen:=by unfold maxLen;omega
 obtain⟨_,_,h1,h2⟩:=LN (B1:=E7) (B2:=E6) l.length (λk (_:Unit)=>((l,(k:Int),()),(),())) (λk _=>((l,l,(l.length:Int),(k:Int),()),(),())) (λ_ _=>True) (λ_=> .inr (((),()),(),())) (λ_=> .inr (((),()),(),()))
  (λ_ _=>by simp only[E7,E6,BB];exact⟨if_neg (by omega),if_neg (by omega)⟩)
  (λk _ hk _=>by
    have c1: (k:Int)< (l.length:Int):=by omega
    have c2: (0:Int)<=(k:Int):=by omega
    obtain⟨r1,r2⟩:=h k hk;have w:Ff l[k] 0 4=true:=CS.2 r1;refine⟨(),?_⟩;simp only[E7,E6,BB,AJ,if_pos c1,if_pos c2,Cj,ao hk,an,DC,Hk,w,cS,Ar,Ap hm hk];by_cases h0:0<k
    ·have c3: (k:Int)>0:=by omega
     have c4: (0:Int)<=((k-1:Nat):Int):=by omega
     have e2:l[k-1]? =some l[k-1] :=ao (by omega);have:=r2 h0;simp only[if_pos c3,Ao h0 (by omega),if_pos c4,Cj,e2,an,if_neg (show ¬l[k-1] ≥l[k] by omega),if_neg (show ¬l[k] <=l[k-1] by omega),and_self]
    ·simp only[if_neg (show ¬ (k:Int)>0 by omega),and_self])
  () trivial
 unfold Ei Eh;rw[show J6 ((l,0,()),(),())=_ from h1,show J5 ((l,l,(l.length:Int),0,()),(),())=_ from h2];exact⟨rfl,rfl⟩
theorem Q0(l:List tc)(hl:l.length<=maxLen)(hv:Dt l=some (true,()))(m a:List Int)(hm:Jf m)(ha:a.length<=maxLen): ∃n,Hp l m a=some (n,())/\JB l m a=some (n,())/\(n= -1\/(0<=n/\n<5/\n∉m)):=by
 have h5:=L0 hl hv;obtain⟨h1,h2⟩:=LB hm;obtain⟨r,r1,r2,r3⟩:=aaj l hl hv m hm h1 h2;have ml:=hm.len;have mm:m.length<=maxLen:=by unfold maxLen;omega
 have rm:r.length<=maxLen:=by unfold maxLen;omega
 obtain⟨n,n1,n2,n3⟩:=LN (B1:=GQ) (B2:=HS) 5 (λk (b:Int)=>((l,m,a,b,(),(k:Int),()),(),(r,()))) (λk b=>((l,m,a,b,(),(k:Int),()),(),(r,()))) (λ_ b=>b= -1\/(0<=b/\b<5/\b∉m)) (λb=>((b,()),(),())) (λb=>((b,()),(),()))
  (λb hb=>by simp only[GQ,HS,BB];exact⟨if_neg (by omega),if_neg (by omega)⟩)
  (λk b hk hb=>by
    have c1: (k:Int)<5:=by omega
    have c2: (0:Int)<=(k:Int):=by omega
    have hlt:k<l.length:=by omega
    obtain⟨q1,q2⟩:=ZY l hl hv k hk;obtain⟨t1,t2⟩:=C9 m (k:Int) mm;obtain⟨u1,u2⟩:=C9 a (k:Int) ha;obtain⟨w1,w2⟩:=C9 r l[k].rack rm;have sw:=Ap (n:=5) (by decide) hk;simp only[GQ,HS,BB,CQ,if_pos c1,h1,Bg,an,q1,q2,t1,t2,u1,u2,sw];cases U7 l k with
    |false=>exact⟨b,rfl,rfl,hb⟩
    |true=>
     by_cases hmem: (k:Int)∈m
     ·simp only[Bg,if_pos hmem];exact⟨b,rfl,rfl,hb⟩
     ·have hk': (k:Int)= -1\/(0<=(k:Int)/\(k:Int)<5/\(k:Int)∉m):=.inr ⟨c2,c1,hmem⟩;by_cases hav: (k:Int)∈a
      ·simp only[Bg,if_neg hmem,if_pos hav];exact⟨b,rfl,rfl,hb⟩
      ·simp only[Bg,if_neg hmem,if_neg hav];rcases hb with rfl| ⟨b0,b5,bm⟩
       ·simp only[if_pos (show (-1:Int)<0 by omega)];exact⟨k,rfl,rfl,hk'⟩
       ·have hbl:b.toNat<l.length:=by omega
        obtain⟨z1,z2⟩:=C9 r l[b.toNat].rack rm;simp only[if_neg (show ¬b<0 by omega),Ky,AJ,if_pos c2,if_pos b0,Cj,ao hlt,ao hbl,an,w1,w2,z1,z2,CQ];by_cases e1:l[k].rack∈r<;>by_cases e2:l[b.toNat].rack∈r<;>by_cases e3:l[k].load<l[b.toNat].load<;>simp only[e1,e2,e3,decide_true,decide_false,beq_self_eq_true,Bg,Ar,if_true,if_false,cS,Bool.not_false,beq_iff_eq]
        all_goals first |exact⟨k,rfl,rfl,hk'⟩|exact⟨b,rfl,rfl,.inr ⟨b0,b5,bm⟩⟩)
  (-1) (.inl rfl)
 unfold Hp JB;simp only[r1,r2,h2,an,cS,Ar];rw[show PB ((l,m,a,(-1),(),0,()),(),(r,()))=_ from n2,show PA ((l,m,a,(-1),(),0,()),(),(r,()))=_ from n3];exact⟨n,rfl,rfl,n1⟩
end
section
theorem Yy{α:Type}{w:α->Int}{l:List α}{k:Nat}{x:α}(h:l[k]? =some x)(y:α):K9 w (l.set k y)=K9 w l-w x+w y:=by
 induction l generalizing k with
 |nil=>cases h
 |cons z l ih=>
  cases k with
  |zero=>
   have :z=x:=by simpa using h
   subst this;simp only[List.set_cons_zero,K9];omega
  |succ k=>
   have h:l[k]? =some x:=by simpa using h
   simp only[List.set_cons_succ,K9,ih h];omega
end
section
theorem Up{m:jw}(h:KI 1048576 m)(hv:C7 m=some (true,())):m.configs.length<=20:=by
 obtain⟨f,_,_⟩:=LS (ED h) hv;rcases bh m.configs.length with h0|h0
 ·omega
 ·have hk:m.configs.length-1<m.configs.length:=by omega
  obtain⟨f1,f2⟩:=f _ hk;have:=(Gh (C5 (h.2 _ (Cn hk))) f1).2.2.2.2.1;omega
theorem XJ{α:Type}(w:α->Int)(l:List α)(x:α):K9 w (l++ [x])=K9 w l+w x:=by rw[Vj];simp[K9]
theorem TX(m:jw)(c:mD)(h:KI 1048576 m)(hc:D5 1048576 c): ∃r b,Fj m c=some (r,b,())/\HH m c=some (r,b,())/\KI 1048576 r/\tMl r<=tMl m+1+Qd c/\(b=false->r=m)/\(b=true->r=⟨m.configs++ [c],m.activated⟩/\C7 m=some (true,())/\CV c=some (true,())/\c.epoch=(m.configs.length:Int)+1):=by
 obtain⟨v,v1,v2⟩:=masterLog m (ED h);obtain⟨u,u1,u2⟩:=F8 c (C5 hc);have hn:=R8 c;have hl:=h.1;unfold Fj HH;simp only[(NU m h).1,(NU m h).2,(KP c hc).1,(KP c hc).2,v1,v2,u1,u2,an,CQ,Fm];cases v with
 |false=>exact⟨m,false,rfl,rfl,h,by omega,λ_=>rfl,nofun⟩
 |true=>
  cases u with
  |false=>exact⟨m,false,rfl,rfl,h,by omega,λ_=>rfl,nofun⟩
  |true=>
   have hm:=Up h v1;rw[uj (n:=(m.configs.length:Int)+1) (by omega) (by omega)];by_cases he:c.epoch=(m.configs.length:Int)+1
   ·have hs: (m.configs++ [c]).length*64<=2 ^ 40:=Qc (by simp;omega) (by decide);simp only[Bg,if_pos he,AJ,if_pos hs];refine⟨_,true,rfl,rfl,⟨by simp;omega,λd hd=> ?_⟩,?_,nofun,λ_=>⟨rfl,trivial,trivial,he⟩⟩
    ·rcases bz.1 hd with h1|h1
     ·exact h.2 d h1
     ·rw[aI.1 h1];exact hc
    ·unfold tMl;simp only[XJ,H6,bI,cm];omega
   ·simp only[Bg,if_neg he];exact⟨m,false,rfl,rfl,h,by omega,λ_=>rfl,nofun⟩
theorem Sa(m:jw)(e:Int)(h:KI 1048576 m): ∃r b,DV m e=some (r,b,())/\G9 m e=some (r,b,())/\KI 1048576 r/\tMl r=tMl m/\(b=false->r=m)/\(b=true->r=⟨m.configs,e⟩/\C7 m=some (true,())/\e=(m.configs.length:Int)/\m.activated<e):=by
 obtain⟨v,v1,v2⟩:=masterLog m (ED h);unfold DV G9;simp only[(NU m h).1,(NU m h).2,v1,v2,an,CQ,Fm,BB];cases v with
 |false=>exact⟨m,false,rfl,rfl,h,rfl,λ_=>rfl,nofun⟩
 |true=>
  simp only[Bg];by_cases h1:e=(m.configs.length:Int)
  ·by_cases h2:e<=m.activated
   ·simp only[if_pos h1,if_pos h2];exact⟨m,false,rfl,rfl,h,rfl,λ_=>rfl,nofun⟩
   ·simp only[if_pos h1,if_neg h2];exact⟨⟨m.configs,e⟩,true,rfl,rfl,h,rfl,nofun,λ_=>⟨rfl,trivial,h1,by omega⟩⟩
  ·simp only[if_neg h1];exact⟨m,false,rfl,rfl,h,rfl,λ_=>rfl,nofun⟩
def cutAt(l:List pZ):Nat:=l.length-3
theorem Se(l:List pZ)(hl:l.length<=1048576): (if IntKind.wrap .i64 ((l.length:Int)-3)>0 then IntKind.wrap .i64 ((l.length:Int)-3) else 0)=((cutAt l:Nat):Int):=by rw[uj (by omega) (by omega)];unfold cutAt;split<;>omega
theorem ZV(l:List pZ)(hl:l.length<=1048576)(hv:H3 l=some (true,())):Nc l=some (((cutAt l:Nat):Int),l.drop (cutAt l),()):=by
 unfold Nc;have hc:cutAt l<=l.length:=by unfold cutAt;omega
 have c1: (0:Int)<=((cutAt l:Nat):Int)/\((cutAt l:Nat):Int)<=(l.length:Int)/\(l.length:Int)<=(l.length:Int):=by omega
 have ht: ((l.drop (cutAt l)).take (l.length-cutAt l))=l.drop (cutAt l):=bT (by simp);simp only[hv,an,cS,Ar,Se l hl,AJ,if_pos c1,Cj,ht,(H2 (l.drop (cutAt l)) (by simp;omega)).2]
def Vk(s:o4)(c:mD)(l:List pZ)(w:Bool):o4:=if w=true then ⟨s.up,true,s.version,c.epoch,c,((cutAt l:Nat):Int),l.drop (cutAt l),(l.length:Int),[]⟩ else ⟨s.up,true,s.version,c.epoch,c,0,l,(l.length:Int),[]⟩
theorem Z0{s:o4}{c:mD}{l:List pZ}{w:Bool}(hc:D5 1048576 c)(hl:l.length<=1048576):Dz 1048576 (Vk s c l w)/\NN (Vk s c l w)<=Qd c+H6 l:=by
 unfold Vk;cases w
 ·refine⟨⟨hc,hl,bL _⟩,?_⟩;simp only[NN,H6,aN,if_false,bR];omega
 ·refine⟨⟨hc,by simp;omega,bL _⟩,?_⟩;simp only[NN,H6,if_true,bR,cf];omega
theorem Tv(s:o4)(c:mD)(id:Int)(l:List pZ)(hs:Dz 1048576 s)(hc:D5 1048576 c)(hl:l.length<=1048576): ∃r b,D7 s c id l=some (r,b,())/\HF s c id l=some (r,b,())/\Dz 1048576 r/\NN r<=NN s+Qd c+H6 l/\(b=false->r=s)/\(b=true-> ∃w,r=Vk s c l w):=by
 obtain⟨n,r1,r2,_⟩:=N7 c id (C5 hc);obtain⟨e,e1,e2⟩:=IJ l (CW hl);obtain⟨q,q1,q2⟩:=Zp l (CW hl);have t1:=aaw s;have t2:=R8 c;have t3:=aay l;have no: ∃r b,some (s,false,())=some (r,b,())/\some (s,false,())=some (r,b,())/\Dz 1048576 r/\NN r<=NN s+Qd c+H6 l/\(b=false->r=s)/\(b=true-> ∃w,r=Vk s c l w):=⟨s,false,rfl,rfl,hs,by omega,λ_=>rfl,nofun⟩
 unfold D7 HF;simp only[r1,r2,(MJ s hs).1,(MJ s hs).2,(KP c hc).1,(KP c hc).2,(H2 l hl).1,(H2 l hl).2,DC,Hk,e1,e2,q1,q2,an,CQ,BB];have hcut:cutAt l<=l.length:=by unfold cutAt;omega
 have c1: (0:Int)<=((cutAt l:Nat):Int)/\((cutAt l:Nat):Int)<=(l.length:Int)/\(l.length:Int)<=(l.length:Int):=by omega
 have ht: ((l.drop (cutAt l)).take (l.length-cutAt l))=l.drop (cutAt l):=bT (by simp);cases hn:n==0 with
 |true=>exact no
 |false=>
 rcases isLog l (CW hl) with ⟨a1,a2,_⟩| ⟨a1,a2⟩
 case inr=>simp only[a1,a2,an,Ar];exact no
 simp only[a1,a2,an,Bg,Ar,Se l hl,AJ,if_pos c1,Cj,ht,(H2 (l.drop (cutAt l)) (by simp;omega)).1,ZV l hl a2];cases Ff s.version 1 2 with
 |false=>exact no
 |true=>
 cases Ff s.epoch 0 c.epoch with
 |false=>exact no
 |true=>
 simp only[Bg];by_cases he:e>c.epoch
 ·simp only[if_pos he];exact no
 simp only[if_neg he]
 have yes: ∀w,∃r b,some (Vk s c l w,true,())=some (r,b,())/\some (Vk s c l w,true,())=some (r,b,())/\Dz 1048576 r/\NN r<=NN s+Qd c+H6 l/\(b=false->r=s)/\(b=true-> ∃w,r=Vk s c l w):=by intro w;obtain⟨o1,o2⟩:=Z0 (s:=s) (c:=c) (l:=l) (w:=w) hc hl;exact⟨_,true,rfl,rfl,o1,by omega,nofun,λ_=>⟨w,rfl⟩⟩
 cases s.version==1 with
 |false=>
  cases n==3 with
  |false=>exact yes false
  |true=>exact yes true
 |true=>
  cases q with
  |true=>exact no
  |false=>
   cases n==3 with
   |false=>exact yes false
   |true=>exact yes true
end
section

end
section

end
section

end
section
theorem Yn(s:o4)(id:Int)(h:Dz 1048576 s): (Sf s id).length<=1048576:=by
 have h1:=h.2.1;have h2:=h.2.2
 have h3: (Qh s).length<=s.log.length:=by
  unfold Qh;split
  ·simp;omega
  ·exact bL _
 unfold Sf;split
 ·split<;>omega
 ·exact h2
end
section
abbrev fx(x:oZ):Int×List o4×List Int×List mD×Int×Int×Int×Int×Int×List tc×Unit:=(x.now,x.servers,x.sides,x.master.configs,x.master.activated,x.masterUp,x.lease.epoch,x.lease.holder,x.lease.ends,x.places,())
abbrev ZW(s:o4):Bool×Bool×Int×Int×Int×Int×List Int×List Int×Int×List pZ×Int×List pZ×Unit:=(s.up,s.intact,s.version,s.epoch,s.config.epoch,s.config.primary,s.config.replicas,s.config.witnesses,s.first,s.log,s.commit,s.learned,())
structure Yd (x x':oZ):Prop where
 sides:x'.sides=x.sides
 master:x'.master=x.master
 srv: ∀ (k:Nat) (s:o4),x.servers[k]? =some s-> ∃e,x'.servers[k]? =some (⟨s.up,s.intact,s.version,e,s.config,s.first,s.log,s.commit,s.learned⟩:o4)
theorem Yd.refl(x:oZ):Yd x x:=⟨rfl,rfl,λ_ s h=>⟨s.epoch,h⟩⟩
theorem Yd.side{x x':oZ}(h:Yd x x')(a:Int):GW x' a=GW x a:=by unfold GW;rw[h.sides]
theorem Ye{x:oZ}(ok:Dd 1048576 x)(hv:CP x=some (true,())): ∃c d,C1 x.master=some (c,d,())/\Dr x.master=some (c,d,())/\D5 maxLen c/\c.replicas.length<=5/\c.witnesses.length<=5/\(∀z∈c.replicas,0<=z/\z<5)/\(∀z∈c.witnesses,0<=z/\z<5)/\(d=false->c=⟨0,0,[],[]⟩):=by
 obtain⟨c,d,d1,d2,d3,d4,d5,d6⟩:=Jg x ok hv
 have rng: ∀ {l:List Int},Jf l-> ∀y∈l,0<=y/\y<5:=by intro l ha y hy;obtain⟨k,hk,rfl⟩:=aP hy;have:=(ha k hk).1;omega
 cases d with
 |false=>exact⟨c,false,d1,d2,d3,by rw[d6 rfl];simp,by rw[d6 rfl];simp,by rw[d6 rfl];simp,by rw[d6 rfl];simp,d6⟩
 |true=>obtain⟨a1,a2,_⟩:=Gh d3 (d5 rfl).1;exact⟨c,true,d1,d2,d3,a1.len,a2.len,rng a1,rng a2,nofun⟩
section
variable {x x':oZ} (ok:Dd 1048576 x) (ok':Dd 1048576 x') (hv:CP x=some (true,())) (hv':CP x'=some (true,())) (se:Yd x x') {id:Int} (hid:0<=id/\id<5)
include ok ok' hv hv' se hid
theorem Tp: ∃l,EX x id=some (l,())/\FZ x' id=some (l,())/\l.length<=5/\ ∀z∈l,0<=z/\z<5:=by
 have vc:=Dl ok hv;have vc':=Dl ok' hv';obtain⟨c,d,d1,d2,d3,r5,_,inr,_,d6⟩:=Ye ok hv;have rm:c.replicas.length<=maxLen:=by unfold maxLen;omega
 have rO:Ff id 0 4=true:=CS.2 (by omega)
 have hgood:Dk x' id=some (true,()):=by obtain⟨v,w1,w2⟩:=Dg x' ok';rw[hv'] at w1;simp only[ae,ap,and_true] at w1;subst w1;unfold Dk;simp only[w2,an,Hk,rO,Bg]
 unfold EX FZ;have d2':Dr x'.master=some (c,d,()):=by rw[se.master];exact d2
 simp only[d1,d2',hgood,an,CQ,Bg];cases d with
 |false=>
  have hc:=d6 rfl;subst hc
  rw[show J7 ((id,(),(),(),false,0,()),(fx x,(0,0,(),(),()),()),([],[],[],()))=some (((),()),(),([],())) from kT (by simp only[E9];rfl)]
  exact⟨[],rfl,rfl,bL _,nofun⟩
 |true=>
  obtain⟨l,q,k1,k2⟩:=LN (B1:=E9) (B2:=G4) c.replicas.length (λk (b:List Int)=>((id,(),(),(),true,(k:Int),()),(fx x,(c.epoch,c.primary,(),(),()),()),(b,c.replicas,c.witnesses,()))) (λk b=>((id,(),(),(),(),(c.replicas.length:Int),(k:Int),()),(fx x',(c.epoch,c.primary,(),(),()),()),(b,c.replicas,c.witnesses,()))) (λk b=>b.length<=k/\ ∀z∈b,0<=z/\z<5) (λb=>(((),()),(),(b,()))) (λb=>(((),()),(),(b,())))
   (λb _=>by simp only[E9,G4,BB];exact⟨if_neg (by omega),if_neg (by omega)⟩)
   (λk b hk hb=>by
     have c1: (k:Int)< (c.replicas.length:Int):=by omega
     have c2: (0:Int)<=(k:Int)/\(k:Int)< (c.replicas.length:Int):=by omega
     have hz:=inr _ (Cn hk);generalize hzz:c.replicas[k] =z at hz;have hg:c.replicas[k]? =some z:=by rw[<-hzz];exact ao hk
     obtain⟨s,s1,s2,_⟩:=Hq ok vc hz;obtain⟨e,e1⟩:=se.srv _ _ s1;obtain⟨h1,_⟩:=Lj x ok vc hid hz;obtain⟨_,h2⟩:=Lj x' ok' vc' hid hz;rw[se.side,se.side] at h2;have h40: (b++ [z]).length*8<=2 ^ 40:=FR (by simp;omega)
     simp only[E9,G4,Kq,fx,BB,Bg,AJ,if_pos c1,if_pos c2,Cj,hg,an,
      show (⟨x.now,x.servers,x.sides,(⟨x.master.configs,x.master.activated⟩:jw),x.masterUp,(⟨x.lease.epoch,x.lease.holder,x.lease.ends⟩:s7),x.places⟩:oZ)=x from rfl,hv,DC,rO,if_pos hz.1,s1,e1,h1,h2,if_pos h40,Ap rm hk]
     have hb': (b++ [z]).length<=k+1/\ ∀y∈b++ [z],0<=y/\y<5:=⟨by simp;omega,λy hy=>by
      rcases bz.1 hy with h|h
      ·exact hb.2 y h
      ·rw[aI.1 h];exact hz⟩
     have hb'':b.length<=k+1/\ ∀y∈b,0<=y/\y<5:=⟨by omega,hb.2⟩
     cases s.up<;>cases (s.config.epoch==c.epoch)<;>cases (GW x id==GW x z)<;>simp only[Bg,Ar,an]<;>first |exact⟨b++ [z],rfl,rfl,hb'⟩|exact⟨b,rfl,rfl,hb''⟩)
   [] ⟨bL _,nofun⟩
  rw[show J7 ((id,(),(),(),true,0,()),(fx x,(c.epoch,c.primary,(),(),()),()),([],c.replicas,c.witnesses,()))=_ from k1,
   show OP ((id,(),(),(),(),(c.replicas.length:Int),0,()),(fx x',(c.epoch,c.primary,(),(),()),()),([],c.replicas,c.witnesses,()))=_ from k2]
  exact⟨l,rfl,rfl,by omega,q.2⟩
theorem Sb: ∃n,EW x id=some (n,())/\GD x' id=some (n,())/\(n= -1\/(0<=n/\n<5)):=by
 have vc:=Dl ok hv;obtain⟨l,l1,l2,l3,inl⟩:=Tp ok ok' hv hv' se hid;have lm:l.length<=maxLen:=by unfold maxLen;omega
 obtain⟨n,q,k1,k2⟩:=LN (B1:=E8) (B2:=G3) l.length (λk (b:Int)=>(((),b,(),(k:Int),()),(fx x,()),(l,()))) (λk b=>(((),b,(),(l.length:Int),(k:Int),()),(fx x',()),(l,()))) (λ_ b=>b= -1\/(0<=b/\b<5)) (λb=>((b,()),(),())) (λb=>((b,()),(),()))
  (λb _=>by simp only[E8,G3,BB];exact⟨if_neg (by omega),if_neg (by omega)⟩)
  (λk b hk hb=>by
    have c1: (k:Int)< (l.length:Int):=by omega
    have c2: (0:Int)<=(k:Int)/\(k:Int)< (l.length:Int):=by omega
    have hz:=inl _ (Cn hk);generalize hzz:l[k] =z at hz;have hg:l[k]? =some z:=by rw[<-hzz];exact ao hk
    obtain⟨s,s1,s2,_⟩:=Hq ok vc hz;obtain⟨e,e1⟩:=se.srv _ _ s1;simp only[E8,G3,fx,BB,AJ,if_pos c1,if_pos c2,Cj,hg,an,if_pos hz.1,s1,e1,Ap lm hk];rcases hb with rfl|hb
    ·exact⟨z,rfl,rfl,.inr hz⟩
    ·obtain⟨t,t1,t2,_⟩:=Hq ok vc hb;obtain⟨f,f1⟩:=se.srv _ _ t1;simp only[if_neg (show ¬b<0 by omega),if_pos hb.1,t1,f1,an];by_cases h: (s.log.length:Int)>(t.log.length:Int)
     ·simp only[if_pos h];exact⟨z,rfl,rfl,.inr hz⟩
     ·simp only[if_neg h];exact⟨b,rfl,rfl,.inr hb⟩)
  (-1) (.inl rfl)
 unfold EW GD;simp only[l1,l2,an];rw[show Ml (((),(-1),(),0,()),(fx x,()),(l,()))=_ from k1,show Mj (((),(-1),(),(l.length:Int),0,()),(fx x',()),(l,()))=_ from k2];exact⟨n,rfl,rfl,q⟩
omit ok hv se in
theorem Yw:Dk x' id=some (true,()):=by obtain⟨v,w1,w2⟩:=Dg x' ok';rw[hv'] at w1;simp only[ae,ap,and_true] at w1;subst w1;unfold Dk;simp only[w2,an,Hk,CS.2 (show 0<=id/\id<=4 by omega),Bg]
theorem Ve{c:mD}{w w':o4}{z j:Int}(hw:Dz 1048576 w)(h1:w'.first=w.first)(h2:w'.log=w.log)(b:List pZ×Bool)(hb:b.1.length<=19/\(b.2=false->b.1= [])): ∃r:List pZ×Bool,(r.1.length<=19/\(r.2=false->r.1= []))/\
  Jo ((id,(),(),b.2,(),true,j,(),0,()),(fx x,(c.epoch,c.primary,(),(),()),ZW w,()),(b.1,c.replicas,c.witnesses,()))=some ((id,(),(),r.2,(),true,j,()),(fx x,(c.epoch,c.primary,(),(),()),()),(r.1,c.replicas,c.witnesses,()))/\
  Og ((id,(),(),(),b.2,(),(),z,j,x'.servers,(x'.servers.length:Int),0,()),(fx x',(c.epoch,c.primary,(),(),()),ZW w',()),(b.1,c.witnesses,c.replicas,()))=some ((id,(),(),(),r.2,(),z,j,()),(fx x',(c.epoch,c.primary,(),(),()),()),(r.1,c.witnesses,c.replicas,())):=by
 have vc:=Dl ok hv;have vc':=Dl ok' hv'
 refine LN (B1:=ET) (B2:=Gq) 5 (λk (b:List pZ×Bool)=>((id,(),(),b.2,(),true,j,(),(k:Int),()),(fx x,(c.epoch,c.primary,(),(),()),ZW w,()),(b.1,c.replicas,c.witnesses,()))) (λk b=>((id,(),(),(),b.2,(),(),z,j,x'.servers,(x'.servers.length:Int),(k:Int),()),(fx x',(c.epoch,c.primary,(),(),()),ZW w',()),(b.1,c.witnesses,c.replicas,()))) (λ_ b=>b.1.length<=19/\(b.2=false->b.1= [])) (λb=>((id,(),(),b.2,(),true,j,()),(fx x,(c.epoch,c.primary,(),(),()),()),(b.1,c.replicas,c.witnesses,()))) (λb=>((id,(),(),(),b.2,(),z,j,()),(fx x',(c.epoch,c.primary,(),(),()),()),(b.1,c.witnesses,c.replicas,())))
  (λb _=> ?_) (λk b hk hb=> ?_) b hb
 ·simp only[ET,Gq,BB,vc'.len];exact⟨if_neg (by omega),if_neg (by omega)⟩
 ·have c1: (k:Int)<5:=by omega
  have c1': (k:Int)< (x'.servers.length:Int):=by rw[vc'.len];omega
  have c2: (0:Int)<=(k:Int):=by omega
  have hkk:0<=(k:Int)/\(k:Int)<5:=⟨c2,c1⟩
  obtain⟨s,s1,s2,s3⟩:=Hq ok vc hkk;obtain⟨t,t1,t2,t3⟩:=Hq ok' vc' hkk;obtain⟨e,e1⟩:=se.srv _ _ s1;rw[t1] at e1;have e1:=Option.some.inj e1;obtain⟨g1,_⟩:=Lj x ok vc hid hkk;obtain⟨_,g2⟩:=Lj x' ok' vc' hid hkk;rw[se.side,se.side] at g2;have dt:Sf t (k:Int)=Sf s (k:Int):=by rw[e1];rfl
  have tup:t.up=s.up:=by rw[e1]
  obtain⟨q1,_⟩:=W4 s (k:Int) s2 s3;obtain⟨_,q2⟩:=W4 t (k:Int) t2 t3;rw[dt] at q2;have dl: (Sf s (k:Int)).length<=1048576:=Yn s _ s2;obtain⟨l,f,j1,j2,j3⟩:=YE (Sf s (k:Int)) w.first w.log dl hw.2.1;have sw:=Ap (n:=5) (by decide) hk;rw[Cj] at s1 t1;simp only[ET,Gq,fx,ZW,BB,CQ,AJ,if_pos c1,if_pos c1',if_pos c2,Cj,s1,t1,an,tup,g1,g2,q1,q2,h1,h2,j1,j2,sw];cases s.up with
  |false=>exact⟨b,rfl,rfl,hb⟩
  |true=>
   cases (GW x id==GW x (k:Int)) with
   |false=>exact⟨b,rfl,rfl,hb⟩
   |true=>
    cases f with
    |false=>exact⟨b,rfl,rfl,hb⟩
    |true=>
     simp only[Bg];cases hb2:b.2 with
     |false=>exact⟨(l,true),rfl,rfl,j3,nofun⟩
     |true=>
      simp only[Bg];by_cases h: (l.length:Int)>(b.1.length:Int)
      ·simp only[if_pos h];exact⟨(l,true),rfl,rfl,j3,nofun⟩
      ·simp only[if_neg h];exact⟨b,by rw[hb2],by rw[hb2],hb⟩
theorem Ts: ∃l b,Ez x id=some (l,b,())/\GH x' id=some (l,b,())/\l.length<=19:=by
 have vc:=Dl ok hv;have vc':=Dl ok' hv';obtain⟨c,d,d1,d2,d3,_,r5,_,inw,d6⟩:=Ye ok hv;have rm:c.witnesses.length<=maxLen:=by unfold maxLen;omega
 have rO:Ff id 0 4=true:=CS.2 (by omega);have hgood:=Yw ok' hv' hid;have d2':Dr x'.master=some (c,d,()):=by rw[se.master];exact d2
 unfold Ez GH;simp only[d1,d2',hgood,an,CQ,Bg];cases d with
 |false=>
  have hc:=d6 rfl;subst hc
  rw[show J8 ((id,(),(),false,(),false,0,()),(fx x,(0,0,(),(),()),()),([],[],[],()))=some (((),false,()),(),([],())) from kT (by simp only[Ep];rfl)]
  exact⟨[],false,rfl,rfl,bL _⟩
 |true=>
  obtain⟨r,q,k1,k2⟩:=LN (B1:=Ep) (B2:=G5) c.witnesses.length (λk (b:List pZ×Bool)=>((id,(),(),b.2,(),true,(k:Int),()),(fx x,(c.epoch,c.primary,(),(),()),()),(b.1,c.replicas,c.witnesses,()))) (λk b=>((id,(),(),(),b.2,(),(c.witnesses.length:Int),(k:Int),()),(fx x',(c.epoch,c.primary,(),(),()),()),(b.1,c.witnesses,c.replicas,()))) (λ_ b=>b.1.length<=19/\(b.2=false->b.1= [])) (λb=>(((),b.2,()),(),(b.1,()))) (λb=>(((),b.2,()),(),(b.1,())))
   (λb _=>by simp only[Ep,G5,BB];exact⟨if_neg (by omega),if_neg (by omega)⟩)
   (λk b hk hb=>by
     have c1: (k:Int)< (c.witnesses.length:Int):=by omega
     have c2: (0:Int)<=(k:Int)/\(k:Int)< (c.witnesses.length:Int):=by omega
     have hz:=inw _ (Cn hk);generalize hzz:c.witnesses[k] =z at hz;have hg:c.witnesses[k]? =some z:=by rw[<-hzz];exact ao hk
     obtain⟨s,s1,s2,_⟩:=Hq ok vc hz;obtain⟨e,e1⟩:=se.srv _ _ s1;obtain⟨h1,_⟩:=Lj x ok vc hid hz;obtain⟨_,h2⟩:=Lj x' ok' vc' hid hz;rw[se.side,se.side] at h2;obtain⟨r,r1,r2,r3⟩:=Ve ok ok' hv hv' se hid (c:=c) (w:=s) (w':=⟨s.up,s.intact,s.version,e,s.config,s.first,s.log,s.commit,s.learned⟩) (z:=(c.witnesses.length:Int)) (j:=(k:Int)) s2 rfl rfl b hb;simp only[fx,ZW] at r2 r3
     simp only[Ep,G5,Kq,fx,BB,CQ,Bg,AJ,if_pos c1,if_pos c2,Cj,hg,an,
      show (⟨x.now,x.servers,x.sides,(⟨x.master.configs,x.master.activated⟩:jw),x.masterUp,(⟨x.lease.epoch,x.lease.holder,x.lease.ends⟩:s7),x.places⟩:oZ)=x from rfl,hv,DC,rO,if_pos hz.1,s1,e1,h1,h2,r2,r3,Ap rm hk]
     cases s.up<;>cases (s.config.epoch==c.epoch)<;>cases (GW x id==GW x z)<;>simp only[Bg,Ar,an]<;>first |exact⟨b,rfl,rfl,hb⟩|exact⟨r,rfl,rfl,r1⟩)
   ([],false) ⟨bL _,λ_=>rfl⟩
  rw[show J8 ((id,(),(),false,(),true,0,()),(fx x,(c.epoch,c.primary,(),(),()),()),([],c.replicas,c.witnesses,()))=_ from k1,
   show OQ ((id,(),(),(),false,(),(c.witnesses.length:Int),0,()),(fx x',(c.epoch,c.primary,(),(),()),()),([],c.witnesses,c.replicas,()))=_ from k2]
  simp only[an];obtain⟨l,f⟩:=r;cases f with
  |true=>exact⟨l,true,rfl,rfl,q.1⟩
  |false=>have:=q.2 rfl;simp only at this;subst this;exact⟨[],false,rfl,rfl,bL _⟩
theorem Uu: ∃l b,EI x id=some (l,b,())/\Ho x' id=some (l,b,())/\l.length<=1048576:=by
 have vc:=Dl ok hv;have rO:Ff id 0 4=true:=CS.2 (by omega);have hgood:=Yw ok' hv' hid;obtain⟨n,n1,n2,n3⟩:=Sb ok ok' hv hv' se hid;obtain⟨l,b,l1,l2,l3⟩:=Ts ok ok' hv hv' se hid;unfold EI Ho;rw[se.master];simp only[hv,hgood,DC,rO,n1,n2,l1,l2,an,CQ,Bg];cases (x.master.activated==0) with
 |true=>exact⟨[],true,rfl,rfl,bL _⟩
 |false=>
  simp only[Ar,BB];rcases n3 with rfl|hn
  ·simp only[if_neg (show ¬ (-1:Int)≥0 by omega)];exact⟨l,b,rfl,rfl,by omega⟩
  ·obtain⟨s,s1,s2,_⟩:=Hq ok vc hn;obtain⟨e,e1⟩:=se.srv _ _ s1;simp only[if_pos (show n≥0 by omega),AJ,if_pos hn.1,s1,e1,an,(H2 _ s2.2.1).1,(H2 _ s2.2.1).2];exact⟨_,_,rfl,rfl,s2.2.1⟩
end
end
section
structure SV (m:jw) (s:o4) (k:Int):Prop where
 val:CU s k=some (true,())
 ep:s.epoch<=(m.configs.length:Int)
 lrn: ∃e,Gz s.learned=some (e,())/\e<=m.activated
 cfg:s.config=⟨0,0,[],[]⟩\/(EY m s.config.epoch=some (s.config,true,())/\s.config.epoch<=m.activated)
theorem ab2(x:oZ)(ok:Dd 1048576 x)(k:Nat)(hk:k<x.servers.length):
  (SV x.master x.servers[k] (k:Int)/\CX (((),(k:Int),()),((x.now,x.servers,x.sides,x.master.configs,x.master.activated,x.masterUp,x.lease.epoch,x.lease.holder,x.lease.ends,x.places,()),()),())=some (.inl (((),((k+1:Nat):Int),()),((x.now,x.servers,x.sides,x.master.configs,x.master.activated,x.masterUp,x.lease.epoch,x.lease.holder,x.lease.ends,x.places,()),()),())))\/
  (¬SV x.master x.servers[k] (k:Int)/\CX (((),(k:Int),()),((x.now,x.servers,x.sides,x.master.configs,x.master.activated,x.masterUp,x.lease.epoch,x.lease.holder,x.lease.ends,x.places,()),()),())=some (.inr (.inl ((false,()),(),())))):=by
 obtain⟨⟨hs1,hs2⟩,hsd,hml,hpl⟩:=ok;have hm:=CW hs1;have c1: (k:Int)< (x.servers.length:Int):=by omega
 have c2: (0:Int)<=(k:Int):=by omega
 have hsk:=hs2 _ (Cn hk);obtain⟨b,v1,v2⟩:=MU x.servers[k] (k:Int) hsk;obtain⟨n,n1,n2⟩:=IJ x.servers[k].learned (CW hsk.2.2);obtain⟨c,d,d1,d2,d3⟩:=KX x.master x.servers[k].config.epoch hml;have hcfg:=C5 hsk.1
 simp only[CX,BB,AJ,if_pos c1,if_pos c2,Cj,ao hk,an,v1,n1,Ap hm hk,CQ,
  show (⟨x.master.configs,x.master.activated⟩:jw)=x.master from rfl,d1,Jm _ hcfg,(Ew c x.servers[k].config d3).1]
 cases b with
 |false=>exact .inr ⟨(λh=>(by have h:=v1.symm.trans h.val;cases h)),rfl⟩
 |true=>
  simp only[Bg];by_cases h1:x.servers[k].epoch>(x.master.configs.length:Int)
  ·simp only[if_pos h1];exact .inr ⟨λh=>by have:=h.ep;omega,trivial⟩
  ·simp only[if_neg h1];by_cases h2:n>x.master.activated
   ·simp only[if_pos h2];refine .inr ⟨λh=> ?_,trivial⟩;obtain⟨e,e1,e2⟩:=h.lrn;rw[n1] at e1;simp only[ae,ap,and_true] at e1;omega
   ·simp only[if_neg h2];by_cases h3:x.servers[k].config=⟨0,0,[],[]⟩
    ·simp only[if_pos h3];exact .inl ⟨⟨v1,by omega,⟨n,n1,by omega⟩,.inl h3⟩,trivial⟩
    ·simp only[if_neg h3];cases d with
     |false=>
      refine .inr ⟨λh=> ?_,rfl⟩;rcases h.cfg with h| ⟨h,_⟩
      ·exact h3 h
      ·rw[d1] at h;cases h
     |true=>
      simp only[Bg];by_cases h4:c=x.servers[k].config
      ·simp only[if_pos h4];by_cases h5:x.servers[k].config.epoch>x.master.activated
       ·simp only[if_pos h5];refine .inr ⟨λh=> ?_,trivial⟩;rcases h.cfg with h| ⟨_,h⟩
        ·exact h3 h
        ·omega
       ·simp only[if_neg h5];exact .inl ⟨⟨v1,by omega,⟨n,n1,by omega⟩,.inr ⟨by rw[d1,h4],by omega⟩⟩,trivial⟩
      ·simp only[if_neg h4];refine .inr ⟨λh=> ?_,trivial⟩;rcases h.cfg with h| ⟨h,_⟩
       ·exact h3 h
       ·rw[d1] at h;simp only[ae,ap,and_true] at h;exact h4 h
theorem Vb(x:oZ)(ok:Dd 1048576 x):
  ((∀k (hk:k<x.servers.length),SV x.master x.servers[k] (k:Int))/\Fy (((),0,()),((x.now,x.servers,x.sides,x.master.configs,x.master.activated,x.masterUp,x.lease.epoch,x.lease.holder,x.lease.ends,x.places,()),()),())=some (.inr (((),()),(),())))\/
  ((∃k,∃hk:k<x.servers.length,¬SV x.master x.servers[k] (k:Int))/\Fy (((),0,()),((x.now,x.servers,x.sides,x.master.configs,x.master.activated,x.masterUp,x.lease.epoch,x.lease.holder,x.lease.ends,x.places,()),()),())=some (.inl ((false,()),(),()))):=by
 have eX:=Bo (B1:=CX) (B2:=CX) x.servers.length (λk=>(((),(k:Int),()),((x.now,x.servers,x.sides,x.master.configs,x.master.activated,x.masterUp,x.lease.epoch,x.lease.holder,x.lease.ends,x.places,()),()),())) (λk=>(((),(k:Int),()),((x.now,x.servers,x.sides,x.master.configs,x.master.activated,x.masterUp,x.lease.epoch,x.lease.holder,x.lease.ends,x.places,()),()),())) (.inr (((),()),(),())) (.inr (((),()),(),())) (λ_=> .inl ((false,()),(),())) (λ_=> .inl ((false,()),(),()))
  (λk=> ∀hk:k<x.servers.length,SV x.master x.servers[k] (k:Int)) (λk=> ∃hk:k<x.servers.length,¬SV x.master x.servers[k] (k:Int))
  (by simp only[CX];rw[BB,if_neg (by omega)])
  (by simp only[CX];rw[BB,if_neg (by omega)])
  (λk hk=>by
    rcases ab2 x ok k hk with ⟨h1,h2⟩| ⟨h1,h2⟩
    ·exact .inl ⟨h2,h2,λ_=>h1⟩
    ·exact .inr ⟨h2,h2,hk,h1⟩)
 rcases eX with ⟨k1,_,k3⟩| ⟨k,hk,k1,_,k3⟩
 ·exact .inl ⟨λk hk=>k3 k hk hk,k1⟩
 ·exact .inr ⟨⟨k,k3⟩,k1⟩
theorem Pf{x:oZ}(ok:Dd 1048576 x)(hv:CP x=some (true,())): ∀k (hk:k<x.servers.length),SV x.master x.servers[k] (k:Int):=by
 rcases Vb x ok with ⟨h,_⟩| ⟨_,h⟩
 ·exact h
 ·exfalso;obtain⟨b1,a1,_⟩:=L3 x.sides (CW ok.2.1);obtain⟨b2,m1,_⟩:=masterLog x.master (ED ok.2.2.1);obtain⟨b3,l1,_⟩:=NW x.lease;obtain⟨b4,p1,_⟩:=Iy x.places (CW ok.2.2.2);unfold CP at hv;simp only[DC,a1,m1,l1,p1,an,h,Cw] at hv;revert hv;cases Ff x.now 0 999<;>cases ((x.servers.length:Int)==5)<;>cases b1<;>cases b2<;>cases Ff x.masterUp 0 3<;>cases b3<;>cases b4<;>cases decide (x.lease.epoch>x.master.activated)<;>intro hv<;>cases hv
theorem abY{x:oZ}(ok:Dd 1048576 x)(hv:CP x=some (true,()))(S:List o4)(hl:S.length=x.servers.length)(hok: ∀s∈S,Dz 1048576 s)(hS: ∀k (hk:k<S.length),SV x.master S[k] (k:Int)):
  Dd 1048576 ⟨x.now,S,x.sides,x.master,x.masterUp,x.lease,x.places⟩/\CP ⟨x.now,S,x.sides,x.master,x.masterUp,x.lease,x.places⟩=some (true,()):=by
 have ok2:Dd 1048576 ⟨x.now,S,x.sides,x.master,x.masterUp,x.lease,x.places⟩:=⟨⟨by show S.length<=_;rw[hl];exact ok.1.1,hok⟩,ok.2.1,ok.2.2.1,ok.2.2.2⟩
 refine⟨ok2,?_⟩;rcases Vb x ok with ⟨_,h1⟩| ⟨⟨k,hk,h0⟩,_⟩
 ·rcases Vb ⟨x.now,S,x.sides,x.master,x.masterUp,x.lease,x.places⟩ ok2 with ⟨_,h2⟩| ⟨⟨k,hk,h0⟩,_⟩
  ·have hv':=hv;unfold CP at hv' ⊢;rw[h1] at hv';rw[h2];simp only[hl];exact hv'
  ·exact absurd (hS k hk) h0
 ·exact absurd (Pf ok hv k hk) h0
theorem SV.old{m:jw}{s:o4}{k:Int}(h:SV m s k)(hm:KI 1048576 m)(hv:C7 m=some (true,())):s.config.epoch<=(m.configs.length:Int):=by
 obtain⟨_,f2,f3⟩:=LS (ED hm) hv;rcases h.cfg with h| ⟨_,h⟩
 ·rw[h];show (0:Int)<=_;omega
 ·omega
end
section
theorem Uh{α:Type}{w:α->Int}: ∀ {a b:List α},a.length=b.length->(∀ (j:Nat) (ha:j<a.length) (hb:j<b.length),w a[j] =w b[j])->K9 w a=K9 w b
 | [],[],_,_=>rfl
 |x::a,y::b,h,h2=>by
  have h0:=h2 0 (by simp) (by simp);simp only[List.getElem_cons_zero] at h0
  have ih:=Uh (w:=w) (a:=a) (b:=b) (by simpa using h) λj ha hb=>by have:=h2 (j+1) (by simpa using ha) (by simpa using hb);simpa using this
  unfold K9;rw[h0,ih]
abbrev Lu(s:o4)(e:Int):o4:=⟨s.up,s.intact,s.version,e,s.config,s.first,s.log,s.commit,s.learned⟩
theorem acp{s:o4}{id:Int}(h:Dz 1048576 s)(hv:CU s id=some (true,())):s.config.epoch<=s.epoch:=by
 have hc:=C5 h.1;obtain⟨_,_,_,_,_,_,_,e0,_⟩:=Kg h hv;by_cases hz:s.config=⟨0,0,[],[]⟩
 ·rw[hz];exact e0
 ·refine Int.not_lt.1 λhlt=> ?_;unfold CU at hv;simp only[DC,an,CQ,Jm s.config hc,BB,if_neg hz,if_pos hlt] at hv;cases h1:Ff s.version 1 2 with
  |false=>rw[h1] at hv;cases hv
  |true=>
  cases h2:Ff s.epoch 0 20 with
  |false=>rw[h1,h2] at hv;cases hv
  |true=>
  rcases isLog s.log (CW h.2.1) with ⟨a1,a2,a3⟩| ⟨a1,a2⟩
  case inr=>simp only[h1,h2,a1,an,Bg,Ar] at hv;cases hv
  rcases isLog s.learned (CW h.2.2) with ⟨b1,b2,b3⟩| ⟨b1,b2⟩
  case inr=>simp only[h1,h2,a1,b1,an,Bg,Ar] at hv;cases hv
  simp only[h1,h2,a1,b1,an,Bg] at hv;cases h3:Ff s.first 0 16<;>rw[h3] at hv
  ·cases hv
  ·cases h4:Ff (IntKind.wrap .i64 (s.first+(s.log.length:Int))) 0 16<;>rw[h4] at hv
   ·cases hv
   ·cases h5:Ff s.commit 0 (IntKind.wrap .i64 (s.first+(s.log.length:Int)))<;>rw[h5] at hv
    ·cases hv
    ·cases h6:s.intact<;>rw[h6] at hv<;>cases hv
theorem aax{s:o4}{id:Int}(h:Dz 1048576 s)(hv:CU s id=some (true,())){e:Int}(h1:s.epoch<=e)(h2:e<=20):CU (Lu s e) id=some (true,()):=by have hle:=acp h hv;obtain⟨_,_,_,_,_,_,_,e0,e20⟩:=Kg h hv;have w1:Ff s.epoch 0 20=true:=CS.2 (by omega);have w2:Ff e 0 20=true:=CS.2 (by omega);unfold CU at hv ⊢;simp only[DC,an,BB,w1,w2,if_neg (show ¬s.epoch<s.config.epoch by omega),if_neg (show ¬e<s.config.epoch by omega)] at hv ⊢;exact hv
theorem acI{m:jw}{s:o4}{k:Int}(ok:Dz 1048576 s)(h:SV m s k){e:Int}(h1:s.epoch<=e)(h2:e<=(m.configs.length:Int))(h3:m.configs.length<=20):SV m (Lu s e) k:=
 ⟨aax ok h.val h1 (by omega),h2,h.lrn,h.cfg⟩
theorem WV(s:o4)(e:Int)(h:Dz 1048576 s): ∃ep b,FE s e=some (Lu s ep,b,())/\JO s e=some (Lu s ep,b,())/\(ep=s.epoch\/(ep=e/\s.epoch<=e)):=by
 unfold FE JO;simp only[(MJ s h).1,(MJ s h).2,DC,Hk,an,CQ,BB];cases Ff e 1 20 with
 |false=>exact⟨s.epoch,false,rfl,rfl,.inl rfl⟩
 |true=>
  simp only[Bg];by_cases h1:e<=s.epoch
  ·by_cases h2:s.epoch<0
   ·simp only[if_pos h1,if_pos h2];exact⟨s.epoch,false,rfl,rfl,.inl rfl⟩
   ·simp only[if_pos h1,if_neg h2];exact⟨s.epoch,false,rfl,rfl,.inl rfl⟩
  ·by_cases h2:s.epoch<0
   ·simp only[if_neg h1,if_pos h2];exact⟨s.epoch,false,rfl,rfl,.inl rfl⟩
   ·simp only[if_neg h1,if_neg h2];exact⟨e,true,rfl,rfl,.inr ⟨rfl,by omega⟩⟩
abbrev Hn(x:oZ)(S:List o4):oZ:=⟨x.now,S,x.sides,x.master,x.masterUp,x.lease,x.places⟩
theorem RB(x:oZ)(ok:Dd 1048576 x)(hv:CP x=some (true,())){id e:Int}(hid:0<=id/\id<5): ∃S,Eu x id e=some (Hn x S,())/\FA x id e=some (Hn x S,())/\Dd 1048576 (Hn x S)/\CP (Hn x S)=some (true,())/\Yd x (Hn x S)/\K9 NN S=K9 NN x.servers:=by
 have vc:=Dl ok hv;have hml:=Up ok.2.2.1 vc.ml;obtain⟨v,v1,v2⟩:=Dg x ok;rw[hv] at v1;simp only[ae,ap,and_true] at v1;subst v1;obtain⟨c,d,d1,d2,d3,_⟩:=Ye ok hv;obtain⟨m,m1,m2,m3,m4,m5,_⟩:=LZ c d3;have mm:m.length<=maxLen:=by unfold maxLen;omega
 have same:Hn x x.servers=x:=rfl;unfold Eu FA;simp only[(D4 x ok).1,(D4 x ok).2,d1,d2,hv,v2,DC,Hk,an,CQ,Bg];cases d with
 |false=>exact⟨x.servers,rfl,rfl,ok,hv,Yd.refl x,rfl⟩
 |true=>
  simp only[Bg];cases hw:Ff e 1 (x.master.configs.length:Int) with
  |false=>exact⟨x.servers,rfl,rfl,ok,hv,Yd.refl x,rfl⟩
  |true=>
   have hw:=CS.1 hw
   obtain⟨S,q,k1,k2⟩:=LN (B1:=Et) (B2:=ES) m.length
    (λk (S:List o4)=>((id,e,(),(),(),(),(k:Int),()),(fx x,(0,(),(),(),0,0,0,0,0,(),()),(x.now,(),(),(),x.master.activated,x.masterUp,x.lease.epoch,x.lease.holder,x.lease.ends,(),()),()),(m,S,x.sides,x.master.configs,x.places,())))
    (λk S=>((id,e,(),(),(),(),(m.length:Int),(k:Int),()),(fx x,(0,(),(),(),0,0,0,0,0,(),()),(x.now,(),(),(),x.master.activated,x.masterUp,x.lease.epoch,x.lease.holder,x.lease.ends,(),()),()),(m,S,x.sides,x.master.configs,x.places,())))
    (λk S=>S.length=x.servers.length/\ ∀ (j:Nat) (s:o4),x.servers[j]? =some s-> ∃ep,S[j]? =some (Lu s ep)/\(ep=s.epoch\/(ep=e/\s.epoch<=e))/\((∀y∈m.drop k,y≠(j:Int))\/ep=s.epoch))
    (λS=>(((),(),()),((0,(),(),(),0,0,0,0,0,(),()),(x.now,(),(),(),x.master.activated,x.masterUp,x.lease.epoch,x.lease.holder,x.lease.ends,(),()),()),(S,x.sides,x.master.configs,x.places,())))
    (λS=>(((),(),()),((0,(),(),(),0,0,0,0,0,(),()),(x.now,(),(),(),x.master.activated,x.masterUp,x.lease.epoch,x.lease.holder,x.lease.ends,(),()),()),(S,x.sides,x.master.configs,x.places,())))
    (λS _=>by simp only[Et,ES,BB];exact⟨if_neg (by omega),if_neg (by omega)⟩)
    (λk S hk hS=>by
      have c1: (k:Int)< (m.length:Int):=by omega
      have c2: (0:Int)<=(k:Int)/\(k:Int)< (m.length:Int):=by omega
      have hz:=m4 _ (Cn hk);have hdr:m.drop k=m[k]::m.drop (k+1):=b8 hk
      have hnot: ∀y∈m.drop (k+1),y≠m[k] :=by have h2:SS (m.drop k):=List.Pairwise.sublist (List.drop_sublist k m) m5;rw[hdr] at h2;intro y hy;have:=(CC.1 h2).1 y hy;omega
      generalize hzz:m[k] =z at hz hdr hnot;have hg:m[k]? =some z:=by rw[<-hzz];exact ao hk
      obtain⟨s,s1,s2,_⟩:=Hq ok vc hz;obtain⟨h1,h2⟩:=Lj x ok vc hid hz
      have hSz:S[z.toNat]? =some s:=by
       obtain⟨ep,p1,_,p3⟩:=hS.2 _ s s1;rcases p3 with p3|rfl
       ·exact absurd (by omega:z=(z.toNat:Int)) (p3 z (by rw[hdr];exact aH))
       ·exact p1
      have hlt:z.toNat<S.length:=BI hSz;have c3:0<=z/\z< (S.length:Int):=by omega
      obtain⟨ep,b,q1,q2,q3⟩:=WV s e s2
      have hkeep:S.length=x.servers.length/\ ∀ (j:Nat) (s:o4),x.servers[j]? =some s-> ∃ep,S[j]? =some (Lu s ep)/\(ep=s.epoch\/(ep=e/\s.epoch<=e))/\((∀y∈m.drop (k+1),y≠(j:Int))\/ep=s.epoch):=by refine⟨hS.1,λj t ht=> ?_⟩;obtain⟨ep,p1,p2,p3⟩:=hS.2 j t ht;exact⟨ep,p1,p2,p3.imp (λh y hy=>h y (by rw[hdr];exact aE _ hy)) (λh=>h)⟩
      simp only[Et,ES,fx,BB,AJ,if_pos c1,if_pos c2,Cj,hg,an,if_pos hz.1,if_pos c3,s1,hSz,h1,h2,aM,aw,if_true,ct,Cq,q1,q2,Ap mm hk];cases s.up with
      |false=>exact⟨S,rfl,rfl,hkeep⟩
      |true=>
       cases (GW x id==GW x z) with
       |false=>exact⟨S,rfl,rfl,hkeep⟩
       |true=>
        refine⟨S.set z.toNat (Lu s ep),rfl,rfl,by simp[hS.1],λj t ht=> ?_⟩;by_cases hj:j=z.toNat
        ·subst hj;rw[s1] at ht;have ht:=Option.some.inj ht;subst ht;refine⟨ep,by rw[CM hlt],q3,.inl λy hy h=>hnot y hy (by omega)⟩
        ·obtain⟨ep',p1,p2,p3⟩:=hkeep.2 j t ht;exact⟨ep',by rw[CD (λh=>hj h.symm)];exact p1,p2,p3⟩)
    x.servers ⟨rfl,λj s h=>⟨s.epoch,h,.inl rfl,.inr rfl⟩⟩
   simp only[Bg,m1,m2,an]
   rw[show Lo ((id,e,(),(),(),(),0,()),(fx x,(0,(),(),(),0,0,0,0,0,(),()),(x.now,(),(),(),x.master.activated,x.masterUp,x.lease.epoch,x.lease.holder,x.lease.ends,(),()),()),(m,x.servers,x.sides,x.master.configs,x.places,()))=_ from k1,
    show Ln ((id,e,(),(),(),(),(m.length:Int),0,()),(fx x,(0,(),(),(),0,0,0,0,0,(),()),(x.now,(),(),(),x.master.activated,x.masterUp,x.lease.epoch,x.lease.holder,x.lease.ends,(),()),()),(m,x.servers,x.sides,x.master.configs,x.places,()))=_ from k2]
   have at_: ∀j (hj:j<S.length),∃s,x.servers[j]? =some s/\ ∃ep,S[j] =Lu s ep/\(ep=s.epoch\/(ep=e/\s.epoch<=e)):=by
    intro j hj;have hj':j<x.servers.length:=by rw[<-q.1];exact hj
    obtain⟨ep,p1,p2,_⟩:=q.2 j _ (ao hj');rw[ao hj] at p1;exact⟨_,ao hj',ep,Option.some.inj p1,p2⟩
   have sv:=Pf ok hv
   have fin:=abY ok hv S q.1 (λs hs=>by
     obtain⟨j,hj,rfl⟩:=aP hs;obtain⟨t,t1,ep,t2,_⟩:=at_ j hj;rw[t2];exact ok.1.2 t (ax t1))
    (λj hj=>by obtain⟨t,t1,ep,t2,t3⟩:=at_ j hj;have hj':j<x.servers.length:=BI t1;have svj:=sv j hj';rw[ao hj'] at t1;rw[Option.some.inj t1] at svj;have okt:=ok.1.2 x.servers[j] (Cn hj');rw[Option.some.inj t1] at okt;rw[t2];have:=svj.ep;exact acI okt svj (by omega) (by omega) hml)
   refine⟨S,rfl,rfl,fin.1,fin.2,⟨rfl,rfl,λj s h=>by obtain⟨ep,p1,_⟩:=q.2 j s h;exact⟨ep,p1⟩⟩,Uh q.1 λj ha hb=> ?_⟩
   obtain⟨t,t1,ep,t2,_⟩:=at_ j ha;rw[ao hb] at t1;rw[t2,<-Option.some.inj t1];rfl
end
section
abbrev z0:Int×Unit×Unit×Unit×Int×Int×Int×Int×Int×Unit×Unit:=(0,(),(),(),0,0,0,0,0,(),())
abbrev fy(x:oZ):Int×Unit×Unit×Unit×Int×Int×Int×Int×Int×Unit×Unit:=(x.now,(),(),(),x.master.activated,x.masterUp,x.lease.epoch,x.lease.holder,x.lease.ends,(),())
theorem Wh(x:oZ)(S:List o4)(hS:S.length=5/\ ∀s∈S,Dz 1048576 s)(n:mD)(hn:D5 1048576 n)(htn:Qd n<=20)(l:List pZ)(hl:l.length<=1048576)(m:List Int)(m3:m.length<=10)(m4: ∀y∈m,0<=y/\y<5): ∃T,((T.length=5/\ ∀s∈T,Dz 1048576 s)/\K9 NN T<=K9 NN S+(m.length:Int)*1048600)/\
  KV (((),(),(),(),(),(),0,()),(fx x,z0,fy x,(n.epoch,n.primary,(),(),()),()),(l,m,S,x.sides,x.master.configs,x.places,n.replicas,n.witnesses,()))=some (((),(),(),(),()),(fx x,z0,fy x,(n.epoch,n.primary,(),(),()),()),(T,x.sides,x.master.configs,x.places,n.replicas,n.witnesses,()))/\
  Pz (((),(),(),(),(),(m.length:Int),0,()),(z0,(n.epoch,n.primary,(),(),()),fy x,()),(l,m,n.replicas,n.witnesses,S,x.sides,x.master.configs,x.places,()))=some (((),(),(),()),(z0,(n.epoch,n.primary,(),(),()),fy x,()),(n.replicas,n.witnesses,T,x.sides,x.master.configs,x.places,())):=by
 have mm:m.length<=maxLen:=by unfold maxLen;omega
 refine LN (B1:=F2) (B2:=HQ) m.length (λk (S:List o4)=>(((),(),(),(),(),(),(k:Int),()),(fx x,z0,fy x,(n.epoch,n.primary,(),(),()),()),(l,m,S,x.sides,x.master.configs,x.places,n.replicas,n.witnesses,()))) (λk S=>(((),(),(),(),(),(m.length:Int),(k:Int),()),(z0,(n.epoch,n.primary,(),(),()),fy x,()),(l,m,n.replicas,n.witnesses,S,x.sides,x.master.configs,x.places,()))) (λk S'=>(S'.length=5/\ ∀s∈S',Dz 1048576 s)/\K9 NN S'<=K9 NN S+(k:Int)*1048600)
  (λT=>(((),(),(),(),()),(fx x,z0,fy x,(n.epoch,n.primary,(),(),()),()),(T,x.sides,x.master.configs,x.places,n.replicas,n.witnesses,()))) (λT=>(((),(),(),()),(z0,(n.epoch,n.primary,(),(),()),fy x,()),(n.replicas,n.witnesses,T,x.sides,x.master.configs,x.places,())))
  (λS _=> ?_) (λk S' hk hS'=> ?_) S ⟨hS,by omega⟩
 ·simp only[F2,HQ,BB];exact⟨if_neg (by omega),if_neg (by omega)⟩
 ·have c1: (k:Int)< (m.length:Int):=by omega
  have c2: (0:Int)<=(k:Int)/\(k:Int)< (m.length:Int):=by omega
  have hz:=m4 _ (Cn hk);generalize hzz:m[k] =z at hz;have hg:m[k]? =some z:=by rw[<-hzz];exact ao hk
  obtain⟨hS',hsum⟩:=hS';have hlt:z.toNat<S'.length:=by rw[hS'.1];omega
  have c3:0<=z/\z< (S'.length:Int):=by rw[hS'.1];omega
  have s1:S'[z.toNat]? =some S'[z.toNat] :=ao hlt;have s2:=hS'.2 _ (Cn hlt);generalize S'[z.toNat] =s at s1 s2;obtain⟨r,b,r1,r2,r3,r4,_⟩:=Tv s n z l s2 hn hl;have zl:H6 l=(l.length:Int):=rfl;simp only[F2,HQ,fx,fy,z0,BB,AJ,if_pos c1,if_pos c2,Cj,hg,an,if_pos c3,s1,aM,aw,if_true,ct,Cq,r1,r2,Ap mm hk];refine⟨S'.set z.toNat r,rfl,rfl,⟨by simp[hS'.1],λt ht=> ?_⟩,by rw[Yy s1];omega⟩;rcases cL ht with h|h
  ·exact hS'.2 t h
  ·rw[h];exact r3
theorem ZK(x:oZ)(ok:Dd 1048576 x)(vc:VC x)(S:List o4)(ok':Dd 1048576 (Hn x S))(vc':VC (Hn x S))(se:Yd x (Hn x S))(n:mD)(l:List pZ)(m:List Int)(m3:m.length<=10)(m4: ∀y∈m,0<=y/\y<5):
  (MZ (((),(),(),(),(),(),0,()),(fx x,z0,fy x,(n.epoch,n.primary,(),(),()),()),(l,m,S,x.sides,x.master.configs,x.places,n.replicas,n.witnesses,()))=some (.inr (((),(),(),(),(),(),(),()),(fx x,z0,fy x,(n.epoch,n.primary,(),(),()),()),(l,m,S,x.sides,x.master.configs,x.places,n.replicas,n.witnesses,())))/\Dv m (Hn x S)=some (false,()))\/
  (MZ (((),(),(),(),(),(),0,()),(fx x,z0,fy x,(n.epoch,n.primary,(),(),()),()),(l,m,S,x.sides,x.master.configs,x.places,n.replicas,n.witnesses,()))=some (.inl (((),(),10,(),(),(),(),()),(fx x,fy x,fy x,(n.epoch,n.primary,(),(),()),()),(l,m,S,x.sides,x.master.configs,x.places,n.replicas,n.witnesses,())))/\Dv m (Hn x S)=some (true,())):=by
 have mm:m.length<=maxLen:=by unfold maxLen;omega
 have hsl:=GO (CW ok.2.1) vc.sides;have hsl':=GO (CW ok'.2.1) vc'.sides
 have eX:=Bo (B1:=F1) (B2:=DA) m.length (λk=>(((),(),(),(),(),(),(k:Int),()),(fx x,z0,fy x,(n.epoch,n.primary,(),(),()),()),(l,m,S,x.sides,x.master.configs,x.places,n.replicas,n.witnesses,()))) (λk=>((m,(Hn x S,()),(m.length:Int),(k:Int),()),(),()))
  (.inr (((),(),(),(),(),(),(),()),(fx x,z0,fy x,(n.epoch,n.primary,(),(),()),()),(l,m,S,x.sides,x.master.configs,x.places,n.replicas,n.witnesses,()))) (.inr (((),()),(),()))
  (λ_=> .inl (((),(),10,(),(),(),(),()),(fx x,fy x,fy x,(n.epoch,n.primary,(),(),()),()),(l,m,S,x.sides,x.master.configs,x.places,n.replicas,n.witnesses,()))) (λk=> .inl (((k:Int),()),(),()))
  (λ_=>True) (λ_=>True)
  (by simp only[F1];rw[BB,if_neg (by omega)])
  (by simp only[DA];rw[BB,if_neg (by omega)])
  (λk hk=>by
    have c1: (k:Int)< (m.length:Int):=by omega
    have c2: (0:Int)<=(k:Int)/\(k:Int)< (m.length:Int):=by omega
    have hz:=m4 _ (Cn hk);generalize hzz:m[k] =z at hz;have hg:m[k]? =some z:=by rw[<-hzz];exact ao hk
    obtain⟨s,s1,s2,_⟩:=Hq ok vc hz;obtain⟨e,e1⟩:=se.srv _ _ s1;have hside:z.toNat<x.sides.length:=by omega
    have d1:x.sides[z.toNat]? =some x.sides[z.toNat] :=ao hside
    have hu:IV z (Hn x S)=some (!(s.up&&(x.sides[z.toNat] ==0)),()):=by have e1':S[z.toNat]? =some (Lu s e):=e1;unfold IV Ic;simp only[AJ,if_pos hz.1,e1',an,d1];cases s.up<;>rfl
    simp only[F1,DA,fx,fy,z0,BB,CQ,AJ,if_pos c1,if_pos c2,if_pos c2.1,Cj,hg,an,if_pos hz.1,s1,d1,hu,Ap mm hk];cases s.up with
    |false=>exact .inr ⟨rfl,rfl,trivial⟩
    |true=>
     cases (x.sides[z.toNat] ==0) with
     |false=>exact .inr ⟨rfl,rfl,trivial⟩
     |true=>exact .inl ⟨rfl,rfl,trivial⟩)
 unfold Dv EJ;rcases eX with ⟨k1,k2,_⟩| ⟨k,_,k1,k2,_⟩
 ·refine .inl ⟨k1,?_⟩;rw[show Fp ((m,(Hn x S,()),(m.length:Int),0,()),(),())=_ from k2];rfl
 ·refine .inr ⟨k1,?_⟩;rw[show Fp ((m,(Hn x S,()),(m.length:Int),0,()),(),())=_ from k2];simp only[an,Cw];rw[decide_eq_true (by omega)]
theorem WN(x:oZ)(ok:Dd 1048576 x)(vc:VC x)(S:List o4)(se:Yd x (Hn x S))(n:mD)(l:List pZ)(m:List Int)(m3:m.length<=10)(m4: ∀y∈m,0<=y/\y<5){b:Bool}(hb:Dy l=some (b,())):
  (Jb (((),(),(),(),(),(),0,()),(fx x,z0,fy x,(n.epoch,n.primary,(),(),()),()),(l,m,S,x.sides,x.master.configs,x.places,n.replicas,n.witnesses,()))=some (.inr (((),(),(),(),(),(),(),()),(fx x,z0,fy x,(n.epoch,n.primary,(),(),()),()),(l,m,S,x.sides,x.master.configs,x.places,n.replicas,n.witnesses,())))/\(b=false\/Dw m (Hn x S)=some (false,())))\/
  (Jb (((),(),(),(),(),(),0,()),(fx x,z0,fy x,(n.epoch,n.primary,(),(),()),()),(l,m,S,x.sides,x.master.configs,x.places,n.replicas,n.witnesses,()))=some (.inl (((),(),6,(),(),(),(),()),(fx x,fy x,fy x,(n.epoch,n.primary,(),(),()),()),(l,m,S,x.sides,x.master.configs,x.places,n.replicas,n.witnesses,())))/\b=true/\Dw m (Hn x S)=some (true,())):=by
 have mm:m.length<=maxLen:=by unfold maxLen;omega
 have common: ∀k,(hk:k<m.length)-> ∃s:o4,EN (((),(),(),(),(),(),(k:Int),()),(fx x,z0,fy x,(n.epoch,n.primary,(),(),()),()),(l,m,S,x.sides,x.master.configs,x.places,n.replicas,n.witnesses,()))=(if (s.version==1&&b)=true then some (.inr (.inl (((),(),6,(),(),(),(),()),(fx x,fy x,fy x,(n.epoch,n.primary,(),(),()),()),(l,m,S,x.sides,x.master.configs,x.places,n.replicas,n.witnesses,())))) else some (.inl (((),(),(),(),(),(),((k+1:Nat):Int),()),(fx x,z0,fy x,(n.epoch,n.primary,(),(),()),()),(l,m,S,x.sides,x.master.configs,x.places,n.replicas,n.witnesses,()))))/\
   Dj ((m,(Hn x S,()),(m.length:Int),(k:Int),()),(),())=(if (s.version==1)=true then some (.inr (.inl (((k:Int),()),(),()))) else some (.inl ((m,(Hn x S,()),(m.length:Int),((k+1:Nat):Int),()),(),()))):=by
  intro k hk;have c1: (k:Int)< (m.length:Int):=by omega
  have c2: (0:Int)<=(k:Int)/\(k:Int)< (m.length:Int):=by omega
  have hz:=m4 _ (Cn hk);generalize hzz:m[k] =z at hz;have hg:m[k]? =some z:=by rw[<-hzz];exact ao hk
  obtain⟨s,s1,s2,_⟩:=Hq ok vc hz;obtain⟨e,e1⟩:=se.srv _ _ s1;have e1':S[z.toNat]? =some (Lu s e):=e1;refine⟨s,?_,?_⟩
  ·simp only[EN,fx,fy,z0,BB,AJ,if_pos c1,if_pos c2,Cj,hg,an,if_pos hz.1,s1,hb,Ap mm hk];cases (s.version==1)<;>cases b<;>rfl
  ·simp only[Dj,KQ,BB,AJ,if_pos c1,if_pos c2.1,Cj,hg,an,if_pos hz.1,e1',Ap mm hk];cases (s.version==1)<;>rfl
 cases b with
 |false=>
  have eX:=AN (B:=EN) m (λk (_:Unit)=>(((),(),(),(),(),(),(k:Int),()),(fx x,z0,fy x,(n.epoch,n.primary,(),(),()),()),(l,m,S,x.sides,x.master.configs,x.places,n.replicas,n.witnesses,()))) (λ_ _=>True) (λ_ _ _=> .inr (((),(),(),(),(),(),(),()),(fx x,z0,fy x,(n.epoch,n.primary,(),(),()),()),(l,m,S,x.sides,x.master.configs,x.places,n.replicas,n.witnesses,())))
   (λ_ _=>by simp only[EN];rw[BB,if_neg (by omega)])
   (λk _ z hz _=>by obtain⟨s,h1,_⟩:=common k (BI hz);exact .inl ⟨(),by rw[h1];simp,trivial,rfl⟩)
   0 () (bL _) trivial
  exact .inl ⟨eX,.inl rfl⟩
 |true=>
  have eX:=Bo (B1:=EN) (B2:=Dj) m.length (λk=>(((),(),(),(),(),(),(k:Int),()),(fx x,z0,fy x,(n.epoch,n.primary,(),(),()),()),(l,m,S,x.sides,x.master.configs,x.places,n.replicas,n.witnesses,()))) (λk=>((m,(Hn x S,()),(m.length:Int),(k:Int),()),(),()))
   (.inr (((),(),(),(),(),(),(),()),(fx x,z0,fy x,(n.epoch,n.primary,(),(),()),()),(l,m,S,x.sides,x.master.configs,x.places,n.replicas,n.witnesses,()))) (.inr (((),()),(),()))
   (λ_=> .inl (((),(),6,(),(),(),(),()),(fx x,fy x,fy x,(n.epoch,n.primary,(),(),()),()),(l,m,S,x.sides,x.master.configs,x.places,n.replicas,n.witnesses,()))) (λk=> .inl (((k:Int),()),(),()))
   (λ_=>True) (λ_=>True)
   (by simp only[EN];rw[BB,if_neg (by omega)])
   (by simp only[Dj];rw[BB,if_neg (by omega)])
   (λk hk=>by
     obtain⟨s,h1,h2⟩:=common k hk;rw[h1,h2];cases (s.version==1) with
     |true=>exact .inr ⟨rfl,rfl,trivial⟩
     |false=>exact .inl ⟨rfl,rfl,trivial⟩)
  unfold Dw EK;rcases eX with ⟨k1,k2,_⟩| ⟨k,_,k1,k2,_⟩
  ·refine .inl ⟨k1,.inr ?_⟩;rw[show Fq ((m,(Hn x S,()),(m.length:Int),0,()),(),())=_ from k2];rfl
  ·refine .inr ⟨k1,rfl,?_⟩;rw[show Fq ((m,(Hn x S,()),(m.length:Int),0,()),(),())=_ from k2];simp only[an,Cw];rw[decide_eq_true (by omega)]
end
section
theorem Jf.filter{l:List Int}(h:Jf l)(p:Int->Bool):Jf (l.filter p):=by refine NQ (h.pair.filter p) λy hy=> ?_;obtain⟨k,hk,rfl⟩:=aP (CI.1 hy).1;have:=(h k hk).1;omega
theorem Na:Jf [0,1,2,3,4] :=by refine NQ (by simp[SS]) λy hy=> ?_;simp at hy;omega
theorem Ry(l:List tc)(hl:l.length<=maxLen)(hv:Dt l=some (true,()))(m a:List Int)(hm:Jf m)(ha:Jf a)(want:Int): ∃r,GV l m a want=some (r,())/\IW l m a want=some (r,())/\Jf r:=by
 have al:=ha.len;have am:a.length<=maxLen:=by unfold maxLen;omega
 obtain⟨m1,m2⟩:=LB hm;obtain⟨a1,a2⟩:=LB ha
 have hp2:FI l=some (true,()):=by obtain⟨b,p1,p2⟩:=Iy l hl;rw[hv] at p1;simp only[ae,ap,and_true] at p1;subst p1;exact p2
 unfold GV IW;simp only[Pp m a hm am,W6 m a hm am,Pe _ a Na am,Nl _ a Na am,PR,hv,hp2,m1,m2,a1,a2,DC,Hk,an,CQ,Bg];cases Ff want 0 5 with
 |false=>exact⟨[],rfl,rfl,λk hk=>by simp at hk⟩
 |true=>
  have dl:=(Na.filter λx=> !decide (x∈a)).len;generalize ([0,1,2,3,4]:List Int).filter (λx=> !decide (x∈a))=dead at dl;have dm:dead.length<=maxLen:=by unfold maxLen;omega
  have go: ∀ (d:Nat) (out:List Int),Jf out->(want-out.length).toNat<=d-> ∃r,(HO ((l,want,(),(),()),(),(out,dead,()))=some (.inl (((),(),()),(),(r,())))\/HO ((l,want,(),(),()),(),(out,dead,()))=some (.inr (((),(),()),(),(r,()))))/\Jn ((l,want,(),(),()),(),(out,dead,()))=some (((),()),(),(r,()))/\Jf r:=by
   intro d
   induction d with
   |zero=>
    intro out ho hd;have c: ¬ (out.length:Int)<want:=by omega
    refine⟨out,.inr (kT ?_),kT ?_,ho⟩
    ·simp only[Fg];rw[BB,if_neg c]
    ·simp only[FS];rw[BB,if_neg c]
   |succ d ih=>
    intro out ho hd;have ol:=ho.len;by_cases c: (out.length:Int)<want
    ·obtain⟨n,n1,n2,n3⟩:=Q0 l hl hv out dead ho dm;rcases n3 with rfl| ⟨n3,n4,n5⟩
     ·refine⟨out,.inl (kT ?_),kT ?_,ho⟩
      ·simp only[Fg,BB,if_pos c,n1,an];rw[if_pos (by omega)]
      ·simp only[FS,BB,if_pos c,n2,an];rw[if_pos (by omega)]
     ·obtain⟨r,r1,r2,r3,r4,r5⟩:=Zt out n (by omega) ho.pair;obtain⟨s,_,s2,s3,s4,_⟩:=abz out [n] (by simp;omega)
      have hrs:r=s:=r2.uniq s3 λy=>by rw[r3,s4,aI];exact Or.comm
      subst hrs
      have hr:Jf r:=NQ r2 λy hy=>by
       rcases (r3 y).1 hy with rfl|h
       ·omega
       ·obtain⟨k,hk,rfl⟩:=aP h;have:=(ho k hk).1;omega
      have hlen:r.length=out.length+1:=r5 n5;obtain⟨t,t1,t2,t3⟩:=ih r hr (by omega)
      have e1:HO ((l,want,(),(),()),(),(out,dead,()))=HO ((l,want,(),(),()),(),(r,dead,())):=by refine qR ?_;simp only[Fg,BB,if_pos c,n1,an,if_neg (show ¬n<0 by omega),r1]
      have e2:Jn ((l,want,(),(),()),(),(out,dead,()))=Jn ((l,want,(),(),()),(),(r,dead,())):=by refine qR ?_;simp only[FS,BB,if_pos c,n2,an,if_neg (show ¬n<0 by omega),s2]
      rw[e1,e2];exact⟨t,t1,t2,t3⟩
    ·refine⟨out,.inr (kT ?_),kT ?_,ho⟩
     ·simp only[Fg];rw[BB,if_neg c]
     ·simp only[FS];rw[BB,if_neg c]
  simp only[Bg];obtain⟨r,r1,r2,r3⟩:=go _ _ (hm.filter λx=>decide (x∈a)) (aw _);rw[r2];rcases r1 with r1|r1<;>rw[r1]<;>exact⟨r,rfl,rfl,r3⟩
def HY(x:oZ)(e id:Int):Bool:=Di x id.toNat&&(match x.servers[id.toNat]? with |some s=>s.config.epoch==e|none=>false)
theorem S4(x:oZ)(ok:Dd 1048576 x)(want:Int): ∃n b,Fb x want 0=some (n,b,())/\GG x want 0=some (n,b,())/\D5 1048576 n/\n.replicas.length<=5/\n.witnesses= [] :=by
 obtain⟨v,v1,v2⟩:=Dg x ok;unfold Fb GG;simp only[v1,v2,an,CQ,DC,Hk,show Ff 0 0 1=true by decide,Bg];have zero:D5 1048576 ⟨0,0,[],[]⟩:=⟨bL _,bL _⟩
 cases v with
 |false=>exact⟨_,_,rfl,rfl,zero,bL _,rfl⟩
 |true=>
  simp only[Bg];cases Ff want 1 3 with
  |false=>exact⟨_,_,rfl,rfl,zero,bL _,rfl⟩
  |true=>
   have vc:=Dl ok v1;have hml:=Up ok.2.2.1 vc.ml;simp only[Bg,Fm,BB];by_cases h20: (x.master.configs.length:Int)=20
   ·simp only[if_pos h20,if_pos (show (x.master.configs.length:Int)≥20 by omega)];exact⟨_,_,rfl,rfl,zero,bL _,rfl⟩
   ·obtain⟨c,d,d1,d2,d3,d4,d5,d6⟩:=Jg x ok v1;have hsl:=GO (CW ok.2.1) vc.sides
    have asc:Jf c.replicas/\(d=true->1<=c.epoch)/\(d=true->c≠⟨0,0,[],[]⟩):=by
     cases d with
     |false=>rw[d6 rfl];exact⟨λk hk=>by simp at hk,nofun,nofun⟩
     |true=>obtain⟨q1,_,_,q4,_⟩:=Gh d3 (d5 rfl).1;exact⟨q1,λ_=>q4,λ_ e=>by rw[e] at q4;simp at q4⟩
    obtain⟨asc,ep,nz⟩:=asc;have rl:=asc.len;have rm:c.replicas.length<=maxLen:=by unfold maxLen;omega
    have inr: ∀z∈c.replicas,0<=z/\z<5:=by intro z hz;obtain⟨k,hk,rfl⟩:=aP hz;have:=(asc k hk).1;omega
    have ial:=R6 (Di x) (aw 5)
    have iam: (La (Di x) 5).length<=maxLen:=by have:=ial.len;unfold maxLen;omega
    have memA: ∀z,0<=z/\z<5->decide (z∈La (Di x) 5)=Di x z.toNat:=by
     intro z hz;cases h:Di x z.toNat with
     |true=>exact decide_eq_true ((NV _ _ _).2 ⟨z.toNat,by omega,h,by omega⟩)
     |false=>
      refine decide_eq_false λhm=> ?_;obtain⟨k,_,k2,k3⟩:=(NV _ _ _).1 hm;have :z.toNat=k:=by omega
      rw[this,k2] at h;cases h
    have kS:=AN (B:=EO) c.replicas (λk (b:List Int)=>((want,0,(),(),(),(),(),(k:Int),()),((x.now,x.servers,x.sides,x.master.configs,x.master.activated,x.masterUp,x.lease.epoch,x.lease.holder,x.lease.ends,x.places,()),(0,0,(),(),()),(c.epoch,c.primary,(),(),()),()),(La (Di x) 5,b,c.replicas,c.witnesses,()))) (λk b=>b=(c.replicas.take k).filter (HY x c.epoch))
     (λ_ _ _=>((want,0,(),(),(),(),(),()),((x.now,x.servers,x.sides,x.master.configs,x.master.activated,x.masterUp,x.lease.epoch,x.lease.holder,x.lease.ends,x.places,()),(0,0,(),(),()),(c.epoch,c.primary,(),(),()),()),(La (Di x) 5,c.replicas.filter (HY x c.epoch),c.replicas,c.witnesses,())))
     (λb hb=>by simp only[EO];rw[BB,if_neg (by omega),hb,Cq])
     (λk b z hz hb=>by
       have hk:=BI hz;have c1: (k:Int)< (c.replicas.length:Int):=by omega
       have c2: (0:Int)<=(k:Int)/\(k:Int)< (c.replicas.length:Int):=by omega
       have hzz:=inr z (ax hz);have hlt:z.toNat<x.servers.length:=by rw[vc.len];omega
       have hol:b.length<=5:=by rw[hb];have:=CB (HY x c.epoch) (c.replicas.take k);simp only[cH] at this;omega
       have h40: (b++ [z]).length*8<=2 ^ 40:=FR (by simp;omega)
       have hke:HY x c.epoch z=(Di x z.toNat&&(x.servers[z.toNat].config.epoch==c.epoch)):=by unfold HY;rw[ao hlt]
       have hS:DD (La (Di x) 5) z=some (Di x z.toNat,()):=by rw[(C9 _ z iam).1,memA z hzz]
       simp only[EO,BB,Fm,AJ,if_pos c1,if_pos c2,Cj,hz,an,hS,if_pos hzz.1,ao hlt,Ap rm hk,if_pos h40];simp only[Ef hz,Cv];cases ha:Di x z.toNat with
       |false=>exact .inl ⟨b,rfl,by rw[hb];simp[hke,ha],trivial⟩
       |true=>
        simp only[Bg];by_cases he:x.servers[z.toNat].config.epoch=c.epoch
        ·simp only[if_pos he];exact .inl ⟨b++ [z],rfl,by rw[hb];simp[hke,ha,he],trivial⟩
        ·simp only[if_neg he];exact .inl ⟨b,rfl,by rw[hb];simp[hke,ha,he],trivial⟩)
     0 [] (bL _) rfl
    have hsv:Ds x x=some (La (Di x) 5,()):=by
     have hm5:x.servers.length<=maxLen:=CW ok.1.1
     have kk:=AN (B:=C3) x.servers (λk (b:List Int)=>(((x,()),(),x.servers,(x.servers.length:Int),(k:Int),()),(),(b,()))) (λk b=>b=La (Di x) k) (λ_ _ _=>(((),()),(),(La (Di x) 5,())))
      (λb hb=>by simp only[C3];rw[BB,if_neg (by omega),hb,vc.len])
      (λk b s hs hb=>by
        have hk:=BI hs;have c1: (k:Int)< (x.servers.length:Int):=by omega
        have c2: (0:Int)<=(k:Int):=by omega
        have hk5:k<5:=by rw[<-vc.len];exact hk
        have h40: (b++ [(k:Int)]).length*8<=2 ^ 40:=by rw[hb];exact WX (by omega) _
        simp only[C3,HG,BB,AJ,if_pos c1,if_pos c2,Cj,hs,an,Vd x vc.len hsl k hk5,if_pos h40,Ap hm5 hk];rw[Qo,<-hb];cases Di x k with
        |true=>exact .inl ⟨b++ [(k:Int)],rfl,rfl,trivial⟩
        |false=>exact .inl ⟨b,rfl,by simp,trivial⟩)
      0 [] (bL _) rfl
     unfold Ds;simp only[v2,an,cS,Ar];rw[show Fo (((x,()),(),x.servers,(x.servers.length:Int),0,()),(),([],()))=_ from kk];rfl
    have hdel:C8 c.replicas x c=some (c.replicas.filter (HY x c.epoch),()):=by
     have h:=Yo (F:=λa=>C8 a x c) (B2:=DJ) (B5:=Du) (x,c,()) (λi=>Fh i x c) (λi=> !HY x c.epoch i) (λ_=>rfl) (λ_ _ _=>rfl) (λ_ _ _=>rfl) c.replicas (by omega) (λz hz=>by
      have hzz:=inr z hz;have hlt:z.toNat<x.servers.length:=by rw[vc.len];omega
      have hu:=Vd x vc.len hsl z.toNat (by omega);rw[CN hzz.1] at hu;unfold Fh HY;simp only[hu,an,AJ,if_pos hzz.1,ao hlt,CQ];cases Di x z.toNat<;>rfl)
     simpa using h
    obtain⟨r,r1,r2,r3⟩:=Ry x.places (CW ok.2.2.2) vc.places (c.replicas.filter (HY x c.epoch)) (La (Di x) 5) (asc.filter _) ial want;have rl':=r3.len;have rm':r.length<=maxLen:=by unfold maxLen;omega
    obtain⟨w,w1,w2⟩:=Q0 x.places (CW ok.2.2.2) vc.places r (([0,1,2,3,4]:List Int).filter λy=> !decide (y∈La (Di x) 5)) r3 (by have:=(Na.filter λy=> !decide (y∈La (Di x) 5)).len;unfold maxLen;omega)
    simp only[if_neg h20,if_neg (show ¬ (x.master.configs.length:Int)≥20 by omega),Yg x ok v1,d1,d2,hsv,an,FG];rw[AL (FR (show c.replicas.length<=1048576 by omega))];rw[show Mn ((want,0,(),(),(),(),(),0,()),((x.now,x.servers,x.sides,x.master.configs,x.master.activated,x.masterUp,x.lease.epoch,x.lease.holder,x.lease.ends,x.places,()),(0,0,(),(),()),(c.epoch,c.primary,(),(),()),()),(La (Di x) 5,[],c.replicas,c.witnesses,()))=_ from kS];simp only[an,hdel,r1,r2,(C9 r c.primary rm').1,(C9 r c.primary rm').2,PR,Nl _ _ Na iam,w2.1,Jm _ d3,show (⟨c.epoch,c.primary,c.replicas,c.witnesses⟩:mD)=c from rfl];by_cases h0: (r.length:Int)=0
    ·simp only[if_pos h0];exact⟨_,_,rfl,rfl,zero,bL _,rfl⟩
    ·have c0: (0:Int)<=0/\(0:Int)< (r.length:Int):=by omega
     have hg:r[(0:Int).toNat]? =some (r[0]'(by omega)):=ao _;simp only[if_neg h0,AJ,if_pos c0,hg,an,CQ,BB,show ¬ (0:Int)=1 by omega,if_false];have fin: ∀p:Int,D5 1048576 ⟨IntKind.wrap .i64 ((x.master.configs.length:Int)+1),p,r,[]⟩:=λp=>⟨by show r.length<=_;omega,bL _⟩
     cases d with
     |false=>
      have hc:=d6 rfl;subst hc;simp only[decide_true,if_true,show ¬ (0:Int)>0 by omega,if_false];by_cases hmem: (0:Int)∈r
      ·simp only[if_pos hmem];exact⟨_,_,rfl,rfl,fin _,rl',rfl⟩
      ·simp only[if_neg hmem];exact⟨_,_,rfl,rfl,fin _,rl',rfl⟩
     |true=>
      have he:=ep rfl;simp only[decide_eq_false (nz rfl),if_neg (nz rfl),if_pos (show c.epoch>0 by omega)];by_cases hmem:c.primary∈r
      ·simp only[if_pos hmem];exact⟨_,_,rfl,rfl,fin _,rl',rfl⟩
      ·simp only[if_neg hmem];exact⟨_,_,rfl,rfl,fin _,rl',rfl⟩
end
end Go.Proofs.YtkghndikalnipaaGreat.En
