/- Plain laws. -/
import Derived.Test.YtkghndikalnipaaGreatZBX
set_option linter.unusedSimpArgs false
set_option linter.unusedVariables false
namespace Go.Proofs.YtkghndikalnipaaGreat.En
open Go
section
def F0[dE](c:qi):Prop:=∃l,kQ c.b=some l/\l.length<=maxLen/\(∀m∈l,0<=m/\m<=255)/\0<=c.i/\c.i<=c.b.n
def Dn[dE]{α:Type}(Q:α->Prop)(r:Option (List qi×α)):Prop:=∃c a,r=some ([c],a)/\F0 c/\Q a
section
variable [dE] {α β:Type} {Q:α->Prop} {Q':β->Prop}
theorem Dn.ret{c:qi}{a:α}(hc:F0 c)(h:Q a):Dn Q (some ([c],a)):=⟨c,a,rfl,hc,h⟩
theorem Dn.bind{r:Option (List qi×α)}{k:List qi×α->Option (List qi×β)}(h:Dn Q r)(hk:∀c a,F0 c->Q a->Dn Q' (k ([c],a))):Dn Q' (r.bind k):=by obtain⟨c,a,rfl,h1,h2⟩:=h;exact hk c a h1 h2
theorem Dn.mono{Q2:α->Prop}{r:Option (List qi×α)}(h:Dn Q r)(hq:∀a,Q a->Q2 a):Dn Q2 r:=by obtain⟨c,a,h1,h2,h3⟩:=h;exact⟨c,a,h1,h2,hq a h3⟩
theorem Dn.iteP{p:Prop}[Decidable p]{x y:Option (List qi×α)}(hp:p)(h:Dn Q x):Dn Q (iteP p x y):=by rw[CA hp];exact h
theorem Dn.br{b:Bool}{x y:Option (List qi×α)}(h1:b=true->Dn Q x)(h2:b=false->Dn Q y):Dn Q (br b x y):=by
 cases b with
 |true=>exact h1 rfl
 |false=>exact h2 rfl
theorem Dn.get{γ:Type}{l:List γ}{i:Nat}{k:γ->Option (List qi×α)}(hi:i<l.length)(h:∀x∈l,Dn Q (k x)):Dn Q ((l[i]?).bind k):=by rw[aq hi];exact h _ (D6 hi)
end
theorem WZ(x:Int):0<=bits .and .i64 x 255/\bits .and .i64 x 255<=255:=by
 have h: (BitVec.ofInt 64 x&&& BitVec.ofInt 64 255).toNat<=255:=by rw[BitVec.toNat_and];exact Nat.and_le_right
 show 0<=IntKind.wrap .i64 _/\IntKind.wrap .i64 _<=255;have e:IntKind.wrap .i64 ((BitVec.ofInt 64 x&&& BitVec.ofInt 64 255).toNat:Int)=((BitVec.ofInt 64 x&&& BitVec.ofInt 64 255).toNat:Int):=vP (by omega) (by omega);have e2:bits .and .i64 x 255=IntKind.wrap .i64 ((BitVec.ofInt 64 x&&& BitVec.ofInt 64 255).toNat:Int):=rfl;rw[<-e2]at e;constructor
 ·show 0<=bits .and .i64 x 255;omega
 ·show bits .and .i64 x 255<=255;omega
theorem Zg{x n:Int}(hx:0<=x)(hn:0<n):0<=x.tmod n/\x.tmod n<n:=⟨Int.tmod_nonneg _ hx,Int.tmod_lt_of_pos _ hn⟩
section
variable [dE]
theorem adw{x:Hd}{l:List Int}(h:kQ x=some l)(hl:l.length<=maxLen)(hb:∀m∈l,0<=m/\m<=255):Dn (λ_:Unit=>True) (Wa x):=by unfold Wa Dr;rw[h];exact⟨_,(),rfl,⟨l,h,hl,hb,cW _,D5 _⟩,trivial⟩
theorem Rz{c:qi}(h:F0 c):Dn (λy:Int×Unit=>0<=y.1/\y.1<=255) (OO [c]):=by
 obtain⟨l,h1,h2,h3,h4,h5⟩:=h;show Dn _ ((C4 c).map λy=>([y.1],y.2,()));unfold C4;have hlen:=(Bv h1).1;by_cases hi:c.i<(c.b.n:Int)
 ·rw[if_pos hi,if_pos h4,h1,ao,aq (by omega)];refine⟨_,_,rfl,⟨l,h1,h2,h3,?_,?_⟩,WZ _⟩
  ·show 0<=RowKit.wrap64 (c.i+1);unfold RowKit.wrap64;simp only[maxLen]at h2;omega
  ·show RowKit.wrap64 (c.i+1)<=c.b.n;unfold RowKit.wrap64;simp only[maxLen]at h2;omega
 ·rw[if_neg hi];exact⟨_,_,rfl,⟨l,h1,h2,h3,h4,h5⟩,WZ _⟩
theorem GC{c:qi}(h:F0 c)(n:Int):Dn (λy:Int×Unit=>0<=y.1/\(y.1<n\/n<=0/\y.1=0)) (EJ [c] n):=by
 unfold EJ;refine .br (λhn=>.ret h ⟨cW _,.inr ⟨of_decide_eq_true hn,rfl⟩⟩) λhn=>?_;have hn:=of_decide_eq_false hn;refine .br (λ_=>.bind (Rz h) λc1 y h1 hy=>.iteP rfl ?_) λ_=>.bind (Rz h) λc1 y h1 hy=>.iteP rfl (.bind (Rz h1) λc2 y2 h2 hy2=>.iteP rfl (.bind (Rz h2) λc3 y3 h3 hy3=>.iteP rfl (.bind (Rz h3) λc4 y4 h4 hy4=>.iteP rfl ?_)))
 ·rw[Cz (by omega)];have:=Zg hy.1 (show 0<n by omega);exact .ret h1 ⟨this.1,.inl this.2⟩
 ·rw[Cz (by omega)];simp only;rw[vP (n:=y.1*16777216) (by omega) (by omega),vP (n:=y2.1*65536) (by omega) (by omega),vP (n:=y3.1*256) (by omega) (by omega),vP (n:=y.1*16777216+y2.1*65536) (by omega) (by omega),vP (n:=y.1*16777216+y2.1*65536+y3.1*256) (by omega) (by omega),vP (n:=y.1*16777216+y2.1*65536+y3.1*256+y4.1) (by omega) (by omega)];have:=Zg (show 0<=y.1*16777216+y2.1*65536+y3.1*256+y4.1 by omega) (show 0<n by omega);exact .ret h4 ⟨this.1,.inl this.2⟩
theorem Kj{c:qi}(h:F0 c){n:Int}(hn:0<n):Dn (λy:Int×Unit=>0<=y.1/\y.1<n) (EJ [c] n):=(GC h n).mono λy hy=>⟨hy.1,by omega⟩
theorem IP{c:qi}(h:F0 c)(n:Int):Dn (λ_:Bool×Unit=>True) (Gs [c] n):=by unfold Gs;exact .bind (GC h n) λc1 y h1 hy=>.iteP rfl (.ret h1 trivial)
theorem HL{c:qi}(h:F0 c){l:List Int}(hl:l≠ []):Dn (λy:Int×Unit=>y.1∈l) (EX [c] l):=by unfold EX;have h0:0<l.length:=List.length_pos_iff.2 hl;refine .bind (Kj h (show 0<(l.length:Int) by omega)) λc1 y h1 hy=>.iteP rfl (.iteP hy.1 (.get (by show y.1.toNat<l.length;have:=hy.1;have:=hy.2;omega) λx hx=>.ret h1 hx))
theorem XB{c:qi}(h:F0 c):Dn (λ_:Op×Unit=>True) (Ou [c]):=by
 unfold Ou
 repeat first |exact .ret (by assumption) trivial|refine .iteP rfl ?_|refine .br (λ_=>?_) λ_=>?_|refine .bind (GC (by assumption) _) λ_ _ _ _=>?_|refine .bind (IP (by assumption) _) λ_ _ _ _=>?_|refine .bind (HL (by assumption) (by simp)) λ_ _ _ _=>?_
theorem aav{c:qi}(h:F0 c):Dn (λ_:uN×Unit=>True) (PT [c]):=by
 unfold PT;dsimp only
 repeat first |exact .ret (by assumption) trivial|refine .iteP rfl ?_|refine .br (λ_=>?_) λ_=>?_|refine .bind (GC (by assumption) _) λ_ _ _ _=>?_|refine .bind (IP (by assumption) _) λ_ _ _ _=>?_|refine .bind (HL (by assumption) (by simp)) λ_ _ _ _=>?_
theorem Z7{c:qi}(h:F0 c):Dn (λ_:wT×Unit=>True) (NJ [c]):=by
 unfold NJ;dsimp only
 repeat first |exact .ret (by assumption) trivial|refine .iteP rfl ?_|refine .br (λ_=>?_) λ_=>?_|refine .bind (GC (by assumption) _) λ_ _ _ _=>?_|refine .bind (IP (by assumption) _) λ_ _ _ _=>?_|refine .bind (HL (by assumption) (by simp)) λ_ _ _ _=>?_|refine .bind (XB (by assumption)) λ_ _ _ _=>?_
def Ro{σ ε:Type}(I:σ->Prop)(E:ε->Prop)(r:Option (σ⊕ε)):Prop:=(∃s,r=some (.inl s)/\I s)\/∃e,r=some (.inr e)/\E e
section
variable {σ ε α:Type} {I:σ->Prop} {E:ε->Prop} {Q:α->Prop}
omit [dE]in
theorem Ro.again{s:σ}(h:I s):Ro I E (some (.inl s)):=.inl ⟨s,rfl,h⟩
omit [dE]in
theorem Ro.done{e:ε}(h:E e):Ro I E (some (.inr e)):=.inr ⟨e,rfl,h⟩
omit [dE]in
theorem Ro.iteP{p:Prop}[Decidable p]{x y:Option (σ⊕ε)}(hp:p)(h:Ro I E x):Ro I E (iteP p x y):=by rw[CA hp];exact h
omit [dE]in
theorem Ro.br{b:Bool}{x y:Option (σ⊕ε)}(h1:b=true->Ro I E x)(h2:b=false->Ro I E y):Ro I E (br b x y):=by
 cases b with
 |true=>exact h1 rfl
 |false=>exact h2 rfl
theorem Ro.draw{r:Option (List qi×α)}{k:List qi×α->Option (σ⊕ε)}(h:Dn Q r)(hk:∀c a,F0 c->Q a->Ro I E (k ([c],a))):Ro I E (r.bind k):=by obtain⟨c,a,rfl,h1,h2⟩:=h;exact hk c a h1 h2
omit [dE]in
theorem WC{B:σ->Option (σ⊕ε)}(μ:σ->Nat)(h:∀s,I s->Ro (λs'=>I s'/\μ s'<μ s) E (B s)){s:σ}(hs:I s):∃e,ny B s=some e/\E e:=
 C9 I μ E (λs hs=>(h s hs).imp (λ⟨s',a,b,c⟩=>⟨s',a,b,c⟩) id) hs
end
theorem W4{c:qi}(h:F0 c){n:Int}(h0:0<=n){evs:List wT}{M:Nat}(hM:evs.length+n.toNat<=M)(hM2:M<=1000):Dn (λy:List wT×Unit=>y.1.length<=M) ((Mw (((),(),n,()),(()),[c],evs,())).bind λe=>some e.2.2):=by
 unfold Mw
 obtain⟨⟨_,_,l,ps,_⟩,h1,c2,rfl,h2,h3⟩:=WC (B:=Km) (I:=λs=>∃c,s.2.2.1=[c]/\F0 c/\0<=s.1.2.2.1/\s.2.2.2.1.length+s.1.2.2.1.toNat<=M) (E:=λe=>∃c,e.2.2.1=[c]/\F0 c/\e.2.2.2.1.length<=M) (λs=>s.1.2.2.1.toNat) (by
  rintro⟨⟨_,_,k,_⟩,_,l,ps,_⟩ ⟨c,rfl,hc,h0,h1⟩
  simp only at h0 h1;unfold Km;refine .br (λhk=>?_) λhk=>.done ⟨c,rfl,hc,by show ps.length<=M;omega⟩;have hk:k>0:=of_decide_eq_true hk;have e:IntKind.wrap .i64 (k-1)=k-1:=vP (by omega) (by omega)
  have fB:∀ (c:qi) (x:wT),F0 c->Ro (λs': (Unit×Unit×Int×Unit)×Unit×List qi×List wT×Unit=>(∃c,s'.2.2.1=[c]/\F0 c/\0<=s'.1.2.2.1/\s'.2.2.2.1.length+s'.1.2.2.1.toNat<=M)/\s'.1.2.2.1.toNat<k.toNat) (λe: (Unit×Unit)×Unit×List qi×List wT×Unit=>∃c,e.2.2.1=[c]/\F0 c/\e.2.2.2.1.length<=M) (iteP ((ps++ [x]).length*80<=2 ^ 40) (some (.inl (((),(),IntKind.wrap .i64 (k-1),()),(()),[c],ps++ [x],()))) none):=λc x hc=>by refine .iteP (by simp only[bL,cy];omega) (.again ?_);simp only[e];exact⟨⟨c,rfl,hc,by omega,by simp only[bL,cy];omega⟩,by omega⟩
  refine .draw (Z7 hc) λc1 _ h1 _=>.iteP rfl (.br (λ_=>.draw (IP h1 _) λc2 _ h2 _=>.iteP rfl (.br (λ_=>.draw (HL h2 (by simp)) λc3 _ h3 _=>.iteP rfl (fB _ _ h3)) λ_=>fB _ _ h2)) λ_=>fB _ _ h1)) (s:=(((),(),n,()),(()),[c],evs,())) ⟨c,rfl,h,h0,hM⟩
 rw[h1];exact⟨c2,_,rfl,h2,h3⟩
theorem Zq{c:qi}(h:F0 c){n:Int}(h0:0<=n)(hn:n<=100):Dn (λy:List wT×Unit=>y.1.length<=200) (MI [c] n):=by
 unfold MI;rw[vP (n:=n+1) (by omega) (by omega)];refine .bind (GC h _) λc1 _ h1 _=>.iteP rfl (.bind (GC h1 _) λc2 _ h2 _=>.iteP rfl (.bind (IP h2 _) λc3 _ h3 _=>.iteP rfl (.br (λ_=>?_) λ_=>?_)))
 ·exact .bind (Kj h3 (by omega)) λc4 y h4 hy=>.iteP rfl (W4 h4 hy.1 (by have:=hy.2;simp only[bD,bU];omega) (by omega))
 ·exact .bind (Kj h3 (by omega)) λc4 y h4 hy=>.iteP rfl (W4 h4 hy.1 (by have:=hy.2;simp only[bD,bU];omega) (by omega))
theorem abg{c:qi}(h:F0 c):Dn (λy:List Int×Unit=>y.1.length=5) (NG [c]):=by
 unfold NG RT
 obtain⟨⟨_,_,l,ps,_⟩,h1,c2,rfl,h2,h3⟩:=WC (B:=K9) (I:=λs=>∃c,s.2.2.1=[c]/\F0 c/\0<=s.1.2.2.1/\s.1.2.2.1<=5/\(s.2.2.2.1.length:Int)=s.1.2.2.1) (E:=λe=>∃c,e.2.2.1=[c]/\F0 c/\e.2.2.2.1.length=5) (λs=>(5-s.1.2.2.1).toNat) (by
  rintro⟨⟨_,_,k,_⟩,_,l,ps,_⟩ ⟨c,rfl,hc,h0,h1,h2⟩
  simp only at h0 h1 h2;unfold K9;refine .br (λhk=>?_) λhk=>.done ⟨c,rfl,hc,by have : ¬k<5:=of_decide_eq_false hk;show ps.length=5;omega⟩;have hk:k<5:=of_decide_eq_true hk;refine .draw (HL hc (by simp)) λc1 _ h1 _=>.iteP rfl (.iteP (by simp only[bL,cy];omega) (.again ?_));simp only;rw[vP (n:=k+1) (by omega) (by omega)];exact⟨⟨c1,rfl,h1,by omega,by omega,by simp only[bL,cy];omega⟩,by omega⟩) (s:=(((),(),0,()),(()),[c],([]:List Int),())) ⟨c,rfl,h,cW _,by simp,by simp⟩
 rw[h1];exact⟨c2,_,rfl,h2,h3⟩
theorem aaw{c:qi}(h:F0 c):Dn (λy:List rp×Unit=>y.1.length<=6) (QH [c]):=by
 unfold QH;refine .bind (Kj h (by decide)) λc0 y0 hc0 hy0=>.iteP rfl ?_;unfold VU
 obtain⟨⟨_,_,l,ps,_⟩,h1,c2,rfl,h2,h3⟩:=WC (B:=OJ) (I:=λs=>∃c,s.2.2.1=[c]/\F0 c/\0<=s.1.2.2.2.1/\s.2.2.2.1.length+s.1.2.2.2.1.toNat<=6) (E:=λe=>∃c,e.2.2.1=[c]/\F0 c/\e.2.2.2.1.length<=6) (λs=>s.1.2.2.2.1.toNat) (by
  rintro⟨⟨_,_,g,k,_⟩,_,l,ps,_⟩ ⟨c,rfl,hc,h0,h1⟩
  simp only at h0 h1;unfold OJ;refine .br (λhk=>?_) λhk=>.done ⟨c,rfl,hc,by show ps.length<=6;omega⟩;have hk:k>0:=of_decide_eq_true hk;have e:IntKind.wrap .i64 (k-1)=k-1:=vP (by omega) (by omega);refine .draw (IP hc _) λc1 _ h1 _=>.iteP rfl (.br (λ_=>.draw (XB h1) λc2 _ h2 _=>.iteP rfl (.iteP (by simp only[bL,cy];omega) (.again ?_))) λ_=>.draw (XB h1) λc2 _ h2 _=>.iteP rfl (.iteP (by simp only[bL,cy];omega) (.again ?_)))
  all_goals
   simp only[e];exact⟨⟨c2,rfl,h2,by omega,by simp only[bL,cy];omega⟩,by omega⟩) (s:=(((),(),1,y0.1,()),(()),[c0],([]:List rp),())) ⟨c0,rfl,hc0,hy0.1,by have:=hy0.2;simp;omega⟩
 rw[h1];exact⟨c2,_,rfl,h2,h3⟩
theorem aa1{c:qi}(h:F0 c):Dn (λ_:Op×Unit=>True) (RD [c]):=by
 unfold RD;refine .bind (XB h) λ_ _ _ _=>?_
 repeat first |exact .ret (by assumption) trivial|refine .iteP rfl ?_|refine .br (λ_=>?_) λ_=>?_|refine .bind (GC (by assumption) _) λ_ _ _ _=>?_|refine .bind (IP (by assumption) _) λ_ _ _ _=>?_|refine .bind (HL (by assumption) (by simp)) λ_ _ _ _=>?_
theorem ZD{c:qi}(h:F0 c):Dn (λy:List rp×Unit=>y.1.length<=17) (RE [c]):=by
 unfold RE;refine .bind (aaw h) λc1 y h1 hy=>.iteP rfl (.bind (GC h1 _) λc2 _ h2 _=>.iteP rfl (.br (λ_=>?_) λ_=>.br (λ_=>?_) λ_=>.ret h2 (by show y.1.length<=17;omega)))
 ·refine .bind (HL h2 (by simp)) λc3 _ h3 _=>.iteP rfl (.bind (aa1 h3) λc4 z h4 _=>.iteP rfl ?_);have e:∀x:rp,(y.1++ [x]).length<=17:=λx=>by simp only[bL,cy];omega
  exact .iteP (aX (bz _ (e _)) (by decide)) (.ret h4 (e _))
 ·unfold VT
  obtain⟨⟨_,_,l,ps,_⟩,h1,c2,rfl,h2,h3⟩:=WC (B:=Nt) (I:=λs=>∃c,s.2.2.1=[c]/\F0 c/\s.2.2.2.1.length<=17) (E:=λe=>∃c,e.2.2.1=[c]/\F0 c/\e.2.2.2.1.length<=17) (λs=>17-s.2.2.2.1.length) (by
   rintro⟨⟨_,_,_⟩,_,l,ps,_⟩ ⟨c,rfl,hc,h0⟩
   simp only at h0;unfold Nt;refine .br (λhk=>?_) λhk=>.done ⟨c,rfl,hc,h0⟩;have hk: (ps.length:Int)<17:=of_decide_eq_true hk;refine .draw (XB hc) λc1 _ h1 _=>.iteP rfl (.iteP (by simp only[bL,cy];omega) (.again ?_));exact⟨⟨c1,rfl,h1,by simp only[bL,cy];omega⟩,by simp only[bL,cy];omega⟩) (s:=(((),(),()),(()),[c2],y.1,())) ⟨c2,rfl,h2,by show y.1.length<=17;omega⟩
  show Dn _ ((ny Nt (((),(),()),(()),[_],y.1,())).bind _);rw[h1];exact⟨c2,_,rfl,h2,h3⟩
end
end
section
def Gu(M:Nat)(c:nG):Prop:=c.replicas.length<=M/\c.witnesses.length<=M
def Fs(M:Nat)(s:qk):Prop:=Gu M s.config/\s.log.length<=M/\s.learned.length<=M
def Md(M:Nat)(m:jZ):Prop:=m.configs.length<=M/\∀c∈m.configs,Gu M c
def EP(M:Nat)(c:qh):Prop:=(c.servers.length<=M/\∀s∈c.servers,Fs M s)/\c.sides.length<=M/\Md M c.master/\c.places.length<=M
theorem EO{n:Nat}(h:n<=1048576):n<=maxLen:=by unfold maxLen;omega
end
section
theorem Gw{ρ:Type}(a b:Int)(x y:ρ):br (a==b) x y=if a=b then x else y:=by rw[Dm];by_cases h:a=b<;>simp[h]
theorem EE{ρ:Type}(b:Bool)(x y:ρ):br (!b) x y=br b y x:=by cases b<;>rfl
def HC(x a b:Int):Bool:=decide (a<=x)&&decide (x<=b)
theorem FB(x a b:Int):EN x a b=some (HC x a b,()):=by unfold EN HC;rw[Dl];split<;>rename_i h<;>simp[h]
theorem Kb(x a b:Int):ET x a b=some (HC x a b,()):=by unfold ET HC;rw[Dl];split<;>rename_i h<;>simp[h]
theorem EI{x a b:Int}:HC x a b=true↔a<=x/\x<=b:=by simp[HC]
def Oe(l:List Int):Prop:=∀k (h:k<l.length),(0<=l[k]/\l[k] <=4)/\∀_:0<k,l[k-1]'(by omega)<l[k]
theorem Pe(l:List Int)(hl:l.length<=maxLen): (Gj l=some (true,())/\HJ l=some (true,())/\Oe l)\/(Gj l=some (false,())/\HJ l=some (false,())):=by
 have fB:=Da (B1:=GV) (B2:=GU) l.length (λk=>((l,(k:Int),()),(),())) (λk=>((l,l,(l.length:Int),(k:Int),()),(),())) (.inr (((),()),(),())) (.inr (((),()),(),())) (λ_=>.inl ((false,()),(),())) (λ_=>.inl ((false,()),(),()))
  (λk=>∀h:k<l.length,(0<=l[k]/\l[k] <=4)/\∀_:0<k,l[k-1]'(by omega)<l[k]) (λ_=>True)
  (by simp only[GV];rw[Dl,if_neg (by omega)])
  (by simp only[GU];rw[Dl,if_neg (by omega)])
  (λk hk=>by
    have c1: (k:Int)<(l.length:Int):=by omega
    have c2: (0:Int)<=(k:Int):=by omega
    have e1:l[k]?=some l[k] :=aq hk;simp only[GV,GU,Dl,Cy,if_pos c1,if_pos c2,D4,e1,ao,FB,Kb];cases hw:HC l[k] 0 4 with
    |false=>exact .inr ⟨rfl,rfl,trivial⟩
    |true=>
     simp only[dg,Ce];have hw:=EI.1 hw;by_cases h0:0<k
     ·have c3: (k:Int)>0:=by omega
      have c4: (0:Int)<=((k-1:Nat):Int):=by omega
      have e2:l[k-1]?=some l[k-1] :=aq (by omega);simp only[if_pos c3,B9 h0 (by omega),if_pos c4,D4,e2,ao];by_cases hlt:l[k-1]<l[k]
      ·rw[if_neg (by omega),if_neg (by omega),Cb hl hk];exact .inl ⟨rfl,rfl,λ_=>⟨hw,λ_=>hlt⟩⟩
      ·rw[if_pos (by omega),if_pos (by omega)];exact .inr ⟨rfl,rfl,trivial⟩
     ·rw[if_neg (by omega),if_neg (by omega),Cb hl hk];exact .inl ⟨rfl,rfl,λ_=>⟨hw,λh=>absurd h h0⟩⟩)
 unfold Gj HJ;rcases fB with⟨k1,k2,k3⟩| ⟨k,_,k1,k2,_⟩
 ·rw[show LA ((l,0,()),(),())=_ from k1,show Lz ((l,l,(l.length:Int),0,()),(),())=_ from k2];exact .inl ⟨rfl,rfl,λk hk=>k3 k hk hk⟩
 ·rw[show LA ((l,0,()),(),())=_ from k1,show Lz ((l,l,(l.length:Int),0,()),(),())=_ from k2];exact .inr ⟨rfl,rfl⟩
theorem Oe.lt{l:List Int}(h:Oe l):∀ (d i:Nat) (h2:i+d+1<l.length),l[i]'(by omega)<l[i+d+1] :=by
 intro d
 induction d with
 |zero=>intro i h2;exact(h (i+1) h2).2 (by omega)
 |succ d ih=>intro i h2;have h1:=ih i (by omega);have h3:=(h (i+d+1+1) h2).2 (by omega);exact Int.lt_trans h1 h3
theorem Oe.pair{l:List Int}(h:Oe l):l.Pairwise (· < ·):=by rw[Ec];intro i j hi hj hij;have:=h.lt (j-i-1) i (by omega);simpa [show i+(j-i-1)+1=j by omega] using this
theorem Oe.len{l:List Int}(h:Oe l):l.length<=5:=by
 have ge:∀k (hk:k<l.length),(k:Int)<=l[k] :=by
  intro k
  induction k with
  |zero=>intro hk;exact(h 0 hk).1.1
  |succ k ih=>intro hk;have h1:=ih (by omega);have h2:=(h (k+1) hk).2 (by omega);simp only[bM]at h2;omega
 rcases cZ 5 l.length with hlt|hge
 ·have h1:=ge 5 hlt;have h2:=(h 5 hlt).1.2;omega
 ·exact hge
theorem EY(l:List Int)(x:Int)(hl:l.length<=maxLen):FH l x=some (decide (x∈l),())/\It l x=some (decide (x∈l),()):=by
 have fB:=Da (B1:=JA) (B2:=IW) l.length (λk=>((l,x,(k:Int),()),(),())) (λk=>((l,x,(l.length:Int),(k:Int),()),(),())) (.inr (((),()),(),())) (.inr (((),()),(),())) (λ_=>.inl ((true,()),(),())) (λk=>.inl (((k:Int),()),(),()))
  (λk=>l[k]? ≠some x) (λk=>l[k]?=some x)
  (by simp only[JA];rw[Dl,if_neg (by omega)])
  (by simp only[IW];rw[Dl,if_neg (by omega)])
  (λk hk=>by
    have c1: (k:Int)<(l.length:Int):=by omega
    have c2: (0:Int)<=(k:Int):=by omega
    have e1:l[k]?=some l[k] :=aq hk;simp only[JA,IW,Dl,Cy,if_pos c1,if_pos c2,D4,e1,ao,Cb hl hk,Gw];by_cases he:l[k]=x
    ·rw[if_pos he,if_pos he.symm,he];exact .inr ⟨rfl,rfl,rfl⟩
    ·rw[if_neg he,if_neg (λh=>he h.symm)];exact .inl ⟨rfl,rfl,λh=>he (Option.some.inj h)⟩)
 unfold FH It KL Ng;rcases fB with⟨k1,k2,k3⟩| ⟨k,hk,k1,k2,k3⟩
 ·rw[show OB ((l,x,0,()),(),())=_ from k1,show NX ((l,x,(l.length:Int),0,()),(),())=_ from k2]
  have hn:x∉l:=λh=>by obtain⟨k,hk,he⟩:=aU h;exact k3 k hk (by rw[aq hk,he])
  rw[decide_eq_false hn];exact⟨rfl,rfl⟩
 ·rw[show OB ((l,x,0,()),(),())=_ from k1,show NX ((l,x,(l.length:Int),0,()),(),())=_ from k2];rw[decide_eq_true (aA k3)];refine⟨rfl,?_⟩;simp only[ao,Eg];rw[decide_eq_true (by omega)]
end
section
theorem Jm{n:Nat}(h:n<=1048576):n*8<=2 ^ 40:=by
 have : (2:Nat) ^ 40=1099511627776:=by decide
 omega
theorem WJ(l:List Int)(x:Int)(hl:l.length<=1000)(h:∀y∈l,y<x):IM l x=some (l++ [x],()):=by
 have hm:l.length<=maxLen:=by unfold maxLen;omega
 have fB:=CC (B:=J7) l (λk (_:Unit)=>((l,x,(k:Int),()),(),())) (λ_ _=>True) (λk r _=>((l,x,((k+r.length:Nat):Int),()),(),()))
  (λb hb=>by simp only[J7];rw[Dl,if_neg (by omega)];rfl)
  (λk b y hy hb=>by
    have hk:=Du hy;have c1: (k:Int)<(l.length:Int):=by omega
    have c2: (0:Int)<=(k:Int):=by omega
    refine .inl ⟨(),?_,trivial,?_⟩
    ·simp only[J7,Dl,Cy,if_pos c1,if_pos c2,D4,hy,ao,if_pos (h y (aA hy)),Cb hm hk]
    ·rw[bD,show k+((l.drop (k+1)).length+1)=k+1+(l.drop (k+1)).length by omega])
  0 () (bO _) trivial
 unfold IM;rw[show Sq ((l,x,0,()),(),())=_ from fB];simp only[ao,cE,aP];have c0: ¬ ((l.length:Int)<(l.length:Int)):=by omega
 have d1: (0:Int)<=0/\(0:Int)<=(l.length:Int)/\(l.length:Int)<=(l.length:Int):=by omega
 have d2: (0:Int)<=(l.length:Int)/\(l.length:Int)<=(l.length:Int)/\(l.length:Int)<=(l.length:Int):=by omega
 simp only[Dl,if_neg c0,Cy,if_pos d1,if_pos d2,D4,Ey,cE,Ep,c9,dw,bP,D9,bG];rw[if_pos (Jm (by omega)),if_pos (Jm (by simp;omega))];exact if_pos (Jm (by simp;omega))
theorem R8(a b:List Int)(ha:Oe a)(hb:b.length<=maxLen):HE a b=some (a.filter λx=>decide (x∈b),()):=by
 have hl:=ha.len;have hm:a.length<=maxLen:=by unfold maxLen;omega
 have hp:=ha.pair
 have fB:=CC (B:=Hv) a (λk (out:List Int)=>((a,b,(),(k:Int),()),(),(out,()))) (λk out=>out=(a.take k).filter λx=>decide (x∈b)) (λk r out=>(((),()),(),(out++r.filter λx=>decide (x∈b),())))
  (λout hb=>by simp only[Hv];rw[Dl,if_neg (by omega)];simp)
  (λk out x hx hout=>by
    have hk:=Du hx;have c1: (k:Int)<(a.length:Int):=by omega
    have c2: (0:Int)<=(k:Int):=by omega
    have hxe:a[k]=x:=by rw[aq hk]at hx;exact Option.some.inj hx
    simp only[Hv,Dl,Cy,if_pos c1,if_pos c2,D4,hx,ao,(EY b x hb).1,Cb hm hk];by_cases hin:x∈b
    ·have hlt:∀y∈out,y<x:=by
      intro y hy;rw[hout,Et]at hy;obtain⟨i,hi,he⟩:=aU hy.1;have hi':i<k:=by simp at hi;omega
      rw[Eu]at he;rw[<-he,<-hxe];exact Ec.1 hp i k (by omega) hk hi'
     have hol:out.length<=1000:=by rw[hout];have:=Ez (λx=>decide (x∈b)) (a.take k);simp at this;omega
     simp only[if_pos hin,WJ out x hol hlt,ao];refine .inl ⟨out++ [x],rfl,?_,?_⟩
     ·rw[hout,Ee,hx,Eh];simp[hin]
     ·simp[hin]
    ·simp only[if_neg hin];refine .inl ⟨out,rfl,?_,?_⟩
     ·rw[hout,Ee,hx,Eh];simp[hin]
     ·simp[hin])
  0 [] (bO _) rfl
 unfold HE;rw[show Ok ((a,b,(),0,()),(),([],()))=_ from fB];rfl
theorem TN{n:Nat}(hn:n<=5):∃m,PQ (IntKind.wrap .u64 (n:Int))=some (m,()):=by
 have :n=0\/n=1\/n=2\/n=3\/n=4\/n=5:=by omega
 rcases this with rfl|rfl|rfl|rfl|rfl|rfl
 ·exact⟨0,by kernel_rfl⟩
 ·exact⟨1,by kernel_rfl⟩
 ·exact⟨2,by kernel_rfl⟩
 ·exact⟨2,by kernel_rfl⟩
 ·exact⟨3,by kernel_rfl⟩
 ·exact⟨3,by kernel_rfl⟩
theorem Zt(l:List Int)(ha:Oe l):Fj l 0 (l.length:Int)=some (l,()):=by
 have hl:=ha.len;have hm:l.length<=maxLen:=by unfold maxLen;omega
 have inner:∀k (hk:k<l.length),0<k->Ga (((),0,(l.length:Int),(k:Int),(k:Int),()),(),(l,()))=some (((),0,(l.length:Int),(k:Int),()),(),(l,())):=by
  intro k hk h0;refine lO ?_;have c1: (k:Int)>0:=by omega
  have c2: (0:Int)<=(k:Int)/\(k:Int)<(l.length:Int):=by omega
  have c3: (0:Int)<=((k-1:Nat):Int)/\((k-1:Nat):Int)<(l.length:Int):=by omega
  have e1:l[k]?=some l[k] :=aq hk;have e2:l[k-1]?=some l[k-1] :=aq (by omega);have hlt:=(ha k hk).2 h0
  have less:Je l[k] l[k-1]=some (false,()):=by unfold Je JC;simp only[beq_self_eq_true,dg,ao,Ce];rw[decide_eq_false (by omega)]
  simp only[Fe,Dl,Cy,if_pos c1,if_pos c2,B9 h0 (by omega),if_pos c3,D4,e1,e2,ao,less,Ce]
 have outer:=C9 (B:=EM) (λs=>∃k:Nat,0<k/\s=(((),0,(l.length:Int),(k:Int),()),(),(l,()))) (λs=>l.length-s.1.2.2.2.1.toNat) (λe=>e=((()),(),(l,())))
  (λs hs=>by
    obtain⟨k,h0,rfl⟩:=hs;by_cases hk:k<l.length
    ·have c1: (k:Int)<(l.length:Int):=by omega
     refine .inl ⟨(((),0,(l.length:Int),((k+1:Nat):Int),()),(),(l,())),?_,⟨k+1,by omega,rfl⟩,?_⟩
     ·simp only[EM,Dl,if_pos c1,inner k hk h0,ao,Cb hm hk]
     ·simp only[D4];omega
    ·have c1: ¬ (k:Int)<(l.length:Int):=by omega
     exact .inr ⟨_,by simp only[EM,Dl,if_neg c1],rfl⟩)
  (s:=(((),0,(l.length:Int),((1:Nat):Int),()),(),(l,()))) ⟨1,by omega,rfl⟩
 obtain⟨e,h1,rfl⟩:=outer;unfold Fj;rw[show IntKind.wrap .i64 ((0:Int)+1)=((1:Nat):Int)from by rw[vP (by omega) (by omega)];rfl,show F9 (((),0,(l.length:Int),((1:Nat):Int),()),(),(l,()))=_ from h1];rfl
theorem abi(l:List Int)(ha:Oe l):H4 l=some (l,()):=by
 have hl:=ha.len;obtain⟨m,hm⟩:=TN hl
 have hp:FM l 0 (l.length:Int) m=some (l,()):=by
  unfold FM
  have :H6 (((),0,(l.length:Int),m,true,true,()),(),(l,()))=some ((()),(),(l,())):=by refine lO ?_;simp only[Gd];rw[vP (by omega) (by omega),Dl,if_pos (by omega),Zt l ha,ao,CA rfl]
  rw[this];rfl
 unfold H4;simp only[hm,ao,hp];exact CA trivial _ _
theorem W3(l:List Int)(ha:Oe l):GZ l=some (l,()):=by
 have hl:=ha.len;have hm:l.length<=maxLen:=by unfold maxLen;omega
 unfold GZ;rw[Dl];split
 ·rfl
 ·have fB:=C9 (B:=FC) (λs=>∃k:Nat,0<k/\k<=l.length/\s=(((),(k:Int),()),(),(l,()))) (λs=>l.length-s.1.2.1.toNat) (λe=>e= .inr (((),(),()),(),(l,())))
   (λs hs=>by
     obtain⟨k,h0,hkl,rfl⟩:=hs;by_cases hk:k<l.length
     ·have c1: (k:Int)<(l.length:Int):=by omega
      have c2: (0:Int)<=(k:Int)/\(k:Int)<(l.length:Int):=by omega
      have c3: (0:Int)<=((k-1:Nat):Int)/\((k-1:Nat):Int)<(l.length:Int):=by omega
      have e1:l[k]?=some l[k] :=aq hk;have e2:l[k-1]?=some l[k-1] :=aq (by omega);have hlt:=(ha k hk).2 h0;refine .inl ⟨(((),((k+1:Nat):Int),()),(),(l,())),?_,⟨k+1,by omega,by omega,rfl⟩,?_⟩
      ·simp only[FC,Dl,Cy,if_pos c1,if_pos c2,B9 h0 (by omega),if_pos c3,D4,e1,e2,ao,Gw,Cb hm hk];rw[if_neg (by omega)]
      ·simp only[D4];omega
     ·have c1: ¬ (k:Int)<(l.length:Int):=by omega
      exact .inr ⟨_,by simp only[FC,Dl,if_neg c1],rfl⟩)
   (s:=(((),((1:Nat):Int),()),(),(l,()))) ⟨1,by omega,by omega,rfl⟩
  obtain⟨e,h1,rfl⟩:=fB;rw[show Kk (((),1,()),(),(l,()))=_ from h1];rfl
theorem Zl(l:List Int)(ha:Oe l):Ja l=some (l,()):=by have hl:=ha.len;unfold Ja Jj;rw[CA (Jm (by omega)),ao,abi l ha,ao,CA rfl,W3 l ha];rfl
end
section
theorem NR{σ ε:Type}{B:σ->Option (σ⊕ε)}(n:Nat)(m:Nat->σ)(t:ε)(f:Nat->ε)(p:Nat->Bool)(h0:B (m n)=some (.inr t))(h:∀k,k<n->B (m k)=some (if p k=true then .inr (f k)else .inl (m (k+1)))):
  (ny B (m 0)=some t/\∀k,k<n->p k=false)\/∃k,k<n/\ny B (m 0)=some (f k)/\p k=true/\∀j,j<k->p j=false:=by
 have fB:∀d j,j+d=n->(ny B (m j)=some t/\∀k,j<=k->k<n->p k=false)\/∃k,k<n/\ny B (m j)=some (f k)/\p k=true/\∀i,j<=i->i<k->p i=false:=by
  intro d
  induction d with
  |zero=>
   intro j hj;have :j=n:=by omega
   subst this;exact .inl ⟨lO h0,λk a b=>by omega⟩
  |succ d ih=>
   intro j hj;have h1:=h j (by omega);cases hp:p j with
   |true=>rw[hp,if_pos rfl]at h1;exact .inr ⟨j,by omega,lO h1,hp,λi a b=>by omega⟩
   |false=>
    rw[hp,if_neg (by simp)]at h1;rw[sy h1];rcases ih (j+1) (by omega)with⟨k1,k2⟩| ⟨k,k0,k1,k2,k3⟩
    ·refine .inl ⟨k1,λk a b=>?_⟩;rcases Nat.eq_or_lt_of_le a with rfl|a
     ·exact hp
     ·exact k2 k a b
    ·refine .inr ⟨k,k0,k1,k2,λi a b=>?_⟩;rcases Nat.eq_or_lt_of_le a with rfl|a
     ·exact hp
     ·exact k3 i a b
 rcases fB n 0 (by omega)with⟨a,b⟩| ⟨k,a,b,c,d⟩
 ·exact .inl ⟨a,λk hk=>b k (bO _) hk⟩
 ·exact .inr ⟨k,a,b,c,λj hj=>d j (bO _) hj⟩
theorem Mu{σ1 ε1 σ2 ε2 β:Type}{B1:σ1->Option (σ1⊕ε1)}{B2:σ2->Option (σ2⊕ε2)}(n:Nat)(m1:Nat->β->σ1)(m2:Nat->β->σ2)(J:Nat->β->Prop)(E1:β->ε1)(E2:β->ε2)
  (h0:∀b,J n b->B1 (m1 n b)=some (.inr (E1 b))/\B2 (m2 n b)=some (.inr (E2 b)))
  (h1:∀k b,k<n->J k b->∃b',B1 (m1 k b)=some (.inl (m1 (k+1) b'))/\B2 (m2 k b)=some (.inl (m2 (k+1) b'))/\J (k+1) b')
  (b:β) (hb:J 0 b):∃b',J n b'/\ny B1 (m1 0 b)=some (E1 b')/\ny B2 (m2 0 b)=some (E2 b'):=by
 have go:∀ (d k:Nat) (b:β),k+d=n->J k b->∃b',J n b'/\ny B1 (m1 k b)=some (E1 b')/\ny B2 (m2 k b)=some (E2 b'):=by
  intro d
  induction d with
  |zero=>
   intro k b hk hj;have :k=n:=by omega
   subst this;exact⟨b,hj,lO (h0 b hj).1,lO (h0 b hj).2⟩
  |succ d ih=>intro k b hk hj;obtain⟨b',p1,p2,p3⟩:=h1 k b (by omega) hj;obtain⟨c,q1,q2,q3⟩:=ih (k+1) b' (by omega) p3;exact⟨c,q1,by rw[sy p1];exact q2,by rw[sy p2];exact q3⟩
 exact go n 0 b (by omega) hb
theorem SM{l:List Int}{p:Int->Bool}(h:∀x∈l,p x=true):l.filter p=l:=List.filter_eq_self.2 h
theorem XR(a b:List Int)(ha:a.length<=1000)(hb:b.length<=maxLen):Fk a b=some (a.filter λx=> !decide (x∈b),()):=by
 have hm:a.length<=maxLen:=by unfold maxLen;omega
 have hm':a.length<=9223372036854775807:=hm
 have has:∀x,G2 x b=some (decide (x∈b),()):=by intro x;unfold G2;rw[(EY b x hb).2];rfl
 have find:=NR (B:=Fc) a.length (λk=>((a,(b,()),(a.length:Int),(k:Int),()),(),())) (.inr (((),()),(),())) (λk=>.inl (((k:Int),()),(),())) (λk=>match a[k]? with |some x=>decide (x∈b)|none=>false)
  (by simp only[Fc];rw[Dl,if_neg (by omega)])
  (λk hk=>by
    have c1: (k:Int)<(a.length:Int):=by omega
    have c2: (0:Int)<=(k:Int):=by omega
    simp only[Fc,Dl,Cy,if_pos c1,if_pos c2,D4,aq hk,ao,has,Cb hm hk];by_cases hin:a[k] ∈b<;>simp[hin])
 unfold Fk FY;rcases find with⟨k1,k2⟩| ⟨i,hi,k1,k2,k3⟩
 ·rw[show Gn ((a,(b,()),(a.length:Int),0,()),(),())=_ from k1];simp only[ao,Ek,beq_self_eq_true,C3];rw[SM λx hx=>?_];obtain⟨k,hk,rfl⟩:=aU hx;have:=k2 k hk;rw[aq hk]at this;simpa using this
 ·rw[show Gn ((a,(b,()),(a.length:Int),0,()),(),())=_ from k1]
  have hne: ((i:Int)== -1)=false:=by simp only[beq_eq_false_iff_ne,ne_eq];omega
  simp only[ao,Eg,hne,Ce,Cb hm hi];rw[aq hi]at k2
  have loop:=C9 (B:=EW) (λs=>∃ (i j:Nat) (v:List Int),s=(((),(b,()),(i:Int),(j:Int),()),(),(v,()))/\i<=j/\j<=a.length/\v.length=a.length/\v.take i=(a.take j).filter (λx=> !decide (x∈b))/\v.drop j=a.drop j) (λs=>a.length-s.1.2.2.2.1.toNat)
   (λe=>∃ (i:Nat) (v:List Int),e=(((),(i:Int),()),(),(v,()))/\i<=a.length/\v.length=a.length/\v.take i=a.filter (λx=> !decide (x∈b)))
   (λs hs=>by
     obtain⟨i,j,v,rfl,hij,hj,hv,ht,hd⟩:=hs;by_cases hlt:j<a.length
     ·have c1: (j:Int)<(v.length:Int):=by omega
      have c2: (0:Int)<=(j:Int)/\(j:Int)<(v.length:Int):=by omega
      have c3: (0:Int)<=(i:Int)/\(i:Int)<(v.length:Int):=by omega
      have e1:v[j]?=some a[j] :=by have:=congrArg (λl:List Int=>l[0]?) hd;simpa [bh,aq hlt] using this
      have e2:v[i]?=some (v[i]'(by omega)):=aq _;have hta:a.take (j+1)=a.take j++ [a[j]] :=by rw[Ee,aq hlt];rfl
      have hdd:v.drop (j+1)=a.drop (j+1):=by have:=congrArg (List.drop 1) hd;simpa [cn,bX] using this
      left;simp only[EW,Dl,Cy,if_pos c1,if_pos c2,D4,e1,ao,has,if_pos c3,e2,Cb hm hlt,EE,Cb hm (show i<a.length by omega)];by_cases hin:a[j] ∈b
      ·rw[if_pos hin];refine⟨_,rfl,⟨i,j+1,v,rfl,by omega,by omega,hv,?_,hdd⟩,?_⟩
       ·rw[ht,hta,Eh];simp[hin]
       ·simp only[D4];omega
      ·rw[if_neg hin];refine⟨_,rfl,⟨i+1,j+1,v.set i a[j],rfl,by omega,by omega,by simp[hv],?_,?_⟩,?_⟩
       ·rw[yV _ (by omega),ht,hta,Eh];simp[hin]
       ·rw[List.drop_set_of_lt (by omega),hdd]
       ·simp only[D4];omega
     ·have :j=a.length:=by omega
      subst this;right;refine⟨_,by simp only[EW];rw[Dl,if_neg (by omega)],⟨i,v,rfl,hij,hv,?_⟩⟩;rw[ht,D9])
   (s:=(((),(b,()),(i:Int),((i+1:Nat):Int),()),(),(a,()))) ⟨i,i+1,a,rfl,by omega,by omega,rfl,by
     have hta:a.take (i+1)=a.take i++ [a[i]] :=by rw[Ee,aq hi];rfl
     rw[hta,Eh,SM (l:=a.take i) λx hx=>?_]
     ·simp only[decide_eq_true_eq]at k2;simp[k2]
     ·obtain⟨j,hj,rfl⟩:=aU hx;have hj':j<i:=by simp at hj;omega
      have:=k3 j hj';rw[aq (by omega)]at this;rw[Eu];simpa using this,rfl⟩
  obtain⟨e,h1,i',v,rfl,h2,h3,h4⟩:=loop;rw[show G7 (((),(b,()),(i:Int),((i+1:Nat):Int),()),(),(a,()))=_ from h1];have d1: (0:Int)<=(i':Int)/\(i':Int)<=(v.length:Int)/\(v.length:Int)<=((v.length:Nat):Int):=by omega
  have d2:i'+(v.length-i')<=v.length:=by omega
  have d3: (0:Int)<=0/\(0:Int)<=(i':Int)/\(i':Int)<=((v.length:Nat):Int):=by omega
  simp only[ao,D4,Ey,aP,Ep,Cy,if_pos d1,if_pos d2,if_pos d3];rw[if_pos ⟨trivial,by simp;omega⟩];rw[bk,List.take_append_of_le_length (by simp;omega),List.take_take,Nat.min_self,h4]
theorem W6(a b:List Int)(ha:Oe a)(hb:b.length<=maxLen):HZ a b=some (a.filter λx=> !decide (x∈b),()):=by have hl:=ha.len;unfold HZ;rw[Zl a ha,ao,XR a b (by omega) hb];rfl
theorem abC(a b:List Int)(ha:Oe a)(hb:b.length<=maxLen):Jo a b=some (a.filter λx=>decide (x∈b),()):=by
 have hl:=ha.len;unfold Jo;rw[W6 a b ha hb];simp only[ao]
 rw[W6 a (a.filter λx=> !decide (x∈b)) ha (by have:=Ez (λx=> !decide (x∈b)) a;unfold maxLen;omega)]
 simp only[ao]
 congr 2
 apply List.filter_congr;intro x hx;simp[Et,hx]
theorem HS(c:nG)(h:Gu maxLen c):DF (EH c) (G4 c):=by
 unfold EH G4;simp only[FB,Kb,ao];cases HC c.epoch 1 20 with
 |false=>exact⟨_,rfl,rfl⟩
 |true=>
  rcases Pe c.replicas h.1 with⟨a1,a2,a3⟩| ⟨a1,a2⟩
  ·rcases Pe c.witnesses h.2 with⟨b1,b2,b3⟩| ⟨b1,b2⟩
   ·simp only[a1,a2,b1,b2,ao,C3,(EY c.replicas c.primary h.1).1,(EY c.replicas c.primary h.1).2,R8 _ _ a3 h.2,abC _ _ a3 h.2];cases decide (c.primary∈c.replicas)<;>exact⟨_,rfl,rfl⟩
   ·simp only[a1,a2,b1,b2,ao,C3,Ce];exact⟨_,rfl,rfl⟩
  ·simp only[a1,a2,ao,C3,Ce];exact⟨_,rfl,rfl⟩
end
section
theorem Nv(l:List Int)(hl:l.length<=maxLen):DF (HD l) (KO l):=by
 have fB:=Da (B1:=J5) (B2:=Fv) l.length (λk=>((l,(k:Int),()),(),())) (λk=>((l,(),(l.length:Int),(k:Int),()),(),())) (.inr ((l,(),()),(),())) (.inr (((),()),(),())) (λ_=>.inl ((l,false,()),(),())) (λk=>.inl (((k:Int),()),(),()))
  (λ_=>True) (λ_=>True)
  (by simp only[J5];rw[Dl,if_neg (by omega)])
  (by simp only[Fv];rw[Dl,if_neg (by omega)])
  (λk hk=>by
    have c1: (k:Int)<(l.length:Int):=by omega
    have c2: (0:Int)<=(k:Int):=by omega
    simp only[J5,Fv,Dl,Cy,if_pos c1,if_pos c2,D4,aq hk,ao,Mm,FB,Kb,Cb hl hk];cases HC l[k] 0 3 with
    |false=>exact .inr ⟨rfl,rfl,trivial⟩
    |true=>exact .inl ⟨rfl,rfl,trivial⟩)
 unfold HD KO F7 GA;rcases fB with⟨k1,k2,_⟩| ⟨k,_,k1,k2,_⟩
 ·rw[show Pr ((l,0,()),(),())=_ from k1,show Hb ((l,(),(l.length:Int),0,()),(),())=_ from k2];simp only[ao,Ek];cases ((l.length:Int)==5)<;>exact⟨_,rfl,rfl⟩
 ·rw[show Pr ((l,0,()),(),())=_ from k1,show Hb ((l,(),(l.length:Int),0,()),(),())=_ from k2];simp only[ao,Eg];rw[decide_eq_true (by omega)];cases ((l.length:Int)==5)<;>exact⟨_,rfl,rfl⟩
theorem masterLog(m:jZ)(h:Md maxLen m):∃b,EU m=some (b,())/\HM m=some (b,()):=by
 obtain⟨hl,hc⟩:=h
 have fB:=Da (B1:=FF) (B2:=Ia) m.configs.length (λk=>(((),(k:Int),()),((m.configs,m.activated,()),()),())) (λk=>(((),m.configs,(m.configs.length:Int),(k:Int),()),((m.configs,m.activated,()),()),())) (.inr (((),(),()),((m.configs,m.activated,()),()),())) (.inr (((),(),()),((m.configs,m.activated,()),()),())) (λ_=>.inl (((),false,()),((m.configs,m.activated,()),()),())) (λ_=>.inl (((),false,()),((m.configs,m.activated,()),()),()))
  (λ_=>True) (λ_=>True)
  (by simp only[FF];rw[Dl,if_neg (by omega)])
  (by simp only[Ia];rw[Dl,if_neg (by omega)])
  (λk hk=>by
    have c1: (k:Int)<(m.configs.length:Int):=by omega
    have c2: (0:Int)<=(k:Int):=by omega
    obtain⟨b,v1,v2⟩:=HS m.configs[k] (hc _ (D6 hk));simp only[FF,Ia,Dl,Cy,if_pos c1,if_pos c2,D4,aq hk,ao,v1,v2,Cb hl hk,EE];cases b with
    |false=>exact .inr ⟨rfl,rfl,trivial⟩
    |true=>
     cases (m.configs[k].epoch==((k+1:Nat):Int))with
     |false=>exact .inr ⟨rfl,rfl,trivial⟩
     |true=>exact .inl ⟨rfl,rfl,trivial⟩)
 unfold EU HM;rcases fB with⟨k1,k2,_⟩| ⟨k,_,k1,k2,_⟩
 ·rw[show Jx (((),0,()),((m.configs,m.activated,()),()),())=_ from k1,show MT (((),m.configs,(m.configs.length:Int),0,()),((m.configs,m.activated,()),()),())=_ from k2];simp only[ao,Ek,FB,Kb];exact⟨_,rfl,rfl⟩
 ·rw[show Jx (((),0,()),((m.configs,m.activated,()),()),())=_ from k1,show MT (((),m.configs,(m.configs.length:Int),0,()),((m.configs,m.activated,()),()),())=_ from k2];exact⟨_,rfl,rfl⟩
theorem Pm(x:uN):DF (Hk x) (Hx x):=by unfold Hk Hx;simp only[FB,Kb,ao];cases ((x.epoch==0)&&((x.holder==0)&&((x.ends==0)&&true)))<;>cases HC x.epoch 1 20<;>cases HC x.holder 0 4<;>exact⟨_,rfl,rfl⟩
theorem Nr(l:List uQ)(hl:l.length<=maxLen):DF (FG l) (KY l):=by
 have fB:=Da (B1:=IC) (B2:=Fi) l.length (λk=>((l,(k:Int),()),(),())) (λk=>((l,(),(l.length:Int),(k:Int),()),(),())) (.inr ((l,(),()),(),())) (.inr (((),()),(),())) (λ_=>.inl ((l,false,()),(),())) (λk=>.inl (((k:Int),()),(),()))
  (λ_=>True) (λ_=>True)
  (by simp only[IC];rw[Dl,if_neg (by omega)])
  (by simp only[Fi];rw[Dl,if_neg (by omega)])
  (λk hk=>by
    have c1: (k:Int)<(l.length:Int):=by omega
    have c2: (0:Int)<=(k:Int):=by omega
    simp only[IC,Fi,Dl,Cy,if_pos c1,if_pos c2,D4,aq hk,ao,La,FB,Kb,Cb hl hk];cases HC l[k].rack 0 9 with
    |false=>exact .inr ⟨rfl,rfl,trivial⟩
    |true=>
     cases HC l[k].capacity 0 9 with
     |false=>exact .inr ⟨rfl,rfl,trivial⟩
     |true=>
      cases HC l[k].load 0 99 with
      |false=>exact .inr ⟨rfl,rfl,trivial⟩
      |true=>exact .inl ⟨rfl,rfl,trivial⟩)
 unfold FG KY FV F8;rcases fB with⟨k1,k2,_⟩| ⟨k,_,k1,k2,_⟩
 ·rw[show OA ((l,0,()),(),())=_ from k1,show GO ((l,(),(l.length:Int),0,()),(),())=_ from k2];simp only[ao,Ek];cases ((l.length:Int)==5)<;>exact⟨_,rfl,rfl⟩
 ·rw[show OA ((l,0,()),(),())=_ from k1,show GO ((l,(),(l.length:Int),0,()),(),())=_ from k2];simp only[ao,Eg];rw[decide_eq_true (by omega)];cases ((l.length:Int)==5)<;>exact⟨_,rfl,rfl⟩
theorem Zh(x:Op):DF (FI x) (KZ x):=by unfold FI KZ;simp only[FB,Kb,ao];cases HC x.client 0 2<;>cases HC x.seq 1 99<;>cases HC x.object 0 2<;>cases HC x.value 0 9<;>cases (x.kind==1)<;>cases (x.kind==2)<;>cases (x.old==0)<;>exact⟨_,rfl,rfl⟩
theorem isLog(l:List rp)(hl:l.length<=maxLen): (FE l=some (true,())/\Jg l=some (true,())/\l.length<=16)\/(FE l=some (false,())/\Jg l=some (false,())):=by
 have fB:=Da (B1:=J6) (B2:=Ns) l.length (λk=>((l,(k:Int),()),(),())) (λk=>((l,l,(l.length:Int),(k:Int),()),(),())) (.inr ((l,(),()),(),())) (.inr ((l,(),()),(),())) (λ_=>.inl ((l,false,()),(),())) (λ_=>.inl ((l,false,()),(),()))
  (λ_=>True) (λ_=>True)
  (by simp only[J6];rw[Dl,if_neg (by omega)])
  (by simp only[Ns];rw[Dl,if_neg (by omega)])
  (λk hk=>by
    have c1: (k:Int)<(l.length:Int):=by omega
    have c2: (0:Int)<=(k:Int):=by omega
    obtain⟨b,v1,v2⟩:=Zh l[k].op;simp only[J6,Ns,Dl,Cy,if_pos c1,if_pos c2,D4,aq hk,ao,v1,v2,FB,Kb,Cb hl hk,EE];cases HC l[k].epoch 1 20 with
    |false=>exact .inr ⟨rfl,rfl,trivial⟩
    |true=>
     simp only[C3];by_cases h0:0<k
     ·have c3: (k:Int)>0:=by omega
      have c4: (0:Int)<=((k-1:Nat):Int):=by omega
      have e2:l[k-1]?=some l[k-1] :=aq (by omega);simp only[if_pos c3,B9 h0 (by omega),if_pos c4,D4,e2,ao];by_cases hlt:l[k].epoch<l[k-1].epoch
      ·rw[if_pos hlt,if_pos (show l[k-1].epoch>l[k].epoch from hlt)];cases b<;>exact .inr ⟨rfl,rfl,trivial⟩
      ·rw[if_neg hlt,if_neg (show ¬l[k-1].epoch>l[k].epoch from hlt)];cases b with
       |false=>exact .inr ⟨rfl,rfl,trivial⟩
       |true=>exact .inl ⟨rfl,rfl,trivial⟩
     ·have c3: ¬ (k:Int)>0:=by omega
      simp only[if_neg c3];cases b with
      |false=>exact .inr ⟨rfl,rfl,trivial⟩
      |true=>exact .inl ⟨rfl,rfl,trivial⟩)
 unfold FE Jg;rcases fB with⟨k1,k2,_⟩| ⟨k,_,k1,k2,_⟩
 ·rw[show OZ ((l,0,()),(),())=_ from k1,show So ((l,l,(l.length:Int),0,()),(),())=_ from k2];simp only[ao,Ek];by_cases h: (l.length:Int)<=16
  ·rw[decide_eq_true h];exact .inl ⟨rfl,rfl,by omega⟩
  ·rw[decide_eq_false h];exact .inr ⟨rfl,rfl⟩
 ·rw[show OZ ((l,0,()),(),())=_ from k1,show So ((l,l,(l.length:Int),0,()),(),())=_ from k2];exact .inr ⟨rfl,rfl⟩
theorem Nc(a b:List Int)(ha:a.length<=maxLen):I3 a b=some (decide (a=b),())/\IZ a b=some (decide (a=b),()):=by
 unfold I3 IZ Jk;by_cases hlen:a.length=b.length
 ·have hbe: (!((a.length:Int)==(b.length:Int)))=false:=by simp[hlen]
  have fB:=Da (B1:=HT) (B2:=H0) a.length (λk=>((a,b,(k:Int),()),(),())) (λk=>((a,b,(a.length:Int),(k:Int),()),(),())) (.inr (((),()),(),())) (.inr (((),()),(),())) (λ_=>.inl ((false,()),(),())) (λ_=>.inl ((false,()),(),()))
   (λk=>a[k]?=b[k]?) (λk=>a[k]? ≠b[k]?)
   (by simp only[HT];rw[Dl,if_neg (by omega)])
   (by simp only[H0];rw[Dl,if_neg (by omega)])
   (λk hk=>by
     have c1: (k:Int)<(a.length:Int):=by omega
     have c2: (0:Int)<=(k:Int):=by omega
     simp only[HT,H0,Dl,Cy,if_pos c1,if_pos c2,D4,aq hk,aq (show k<b.length by omega),ao,Cb ha hk,EE,Gw];by_cases he:a[k]=b[k]'(by omega)
     ·simp only[if_pos he];exact .inl ⟨trivial,trivial,by rw[he]⟩
     ·simp only[if_neg he];exact .inr ⟨trivial,trivial,λh=>he (Option.some.inj h)⟩)
  rw[hbe,Ce,Ce];rcases fB with⟨k1,k2,k3⟩| ⟨k,hk,k1,k2,k3⟩
  ·rw[show L9 ((a,b,0,()),(),())=_ from k1,show NW ((a,b,(a.length:Int),0,()),(),())=_ from k2]
   have :a=b:=bA λk=>by
    rcases cZ k a.length with h|h
    ·exact k3 k h
    ·rw[cx h,cx (by omega)]
   rw[decide_eq_true this];exact⟨rfl,rfl⟩
  ·rw[show L9 ((a,b,0,()),(),())=_ from k1,show NW ((a,b,(a.length:Int),0,()),(),())=_ from k2];have :a≠b:=λh=>k3 (by rw[h]);rw[decide_eq_false this];exact⟨rfl,rfl⟩
 ·have hbe: (!((a.length:Int)==(b.length:Int)))=true:=by
   simp only[bE,beq_eq_false_iff_ne,ne_eq];omega
  rw[hbe,C3,C3,decide_eq_false (λh=>hlen (by rw[h]))];exact⟨rfl,rfl⟩
theorem GJ(a b:nG)(ha:Gu maxLen a):GX a b=some (decide (a=b),())/\GF a b=some (decide (a=b),()):=by unfold GX GF;simp only[(Nc a.replicas b.replicas ha.1).1,(Nc a.replicas b.replicas ha.1).2,(Nc a.witnesses b.witnesses ha.2).1,(Nc a.witnesses b.witnesses ha.2).2,ao,Gw,Dl];obtain⟨a1,a2,a3,a4⟩:=a;obtain⟨b1,b2,b3,b4⟩:=b;simp only[nG.mk.injEq];by_cases h1:a1=b1<;>by_cases h2:a2=b2<;>by_cases h3:a3=b3<;>by_cases h4:a4=b4<;>simp[h1,h2,h3,h4]
theorem Io(l:List rp)(hl:l.length<=maxLen):∃n,Ik l=some (n,())/\JO l=some (n,()):=by
 unfold Ik JO;rcases bo l.length with h|h
 ·have : ((l.length:Int)==0)=true:=by simp[h]
  rw[this];exact⟨_,rfl,rfl⟩
 ·have : ((l.length:Int)==0)=false:=by
   simp only[beq_eq_false_iff_ne,ne_eq];omega
  rw[this,Ce,B9 h hl,CA (by omega),D4,aq (show l.length-1<l.length by omega)];exact⟨_,rfl,rfl⟩
theorem Od(c:nG)(x:Int)(h:Gu maxLen c):∃n,Fm c x=some (n,())/\I0 c x=some (n,())/\(n=0\/n=1\/n=2\/n=3):=by unfold Fm I0;obtain⟨b,v1,v2⟩:=HS c h;simp only[v1,v2,ao,(EY c.replicas x h.1).1,(EY c.replicas x h.1).2,(EY c.witnesses x h.2).1,(EY c.witnesses x h.2).2];cases b<;>cases (x==c.primary)<;>cases decide (x∈c.replicas)<;>cases decide (x∈c.witnesses)<;>exact⟨_,rfl,rfl,by decide⟩
end
section
theorem EK{c:nG}(h:Gu 1048576 c):Gu maxLen c:=⟨EO h.1,EO h.2⟩
theorem Gp{m:jZ}(h:Md 1048576 m):Md maxLen m:=⟨EO h.1,λc hc=>EK (h.2 c hc)⟩
theorem Kd(c:nG)(h:Gu maxLen c):JD c=some (decide (c=⟨0,0,[],[]⟩),()):=by unfold JD;rw[(GJ c _ h).1];rfl
theorem MR(s:qk)(id:Int)(h:Fs 1048576 s):DF (EG s id) (Ih s id):=by
 have hc:=EK h.1;unfold EG Ih;simp only[FB,Kb,ao,EE];cases HC s.version 1 2 with
 |false=>exact⟨_,rfl,rfl⟩
 |true=>
 cases HC s.epoch 0 20 with
 |false=>exact⟨_,rfl,rfl⟩
 |true=>
 rcases isLog s.log (EO h.2.1)with⟨a1,a2,a3⟩| ⟨a1,a2⟩
 case inr=>simp only[a1,a2,ao,C3,Ce];exact⟨_,rfl,rfl⟩
 rcases isLog s.learned (EO h.2.2)with⟨b1,b2,b3⟩| ⟨b1,b2⟩
 case inr=>simp only[a1,a2,b1,b2,ao,C3,Ce];exact⟨_,rfl,rfl⟩
 simp only[a1,a2,b1,b2,ao,C3];cases hw:HC s.first 0 16 with
 |false=>exact⟨_,rfl,rfl⟩
 |true=>
 have hf:=EI.1 hw;rw[vP (n:=s.first+(s.log.length:Int)) (by omega) (by omega)];by_cases h16:s.first+(s.log.length:Int)<=16
 case neg=>
  have e1:HC (s.first+(s.log.length:Int)) 0 16=false:=by unfold HC;simp;omega
  simp only[e1,C3,Ce,Dl,if_pos (show s.first+(s.log.length:Int)>16 by omega)];exact⟨_,rfl,rfl⟩
 have e1:HC (s.first+(s.log.length:Int)) 0 16=true:=EI.2 ⟨by omega,h16⟩;simp only[e1,C3,Dl,if_neg (show ¬s.first+(s.log.length:Int)>16 by omega),Kd s.config hc,(GJ s.config ⟨0,0,[],[]⟩ hc).2,ao];cases HC s.commit 0 (s.first+(s.log.length:Int))with
 |false=>exact⟨_,rfl,rfl⟩
 |true=>
 simp only[C3];by_cases hz:s.config=⟨0,0,[],[]⟩
 ·simp only[if_pos hz];cases (s.first==0)<;>cases (s.commit==0)<;>cases ((s.log.length:Int)==0)<;>exact⟨_,rfl,rfl⟩
 ·simp only[if_neg hz];cases s.intact with
  |false=>exact⟨_,rfl,rfl⟩
  |true=>
  simp only[C3];by_cases he:s.epoch<s.config.epoch
  ·simp only[if_pos he];exact⟨_,rfl,rfl⟩
  ·simp only[if_neg he];obtain⟨n,n1,n2⟩:=Io s.log (EO h.2.1);simp only[n1,n2,ao];by_cases hn:n>s.config.epoch
   ·simp only[if_pos hn];exact⟨_,rfl,rfl⟩
   ·simp only[if_neg hn];obtain⟨r,r1,r2,r3⟩:=Od s.config id hc;simp only[r1,r2,ao];rcases r3 with rfl|rfl|rfl|rfl
    ·exact⟨_,rfl,rfl⟩
    ·exact⟨_,rfl,rfl⟩
    ·exact⟨_,rfl,rfl⟩
    ·have ht:Nz s.first s.log=some (decide ((s.log.length:Int)<=3)&&((s.first==0)||((s.log.length:Int)==3)),()):=by
      unfold Nz;simp only[a2,Kb,ao,C3,Dl];rw[vP (by omega) (by omega),show HC s.first 0 (16-(s.log.length:Int))=true from EI.2 ⟨by omega,by omega⟩];by_cases h3: (s.log.length:Int)<=3
      ·rw[if_pos h3,decide_eq_true h3];cases (s.first==0)<;>cases ((s.log.length:Int)==3)<;>rfl
      ·rw[if_neg h3,decide_eq_false h3];rfl
     rw[ht];by_cases h3: (s.log.length:Int)<=3
     ·rw[if_pos h3,decide_eq_true h3];cases (s.first==0)<;>cases ((s.log.length:Int)==3)<;>exact⟨_,rfl,rfl⟩
     ·rw[if_neg h3,decide_eq_false h3];exact⟨_,rfl,rfl⟩
theorem Mx(m:jZ)(e:Int)(h:Md 1048576 m):∃c b,FR m e=some (c,b,())/\Jf m e=some (c,b,())/\Gu maxLen c:=by
 obtain⟨b,m1,m2⟩:=masterLog m (Gp h);have zero:Gu maxLen ⟨0,0,[],[]⟩:=⟨bO _,bO _⟩
 have hl:=h.1;unfold FR Jf;simp only[m1,m2,FB,Kb,ao,EE];cases b with
 |false=>exact⟨_,_,rfl,rfl,zero⟩
 |true=>
  cases hw:HC e 1 (m.configs.length:Int)with
  |false=>exact⟨_,_,rfl,rfl,zero⟩
  |true=>
   have hw:=EI.1 hw;simp only[C3];rw[vP (n:=e-1) (by omega) (by omega)];have hlt: (e-1).toNat<m.configs.length:=by omega
   have hk:=h.2 _ (D6 hlt)
   have copy:∀c:nG,Gu 1048576 c->H3 c=some (c,())/\Gh c=some (c,()):=by intro c hc;unfold H3 Gh;simp only[bG];rw[CA (Jm hc.1),CA (Jm hc.2)];exact⟨rfl,rfl⟩
   rw[CA (by omega),CA (by omega),aq hlt];simp only[ao,(copy _ hk).1,(copy _ hk).2];exact⟨_,_,rfl,rfl,EK hk⟩
theorem Fx(x:qh)(h:EP 1048576 x):DF (ED x) (Gg x):=by
 obtain⟨⟨hs1,hs2⟩,hsd,hml,hpl⟩:=h;have hm:=EO hs1
 have fB:=Da (B1:=EL) (B2:=Hf) x.servers.length (λk=>(((),(k:Int),()),((x.now,x.servers,x.sides,x.master.configs,x.master.activated,x.masterUp,x.lease.epoch,x.lease.holder,x.lease.ends,x.places,()),()),())) (λk=>(((),x.servers,(x.servers.length:Int),(k:Int),()),((x.now,x.servers,x.sides,x.master.configs,x.master.activated,x.masterUp,x.lease.epoch,x.lease.holder,x.lease.ends,x.places,()),()),())) (.inr (((),()),(),())) (.inr (((),()),(),())) (λ_=>.inl ((false,()),(),())) (λ_=>.inl ((false,()),(),()))
  (λ_=>True) (λ_=>True)
  (by simp only[EL];rw[Dl,if_neg (by omega)])
  (by simp only[Hf];rw[Dl,if_neg (by omega)])
  (λk hk=>by
    have c1: (k:Int)<(x.servers.length:Int):=by omega
    have c2: (0:Int)<=(k:Int):=by omega
    have hsk:=hs2 _ (D6 hk);obtain⟨b,v1,v2⟩:=MR x.servers[k] (k:Int) hsk;obtain⟨n,n1,n2⟩:=Io x.servers[k].learned (EO hsk.2.2);obtain⟨c,d,d1,d2,d3⟩:=Mx x.master x.servers[k].config.epoch hml;have hcfg:=EK hsk.1
    simp only[EL,Hf,Dl,Cy,if_pos c1,if_pos c2,D4,aq hk,ao,v1,v2,n1,n2,Cb hm hk,EE,
     show (⟨x.master.configs,x.master.activated⟩:jZ)=x.master from rfl,d1,d2,Kd _ hcfg,(GJ _ (⟨0,0,[],[]⟩:nG) hcfg).2,(GJ c x.servers[k].config d3).1,(GJ c x.servers[k].config d3).2]
    cases b with
    |false=>exact .inr ⟨rfl,rfl,trivial⟩
    |true=>
     simp only[C3];by_cases h1:x.servers[k].epoch>(x.master.configs.length:Int)
     ·simp only[if_pos h1];exact .inr ⟨trivial,trivial,trivial⟩
     ·simp only[if_neg h1];by_cases h2:n>x.master.activated
      ·simp only[if_pos h2];exact .inr ⟨trivial,trivial,trivial⟩
      ·simp only[if_neg h2];by_cases h3:x.servers[k].config=⟨0,0,[],[]⟩
       ·simp only[if_pos h3];exact .inl ⟨trivial,trivial,trivial⟩
       ·simp only[if_neg h3];cases d with
        |false=>exact .inr ⟨rfl,rfl,trivial⟩
        |true=>
         simp only[C3];by_cases h4:c=x.servers[k].config
         ·simp only[if_pos h4];by_cases h5:x.servers[k].config.epoch>x.master.activated
          ·simp only[if_pos h5];exact .inr ⟨trivial,trivial,trivial⟩
          ·simp only[if_neg h5];exact .inl ⟨trivial,trivial,trivial⟩
         ·simp only[if_neg h4];exact .inr ⟨trivial,trivial,trivial⟩)
 unfold ED Gg;obtain⟨b1,a1,a2⟩:=Nv x.sides (EO hsd);obtain⟨b2,m1,m2⟩:=masterLog x.master (Gp hml);obtain⟨b3,l1,l2⟩:=Pm x.lease;obtain⟨b4,p1,p2⟩:=Nr x.places (EO hpl);simp only[FB,Kb,a1,a2,m1,m2,l1,l2,p1,p2,ao,EE,Dl];cases HC x.now 0 999 with
 |false=>exact⟨_,rfl,rfl⟩
 |true=>
 cases ((x.servers.length:Int)==5)with
 |false=>exact⟨_,rfl,rfl⟩
 |true=>
 cases b1 with
 |false=>exact⟨_,rfl,rfl⟩
 |true=>
 cases b2 with
 |false=>exact⟨_,rfl,rfl⟩
 |true=>
 cases HC x.masterUp 0 3 with
 |false=>cases b3<;>cases b4<;>exact⟨_,rfl,rfl⟩
 |true=>
 cases b3 with
 |false=>exact⟨_,rfl,rfl⟩
 |true=>
 cases b4 with
 |false=>exact⟨_,rfl,rfl⟩
 |true=>
 simp only[C3];by_cases h1:x.lease.epoch>x.master.activated
 ·simp only[if_pos h1];exact⟨_,rfl,rfl⟩
 ·simp only[if_neg h1];rcases fB with⟨k1,k2,_⟩| ⟨k,_,k1,k2,_⟩
  ·rw[show Hl (((),0,()),((x.now,x.servers,x.sides,x.master.configs,x.master.activated,x.masterUp,x.lease.epoch,x.lease.holder,x.lease.ends,x.places,()),()),())=_ from k1,show KR (((),x.servers,(x.servers.length:Int),0,()),((x.now,x.servers,x.sides,x.master.configs,x.master.activated,x.masterUp,x.lease.epoch,x.lease.holder,x.lease.ends,x.places,()),()),())=_ from k2];exact⟨_,rfl,rfl⟩
  ·rw[show Hl (((),0,()),((x.now,x.servers,x.sides,x.master.configs,x.master.activated,x.masterUp,x.lease.epoch,x.lease.holder,x.lease.ends,x.places,()),()),())=_ from k1,show KR (((),x.servers,(x.servers.length:Int),0,()),((x.now,x.servers,x.sides,x.master.configs,x.master.activated,x.masterUp,x.lease.epoch,x.lease.holder,x.lease.ends,x.places,()),()),())=_ from k2];exact⟨_,rfl,rfl⟩
end
section
theorem Gq{c:nG}(h:Gu maxLen c)(hv:EH c=some (true,())):Oe c.replicas/\Oe c.witnesses/\c.primary∈c.replicas/\1<=c.epoch/\c.epoch<=20/\∀x∈c.replicas,x∉c.witnesses:=by
 unfold EH at hv;simp only[FB,ao]at hv;cases hw:HC c.epoch 1 20 with
 |false=>rw[hw]at hv;cases hv
 |true=>
  rw[hw]at hv;rcases Pe c.replicas h.1 with⟨a1,a2,a3⟩| ⟨a1,a2⟩
  ·rcases Pe c.witnesses h.2 with⟨b1,b2,b3⟩| ⟨b1,b2⟩
   ·simp only[a1,b1,ao,C3,(EY c.replicas c.primary h.1).1,R8 _ _ a3 h.2,Dl]at hv;by_cases hp:c.primary∈c.replicas
    ·rw[if_pos hp]at hv;refine⟨a3,b3,hp,(EI.1 hw).1,(EI.1 hw).2,λx hx hxw=>?_⟩
     have hz: ((((c.replicas.filter λx=>decide (x∈c.witnesses)).length:Nat):Int)==0)=true:=by simpa using hv
     have hz: (c.replicas.filter λx=>decide (x∈c.witnesses)).length=0:=by simp only[beq_iff_eq]at hz;omega
     have:=bc hz;have hm:x∈c.replicas.filter λx=>decide (x∈c.witnesses):=by simp[Et,hx,hxw]
     rw[this]at hm;cases hm
    ·rw[if_neg hp]at hv;cases hv
   ·simp only[a1,b1,ao,C3,Ce]at hv;cases hv
  ·simp only[a1,ao,C3,Ce]at hv;cases hv
theorem Np{m:jZ}(h:Md maxLen m)(hv:EU m=some (true,())): (∀k (hk:k<m.configs.length),EH m.configs[k]=some (true,())/\m.configs[k].epoch=(k:Int)+1)/\0<=m.activated/\m.activated<=(m.configs.length:Int):=by
 obtain⟨hl,hc⟩:=h
 have fB:=Da (B1:=FF) (B2:=FF) m.configs.length (λk=>(((),(k:Int),()),((m.configs,m.activated,()),()),())) (λk=>(((),(k:Int),()),((m.configs,m.activated,()),()),())) (.inr (((),(),()),((m.configs,m.activated,()),()),())) (.inr (((),(),()),((m.configs,m.activated,()),()),())) (λ_=>.inl (((),false,()),((m.configs,m.activated,()),()),())) (λ_=>.inl (((),false,()),((m.configs,m.activated,()),()),()))
  (λk=>∀hk:k<m.configs.length,EH m.configs[k]=some (true,())/\m.configs[k].epoch=(k:Int)+1) (λ_=>True)
  (by simp only[FF];rw[Dl,if_neg (by omega)])
  (by simp only[FF];rw[Dl,if_neg (by omega)])
  (λk hk=>by
    have c1: (k:Int)<(m.configs.length:Int):=by omega
    have c2: (0:Int)<=(k:Int):=by omega
    obtain⟨b,v1,v2⟩:=HS m.configs[k] (hc _ (D6 hk))
    have step:FF (((),(k:Int),()),((m.configs,m.activated,()),()),())=br b (br (m.configs[k].epoch==((k+1:Nat):Int)) (some (.inl (((),((k+1:Nat):Int),()),((m.configs,m.activated,()),()),()))) (some (.inr (.inl (((),false,()),((m.configs,m.activated,()),()),()))))) (some (.inr (.inl (((),false,()),((m.configs,m.activated,()),()),())))):=by simp only[FF,Dl,Cy,if_pos c1,if_pos c2,D4,aq hk,ao,v1,Cb hl hk,EE]
    rw[step];cases b with
    |false=>exact .inr ⟨rfl,rfl,trivial⟩
    |true=>
     rw[C3,Gw];by_cases he:m.configs[k].epoch=((k+1:Nat):Int)
     ·rw[if_pos he];exact .inl ⟨rfl,rfl,λ_=>⟨v1,by omega⟩⟩
     ·rw[if_neg he];exact .inr ⟨rfl,rfl,trivial⟩)
 unfold EU at hv;rcases fB with⟨k1,_,k3⟩| ⟨k,_,k1,_,_⟩
 ·rw[show Jx (((),0,()),((m.configs,m.activated,()),()),())=_ from k1]at hv;simp only[ao,Ek,FB,af,au,and_true]at hv;exact⟨λk hk=>k3 k hk hk,(EI.1 hv).1,(EI.1 hv).2⟩
 ·rw[show Jx (((),0,()),((m.configs,m.activated,()),()),())=_ from k1]at hv;cases hv
theorem H8{s:qk}{id:Int}(h:Fs 1048576 s)(hv:EG s id=some (true,())):0<=s.first/\s.first<=16/\s.log.length<=16/\0<=s.commit/\s.commit<=s.first+(s.log.length:Int)/\FE s.log=some (true,())/\FE s.learned=some (true,())/\0<=s.epoch/\s.epoch<=20:=by
 unfold EG at hv;simp only[FB,ao,EE]at hv;cases h1:HC s.version 1 2 with
 |false=>rw[h1]at hv;cases hv
 |true=>
 cases h2:HC s.epoch 0 20 with
 |false=>rw[h1,h2]at hv;cases hv
 |true=>
 rw[h1,h2]at hv;rcases isLog s.log (EO h.2.1)with⟨a1,a2,a3⟩| ⟨a1,a2⟩
 case inr=>simp only[a1,ao,C3,Ce]at hv;cases hv
 rcases isLog s.learned (EO h.2.2)with⟨b1,b2,b3⟩| ⟨b1,b2⟩
 case inr=>simp only[a1,b1,ao,C3,Ce]at hv;cases hv
 simp only[a1,b1,ao,C3]at hv;cases hw:HC s.first 0 16 with
 |false=>rw[hw]at hv;cases hv
 |true=>
 have hf:=EI.1 hw;rw[hw,vP (n:=s.first+(s.log.length:Int)) (by omega) (by omega)]at hv;simp only[C3]at hv;cases h3:HC (s.first+(s.log.length:Int)) 0 16 with
 |false=>rw[h3]at hv;cases hv
 |true=>
 cases h4:HC s.commit 0 (s.first+(s.log.length:Int))with
 |false=>rw[h3,h4]at hv;cases hv
 |true=>
 exact⟨hf.1,hf.2,a3,(EI.1 h4).1,(EI.1 h4).2,a1,b1,(EI.1 h2).1,(EI.1 h2).2⟩
structure VC (x:qh):Prop where
 len:x.servers.length=5
 ml:EU x.master=some (true,())
 sides:HD x.sides=some (true,())
 places:FG x.places=some (true,())
 lease:Hk x.lease=some (true,())
 now:0<=x.now/\x.now<=999
 up:0<=x.masterUp/\x.masterUp<=3
 srv:∀k (hk:k<x.servers.length),EG x.servers[k] (k:Int)=some (true,())
theorem EZ{x:qh}(h:EP 1048576 x)(hv:ED x=some (true,())):VC x:=by
 obtain⟨⟨hs1,hs2⟩,hsd,hml,hpl⟩:=h;have hm:=EO hs1
 have fB:=Da (B1:=EL) (B2:=EL) x.servers.length (λk=>(((),(k:Int),()),((x.now,x.servers,x.sides,x.master.configs,x.master.activated,x.masterUp,x.lease.epoch,x.lease.holder,x.lease.ends,x.places,()),()),())) (λk=>(((),(k:Int),()),((x.now,x.servers,x.sides,x.master.configs,x.master.activated,x.masterUp,x.lease.epoch,x.lease.holder,x.lease.ends,x.places,()),()),())) (.inr (((),()),(),())) (.inr (((),()),(),())) (λ_=>.inl ((false,()),(),())) (λ_=>.inl ((false,()),(),()))
  (λk=>∀hk:k<x.servers.length,EG x.servers[k] (k:Int)=some (true,())) (λ_=>True)
  (by simp only[EL];rw[Dl,if_neg (by omega)])
  (by simp only[EL];rw[Dl,if_neg (by omega)])
  (λk hk=>by
    have c1: (k:Int)<(x.servers.length:Int):=by omega
    have c2: (0:Int)<=(k:Int):=by omega
    have hsk:=hs2 _ (D6 hk);obtain⟨b,v1,v2⟩:=MR x.servers[k] (k:Int) hsk;obtain⟨n,n1,n2⟩:=Io x.servers[k].learned (EO hsk.2.2);obtain⟨c,d,d1,d2,d3⟩:=Mx x.master x.servers[k].config.epoch hml;have hcfg:=EK hsk.1
    have step:EL (((),(k:Int),()),((x.now,x.servers,x.sides,x.master.configs,x.master.activated,x.masterUp,x.lease.epoch,x.lease.holder,x.lease.ends,x.places,()),()),())=some (.inr (.inl ((false,()),(),())))\/(b=true/\EL (((),(k:Int),()),((x.now,x.servers,x.sides,x.master.configs,x.master.activated,x.masterUp,x.lease.epoch,x.lease.holder,x.lease.ends,x.places,()),()),())=some (.inl (((),((k+1:Nat):Int),()),((x.now,x.servers,x.sides,x.master.configs,x.master.activated,x.masterUp,x.lease.epoch,x.lease.holder,x.lease.ends,x.places,()),()),()))):=by
     simp only[EL,Dl,Cy,if_pos c1,if_pos c2,D4,aq hk,ao,v1,n1,Cb hm hk,EE,
      show (⟨x.master.configs,x.master.activated⟩:jZ)=x.master from rfl,d1,Kd _ hcfg,(GJ c x.servers[k].config d3).1]
     cases b with
     |false=>exact .inl rfl
     |true=>
      simp only[C3]
      repeat' split
      all_goals first |exact .inl trivial|exact .inr ⟨trivial,trivial⟩| (cases d<;>first |exact .inl rfl| (simp only[C3];repeat' split)<;>first |exact .inl trivial|exact .inr ⟨trivial,trivial⟩)
    rcases step with h1| ⟨rfl,h1⟩
    ·rw[h1];exact .inr ⟨rfl,rfl,trivial⟩
    ·rw[h1];exact .inl ⟨rfl,rfl,λ_=>v1⟩)
 unfold ED at hv;obtain⟨b1,a1,a2⟩:=Nv x.sides (EO hsd);obtain⟨b2,m1,m2⟩:=masterLog x.master (Gp hml);obtain⟨b3,l1,l2⟩:=Pm x.lease;obtain⟨b4,p1,p2⟩:=Nr x.places (EO hpl);simp only[FB,a1,m1,l1,p1,ao,EE,Dl]at hv;cases h1:HC x.now 0 999 with
 |false=>rw[h1]at hv;cases hv
 |true=>
 cases h2: ((x.servers.length:Int)==5)with
 |false=>rw[h1,h2]at hv;cases hv
 |true=>
 cases b1 with
 |false=>rw[h1,h2]at hv;cases hv
 |true=>
 cases b2 with
 |false=>rw[h1,h2]at hv;cases hv
 |true=>
 cases h3:HC x.masterUp 0 3 with
 |false=>rw[h1,h2,h3]at hv;cases hv
 |true=>
 cases b3 with
 |false=>rw[h1,h2,h3]at hv;cases hv
 |true=>
 cases b4 with
 |false=>rw[h1,h2,h3]at hv;cases hv
 |true=>
 rw[h1,h2,h3]at hv;simp only[C3]at hv;by_cases h4:x.lease.epoch>x.master.activated
 ·rw[if_pos h4]at hv;cases hv
 ·rw[if_neg h4]at hv;rcases fB with⟨k1,_,k3⟩| ⟨k,_,k1,_,_⟩
  ·refine⟨?_,m1,a1,p1,l1,EI.1 h1,EI.1 h3,λk hk=>k3 k hk hk⟩;simp only[beq_iff_eq]at h2;omega
  ·rw[show Hl (((),0,()),((x.now,x.servers,x.sides,x.master.configs,x.master.activated,x.masterUp,x.lease.epoch,x.lease.holder,x.lease.ends,x.places,()),()),())=_ from k1]at hv;cases hv
end
section
theorem aaY(l:List rp)(hl:l.length<=maxLen):DF (Ft l) (I1 l):=by
 have fB:=Da (B1:=Hi) (B2:=Fa) l.length (λk=>((l,(k:Int),()),(),())) (λk=>((l,(),(l.length:Int),(k:Int),()),(),())) (.inr (((),()),(),())) (.inr (((),()),(),())) (λ_=>.inl ((true,()),(),())) (λk=>.inl (((k:Int),()),(),()))
  (λ_=>True) (λ_=>True)
  (by simp only[Hi];rw[Dl,if_neg (by omega)])
  (by simp only[Fa];rw[Dl,if_neg (by omega)])
  (λk hk=>by
    have c1: (k:Int)<(l.length:Int):=by omega
    have c2: (0:Int)<=(k:Int):=by omega
    simp only[Hi,Fa,JH,Mn,IG,Dl,Cy,if_pos c1,if_pos c2,D4,aq hk,ao,Cb hl hk];cases (l[k].op.kind==2)with
    |false=>exact .inl ⟨rfl,rfl,trivial⟩
    |true=>exact .inr ⟨rfl,rfl,trivial⟩)
 unfold Ft I1 FJ FW;rcases fB with⟨k1,k2,_⟩| ⟨k,_,k1,k2,_⟩
 ·rw[show Ma ((l,0,()),(),())=_ from k1,show Gl ((l,(),(l.length:Int),0,()),(),())=_ from k2];exact⟨_,rfl,rfl⟩
 ·rw[show Ma ((l,0,()),(),())=_ from k1,show Gl ((l,(),(l.length:Int),0,()),(),())=_ from k2];simp only[ao,Eg];rw[decide_eq_true (by omega)];exact⟨_,rfl,rfl⟩
end
section
section
variable {α:Type}
def Zs(w:α->Int):List α->Int
 | [] =>0
 |x::l=>w x+Zs w l
def ace(l:List α):Int:=(l.length:Int)
end
def aen(c:nG):Int:=ace c.replicas+ace c.witnesses
def ad6(s:qk):Int:=aen s.config+ace s.log+ace s.learned
end
section

end
section
theorem Rx{n c:Nat}(h:n<=1048577)(hc:c<=1000):n*c<=2 ^ 40:=by
 have h1:n*c<=1048577*1000:=Nat.mul_le_mul h hc;have h2: (2:Nat) ^ 40=1099511627776:=by decide
 omega
theorem Na(c:nG)(h:Gu 1048576 c):H3 c=some (c,())/\Gh c=some (c,()):=by have a:=h.1;have b:=h.2;unfold H3 Gh;simp only[bG,Cy,if_pos (Rx (Ef a) (show 8<=1000 by decide)),if_pos (Rx (Ef b) (show 8<=1000 by decide))];exact⟨trivial,trivial⟩
theorem Jd(l:List rp)(h:l.length<=1048576):Gt l=some (l,())/\FS l=some (l,()):=by unfold Gt FS;simp only[bG,Cy,if_pos (Rx (Ef h) (show 56<=1000 by decide))];exact⟨trivial,trivial⟩
theorem abz(l:List Int)(h:l.length<=1048576):Jj l=some (l,()):=by unfold Jj;simp only[Cy,if_pos (Rx (Ef h) (show 8<=1000 by decide))]
theorem XQ(l:List uQ)(h:l.length<=1048576):Lq l=some (l,()):=by unfold Lq;simp only[Cy,if_pos (Rx (Ef h) (show 24<=1000 by decide))]
theorem Nb(s:qk)(h:Fs 1048576 s):Ij s=some (s,())/\Gi s=some (s,()):=by unfold Ij Gi;simp only[(Na _ h.1).1,(Na _ h.1).2,(Jd _ h.2.1).1,(Jd _ h.2.1).2,(Jd _ h.2.2).1,(Jd _ h.2.2).2,ao];exact⟨trivial,trivial⟩
theorem GS{α:Type}{l:List α}{k:Nat}{x:α}(h:l[k]?=some x):l.take (k+1)=l.take k++ [x] :=by rw[Ee,h];rfl
theorem Nq{α:Type}(l:List α)(k:Nat)(x:α)(h:l.length<=1048576): (l.take k++ [x]).length<=1048577:=by rw[bL,cR,cy];omega
theorem Pj(m:jZ)(h:Md 1048576 m):L0 m=some (m,())/\Jh m=some (m,()):=by
 obtain⟨hl,hc⟩:=h
 have k1:=CC (B:=KW) m.configs (λk (b:List nG)=>(((),(),(),(k:Int),()),((m.configs,m.activated,()),((),0,()),((),m.activated,()),()),(b,()))) (λk b=>b=m.configs.take k) (λ_ _ _=>(((),(),()),(((),0,()),((),m.activated,()),()),(m.configs,())))
  (λb hb=>by simp only[KW];rw[Dl,if_neg (by omega),hb,D9])
  (λk b c hx hb=>by
    have hk:=Du hx;have c1: (k:Int)<(m.configs.length:Int):=by omega
    have c2: (0:Int)<=(k:Int):=by omega
    subst hb;refine .inl ⟨m.configs.take (k+1),?_,rfl,rfl⟩;simp only[KW,Dl,Cy,if_pos c1,if_pos c2,D4,hx,ao,(Na c (hc c (aA hx))).1,Cb (EO hl) hk,if_pos (Rx (Nq m.configs k c hl) (show 64<=1000 by decide)),GS hx])
  0 [] (bO _) rfl
 have k2:=CC (B:=IU) m.configs (λk (b:List nG)=>(((),(),m.configs,(m.configs.length:Int),(k:Int),()),(((),0,()),((),m.activated,()),()),(b,()))) (λk b=>b=m.configs.take k) (λ_ _ _=>(((),(),()),(((),0,()),((),m.activated,()),()),(m.configs,())))
  (λb hb=>by simp only[IU];rw[Dl,if_neg (by omega),hb,D9])
  (λk b c hx hb=>by
    have hk:=Du hx;have c1: (k:Int)<(m.configs.length:Int):=by omega
    have c2: (0:Int)<=(k:Int):=by omega
    subst hb;refine .inl ⟨m.configs.take (k+1),?_,rfl,rfl⟩;simp only[IU,Dl,Cy,if_pos c1,if_pos c2,D4,hx,ao,(Na c (hc c (aA hx))).2,Cb (EO hl) hk,if_pos (Rx (Nq m.configs k c hl) (show 64<=1000 by decide)),GS hx])
  0 [] (bO _) rfl
 unfold L0 Jh;rw[show SW (((),(),(),0,()),((m.configs,m.activated,()),((),0,()),((),m.activated,()),()),(([]:List nG),()))=_ from k1,show Qd (((),(),m.configs,(m.configs.length:Int),0,()),(((),0,()),((),m.activated,()),()),(([]:List nG),()))=_ from k2];exact⟨rfl,rfl⟩
theorem FO(x:qh)(ok:EP 1048576 x):Fz x=some (x,())/\FD x=some (x,()):=by
 obtain⟨⟨hl,hs⟩,hsd,hml,hpl⟩:=ok
 have k1:=CC (B:=KX) x.servers (λk (b:List qk)=>(((),(),(),(k:Int),()),((x.now,x.servers,x.sides,x.master.configs,x.master.activated,x.masterUp,x.lease.epoch,x.lease.holder,x.lease.ends,x.places,()),(0,(),(),(),0,0,0,0,0,(),()),(x.now,(),x.sides,x.master.configs,x.master.activated,x.masterUp,x.lease.epoch,x.lease.holder,x.lease.ends,x.places,()),()),(b,()))) (λk b=>b=x.servers.take k) (λ_ _ _=>(((),(),(),()),((x.now,x.servers,x.sides,x.master.configs,x.master.activated,x.masterUp,x.lease.epoch,x.lease.holder,x.lease.ends,x.places,()),(0,(),(),(),0,0,0,0,0,(),()),(x.now,(),x.sides,x.master.configs,x.master.activated,x.masterUp,x.lease.epoch,x.lease.holder,x.lease.ends,x.places,()),()),(x.servers,())))
  (λb hb=>by simp only[KX];rw[Dl,if_neg (by omega),hb,D9])
  (λk b c hx hb=>by
    have hk:=Du hx;have c1: (k:Int)<(x.servers.length:Int):=by omega
    have c2: (0:Int)<=(k:Int):=by omega
    subst hb;refine .inl ⟨x.servers.take (k+1),?_,rfl,rfl⟩;simp only[KX,Dl,Cy,if_pos c1,if_pos c2,D4,hx,ao,(Nb c (hs c (aA hx))).1,Cb (EO hl) hk,if_pos (Rx (Nq x.servers k c hl) (show 152<=1000 by decide)),GS hx])
  0 [] (bO _) rfl
 have k2:=CC (B:=Ic) x.servers (λk (b:List qk)=>(((),(),(),x.servers,(x.servers.length:Int),(k:Int),()),((x.now,x.servers,x.sides,x.master.configs,x.master.activated,x.masterUp,x.lease.epoch,x.lease.holder,x.lease.ends,x.places,()),(0,(),(),(),0,0,0,0,0,(),()),(x.now,(),x.sides,x.master.configs,x.master.activated,x.masterUp,x.lease.epoch,x.lease.holder,x.lease.ends,x.places,()),()),(b,()))) (λk b=>b=x.servers.take k) (λ_ _ _=>(((),(),(),()),((x.now,x.servers,x.sides,x.master.configs,x.master.activated,x.masterUp,x.lease.epoch,x.lease.holder,x.lease.ends,x.places,()),(0,(),(),(),0,0,0,0,0,(),()),(x.now,(),x.sides,x.master.configs,x.master.activated,x.masterUp,x.lease.epoch,x.lease.holder,x.lease.ends,x.places,()),()),(x.servers,())))
  (λb hb=>by simp only[Ic];rw[Dl,if_neg (by omega),hb,D9])
  (λk b c hx hb=>by
    have hk:=Du hx;have c1: (k:Int)<(x.servers.length:Int):=by omega
    have c2: (0:Int)<=(k:Int):=by omega
    subst hb;refine .inl ⟨x.servers.take (k+1),?_,rfl,rfl⟩;simp only[Ic,Dl,Cy,if_pos c1,if_pos c2,D4,hx,ao,(Nb c (hs c (aA hx))).2,Cb (EO hl) hk,if_pos (Rx (Nq x.servers k c hl) (show 152<=1000 by decide)),GS hx])
  0 [] (bO _) rfl
 unfold Fz FD
 rw[show SX (((),(),(),0,()),((x.now,x.servers,x.sides,x.master.configs,x.master.activated,x.masterUp,x.lease.epoch,x.lease.holder,x.lease.ends,x.places,()),(0,(),(),(),0,0,0,0,0,(),()),(x.now,(),x.sides,x.master.configs,x.master.activated,x.masterUp,x.lease.epoch,x.lease.holder,x.lease.ends,x.places,()),()),(([]:List qk),()))=_ from k1,
  show PC (((),(),(),x.servers,(x.servers.length:Int),0,()),((x.now,x.servers,x.sides,x.master.configs,x.master.activated,x.masterUp,x.lease.epoch,x.lease.holder,x.lease.ends,x.places,()),(0,(),(),(),0,0,0,0,0,(),()),(x.now,(),x.sides,x.master.configs,x.master.activated,x.masterUp,x.lease.epoch,x.lease.holder,x.lease.ends,x.places,()),()),(([]:List qk),()))=_ from k2]
 have em: (⟨x.master.configs,x.master.activated⟩:jZ)=x.master:=rfl;simp only[ao,bG,em,(Pj _ hml).1,(Pj _ hml).2,abz _ hsd,XQ _ hpl,Cy,if_pos (Rx (Ef hsd) (show 8<=1000 by decide)),if_pos (Rx (Ef hpl) (show 24<=1000 by decide))];exact⟨trivial,trivial⟩
theorem TT(x:qh)(id:Int)(ok:EP 1048576 x):∃b,Il x id=some (b,())/\Fp x id=some (b,())/\(b=true->ED x=some (true,())/\0<=id/\id<5):=by
 obtain⟨v,v1,v2⟩:=Fx x ok;unfold Il Fp;simp only[v1,v2,ao,FB,Kb];cases v with
 |false=>exact⟨false,rfl,rfl,nofun⟩
 |true=>refine⟨HC id 0 4,rfl,rfl,λh=>⟨rfl,?_⟩⟩;have:=EI.1 h;omega
end
section
theorem abA(n:Int)(h0:0<=n)(h1:n<=1000000):JT n=some ([],()):=by
 unfold JT;have e1:IntKind.wrap .i64 ((0:Int)-0)=0:=vP (by decide) (by decide);have e2:IntKind.wrap .i64 (n-0)=n:=by rw[vP (by omega) (by omega)];omega
 simp only[e1,e2,Dl,if_neg (show ¬n<0 by omega)];by_cases h:n>0
 ·have e: (2:Int) ^ 40=1099511627776:=by decide
  have c1:0<n/\n*((8:Nat):Int)<=2 ^ 40:=⟨h,by omega⟩
  have c2: (0:Int)<=0/\(0:Int)<=0/\(0:Int)<=((n.toNat:Nat):Int):=by omega
  simp only[if_pos h,Cy,if_pos c1,if_pos c2,and_self,if_true];simp
 ·simp only[if_neg h]
theorem Zn(l:List (List Int))(hl:l.length<=10)(h:∀a∈l,a.length<=1000):Kz l=some (l.flatten,()):=by
 have hm:l.length<=maxLen:=by unfold maxLen;omega
 have tot:∀k,(l.take k).flatten.length<=k*1000:=by
  intro k
  induction k with
  |zero=>simp
  |succ k ih=>
   cases hx:l[k]? with
   |none=>
    have hle:l.length<=k:=by simpa using hx
    rw[bW hle]at ih;rw[bW (Ef hle)];exact aX ih (bz _ (cL k))
   |some a=>rw[GS hx,Es,bL];have:=h a (aA hx);simp only[List.flatten_cons,List.flatten_nil,bP];rw[Nat.succ_mul];exact Nat.add_le_add ih this
 have k1:=CC (B:=Ie) l (λk (n:Int)=>((l,n,l,(l.length:Int),(k:Int),()),(),())) (λk n=>n=((l.take k).flatten.length:Int)) (λ_ _ _=>((l,(l.flatten.length:Int),()),(),()))
  (λn hn=>by simp only[Ie];rw[Dl,if_neg (by omega),hn,D9])
  (λk n a hx hn=>by
    have hk:=Du hx;have c1: (k:Int)<(l.length:Int):=by omega
    have c2: (0:Int)<=(k:Int):=by omega
    have t:=tot k;have ha:=h a (aA hx);have hk10:k*1000<=10000:=by omega
    refine .inl ⟨n+(a.length:Int),?_,?_,rfl⟩
    ·simp only[Ie,Dl,Cy,if_pos c1,if_pos c2,D4,hx,ao,Cb hm hk,vP (n:=n+(a.length:Int)) (by omega) (by omega),if_neg (show ¬n+(a.length:Int)<0 by omega)]
    ·rw[GS hx,Es,bL,hn];simp)
  0 0 (bO _) (by simp)
 have t:=tot l.length;rw[D9]at t
 have k2:=CC (B:=HW) l (λk (b:List Int)=>(((),l,(l.length:Int),(k:Int),()),(),(b,()))) (λk b=>b=(l.take k).flatten) (λ_ _ _=>(((),()),(),(l.flatten,())))
  (λb hb=>by simp only[HW];rw[Dl,if_neg (by omega),hb,D9])
  (λk b a hx hb=>by
    have hk:=Du hx;have c1: (k:Int)<(l.length:Int):=by omega
    have c2: (0:Int)<=(k:Int):=by omega
    have t:=tot k;have ha:=h a (aA hx);have hs: (b++a).length*8<=2 ^ 40:=Rx (by rw[hb,bL];omega) (by decide);refine .inl ⟨b++a,?_,?_,rfl⟩
    ·simp only[HW,Dl,Cy,if_pos c1,if_pos c2,D4,hx,ao,Cb hm hk,if_pos hs]
    ·rw[GS hx,Es,hb];simp)
  0 [] (bO _) (by simp)
 unfold Kz;rw[show PD ((l,0,l,(l.length:Int),0,()),(),())=_ from k1];simp only[ao,abA _ (show (0:Int)<=(l.flatten.length:Int) by omega) (by omega)];rw[show O2 (((),l,(l.length:Int),0,()),(),([],()))=_ from k2];rfl
end
section
def SS(l:List Int):Prop:=l.Pairwise (· < ·)
theorem SS.uniq:∀ {a b:List Int},SS a->SS b->(∀y,y∈a↔y∈b)->a=b
 | [],[],_,_,_=>rfl
 | [],b::l,_,_,h=>by have:=(h b).2 aK;cases this
 |a::l,[],_,_,h=>by have:=(h a).1 aK;cases this
 |a::l,b::m,ha,hb,h=>by
  obtain⟨a1,a2⟩:=Em.1 ha;obtain⟨b1,b2⟩:=Em.1 hb
  have hab:a=b:=by
   rcases aZ.1 ((h a).1 aK)with e|e
   ·exact e
   ·rcases aZ.1 ((h b).2 aK)with f|f
    ·exact f.symm
    ·have:=b1 a e;have:=a1 b f;omega
  subst hab
  have hlm:l=m:=SS.uniq a2 b2 λy=>by
   constructor
   ·intro hy;rcases aZ.1 ((h y).1 (aI _ hy))with e|e
    ·have:=a1 y hy;omega
    ·exact e
   ·intro hy;rcases aZ.1 ((h y).2 (aI _ hy))with e|e
    ·have:=b1 y hy;omega
    ·exact e
  rw[hlm]
theorem WS{A B:List Int}{x:Int}(h:SS (A++B))(ha:∀y∈A,y<x)(hb:∀y∈B,x<y):SS (A++ [x] ++B):=by
 obtain⟨h1,h2,h3⟩:=Ei.1 h;refine Ei.2 ⟨Ei.2 ⟨h1,Er _ _,λa h b hb'=>?_⟩,h2,λa h b hb'=>?_⟩
 ·rw[aL.1 hb'];exact ha a h
 ·rcases bC.1 h with h|h
  ·exact h3 a h b hb'
  ·rw[aL.1 h];exact hb b hb'
theorem abZ(l:List Int)(x:Int)(hl:l.length<=1000)(hs:SS l):∃r,IM l x=some (r,())/\SS r/\(∀y,y∈r↔y=x\/y∈l)/\r.length<=l.length+1/\(x∉l->r.length=l.length+1):=by
 have hm:l.length<=maxLen:=by unfold maxLen;omega
 rcases NR (B:=J7) l.length (λk=>((l,x,(k:Int),()),(),())) ((l,x,(l.length:Int),()),(),()) (λk=>((l,x,(k:Int),()),(),())) (λk=>match l[k]? with |some y=> !decide (y<x)|none=>false)
  (by simp only[J7];rw[Dl,if_neg (by omega)])
  (λk hk=>by
    have c1: (k:Int)<(l.length:Int):=by omega
    have c2: (0:Int)<=(k:Int):=by omega
    simp only[J7,Dl,Cy,if_pos c1,if_pos c2,D4,aq hk,ao,Cb hm hk];by_cases h:l[k]<x<;>simp[h])with⟨k1,k2⟩| ⟨i,hi,k1,k2,k3⟩
 ·have all:∀y∈l,y<x:=by
   intro y hy;obtain⟨k,hk,rfl⟩:=aU hy;have:=k2 k hk;rw[aq hk]at this;simpa using this
  refine⟨l++ [x],WJ l x hl all,?_,?_,?_,λ_=>by simp⟩
  ·have:=WS (A:=l) (B:=[]) (x:=x) (by simpa using hs) all (by simp);simpa using this
  ·intro y;simp[or_comm]
  ·simp
 ·rw[aq hi]at k2;simp only[bE,decide_eq_false_iff_not,Int.not_lt]at k2
  have lt:∀y∈l.take i,y<x:=by
   intro y hy;obtain⟨j,hj,rfl⟩:=aU hy;have hj':j<i:=by simp at hj;omega
   have:=k3 j hj';rw[aq (by omega)]at this;rw[Eu];simpa using this
  have hd:l.drop i=l[i]::l.drop (i+1):=cg hi;have hsp:l.take i++l.drop i=l:=List.take_append_drop i l
  have ge:∀y∈l.drop i,l[i] <=y:=by
   intro y hy;rw[hd]at hy;rcases aZ.1 hy with rfl|hy
   ·exact cW _
   ·have h2:SS (l.drop i):=List.Pairwise.sublist (List.drop_sublist i l) hs;rw[hd]at h2;exact Int.le_of_lt ((Em.1 h2).1 y hy)
  unfold IM;rw[show Sq ((l,x,0,()),(),())=_ from k1];have c1: (i:Int)<(l.length:Int):=by omega
  have c2: (0:Int)<=(i:Int):=by omega
  simp only[ao,Dl,Gw,Cy,if_pos c1,if_pos c2,D4,aq hi,bG];by_cases he:l[i]=x
  ·simp only[if_pos he,if_pos (Jm (show l.length<=1048576 by omega))];refine⟨l,rfl,hs,λy=>⟨.inr,?_⟩,by omega,λh=>absurd (by rw[<-he];exact D6 hi) h⟩
   rintro(rfl|h)
   ·rw[<-he];exact D6 hi
   ·exact h
  ·have d1: (0:Int)<=0/\(0:Int)<=(i:Int)/\(i:Int)<=(l.length:Int):=by omega
   have d2: (0:Int)<=(i:Int)/\(i:Int)<=(l.length:Int)/\(l.length:Int)<=(l.length:Int):=by omega
   have e1: (l.drop i).take (l.length-i)=l.drop i:=bW (by simp);simp only[if_neg he,if_pos d1,if_pos d2,Ey,cE,Ep,e1];rw[if_pos (Jm (by simp;omega)),if_pos (Jm (by simp;omega)),if_pos (Jm (by simp;omega))];refine⟨_,rfl,WS (by rw[hsp];exact hs) lt (λy hy=>?_),λy=>?_,by simp;omega,λ_=>by simp;omega⟩
   ·have:=ge y hy;omega
   ·conv=>rhs;rw[<-hsp]
    simp only[bC,aL];constructor
    ·rintro((h|h)|h)
     ·exact .inr (.inl h)
     ·exact .inl h
     ·exact .inr (.inr h)
    ·rintro(h|h|h)
     ·exact .inl (.inr h)
     ·exact .inl (.inl h)
     ·exact .inr h
theorem ac8{β:Type}(l:List Int)(hl:l.length<=500){mk:Nat->List Int->β}{ε:Type}{B:β->Option (β⊕ε)}{E:List Int->ε}
  (h0:∀v,B (mk l.length v)=some (.inr (E v)))
  (h1:∀k v x,l[k]?=some x->B (mk k v)=(IM v x).bind λy=>some (.inl (mk (k+1) y.1)))
  (v:List Int) (hv:SS v) (hvl:v.length<=500):∃r,ny B (mk 0 v)=some (E r)/\SS r/\(∀y,y∈r↔y∈v\/y∈l)/\r.length<=v.length+l.length:=by
 have go:∀ (n k:Nat) (v:List Int),k+n=l.length->SS v->v.length+n<=1000->∃r,ny B (mk k v)=some (E r)/\SS r/\(∀y,y∈r↔y∈v\/y∈l.drop k)/\r.length<=v.length+n:=by
  intro n
  induction n with
  |zero=>
   intro k v hk hv _;have :k=l.length:=by omega
   subst this;exact⟨v,lO (h0 v),hv,by simp,by omega⟩
  |succ n ih=>
   intro k v hk hv hn;have hlt:k<l.length:=by omega
   obtain⟨r,r1,r2,r3,r4,_⟩:=abZ v l[k] (by omega) hv;obtain⟨s,s1,s2,s3,s4⟩:=ih (k+1) r (by omega) r2 (by omega);refine⟨s,?_,s2,λy=>?_,by omega⟩
   ·rw[sy (by rw[h1 k v _ (aq hlt),r1];rfl)];exact s1
   ·rw[s3,r3,cg hlt,aZ];constructor
    ·rintro((h|h)|h)
     ·exact .inr (.inl h)
     ·exact .inl h
     ·exact .inr (.inr h)
    ·rintro(h|h|h)
     ·exact .inl (.inr h)
     ·exact .inl (.inl h)
     ·exact .inr h
 obtain⟨r,h1,h2,h3,h4⟩:=go l.length 0 v (by omega) hv (by omega);rw[cE]at h3;exact⟨r,h1,h2,h3,h4⟩
theorem YF(a b:List Int)(ha:a.length<=100)(hb:b.length<=100):∃r,I5 a b=some (r,())/\SS r/\(∀y,y∈r↔y∈a\/y∈b)/\r.length<=a.length+b.length:=by
 have am:a.length<=maxLen:=by unfold maxLen;omega
 have bm:b.length<=maxLen:=by unfold maxLen;omega
 obtain⟨r,r1,r2,r3,r4⟩:=ac8 (B:=HU) (mk:=λk v=>((a,b,(),(k:Int),()),(),(v,()))) (E:=λv=>((b,(),()),(),(v,()))) a (by omega)
  (λv=>by simp only[HU];rw[Dl,if_neg (by omega)])
  (λk v x hx=>by
    have hk:=Du hx;have c1: (k:Int)<(a.length:Int):=by omega
    have c2: (0:Int)<=(k:Int):=by omega
    simp only[HU,Dl,Cy,if_pos c1,if_pos c2,D4,hx,ao,Cb am hk])
  [] List.Pairwise.nil (bO _)
 obtain⟨s,s1,s2,s3,s4⟩:=ac8 (B:=HV) (mk:=λk v=>((b,(),(k:Int),()),(),(v,()))) (E:=λv=>(((),()),(),(v,()))) b (by omega)
  (λv=>by simp only[HV];rw[Dl,if_neg (by omega)])
  (λk v x hx=>by
    have hk:=Du hx;have c1: (k:Int)<(b.length:Int):=by omega
    have c2: (0:Int)<=(k:Int):=by omega
    simp only[HV,Dl,Cy,if_pos c1,if_pos c2,D4,hx,ao,Cb bm hk])
  r r2 (by simp at r4;omega)
 unfold I5;rw[show O0 ((a,b,(),0,()),(),([],()))=_ from r1];simp only[ao];rw[show O1 ((b,(),0,()),(),(r,()))=_ from s1];refine⟨s,rfl,s2,λy=>?_,by simp at r4;omega⟩;rw[s3,r3];simp
def SL(l:List Int):Prop:=l.Pairwise (· <= ·)
theorem ab7(A R:List Int)(a x:Int): ((A++a::x::R).set (A.length+1) a).set A.length x=A++x::a::R:=by
 induction A with
 |nil=>rfl
 |cons b A ih=>simp only[cG,bD,List.set_cons_succ,ih]
theorem aac(D:List Int)(n k:Int)(x:Int)(hn:n<=12):∀ (A C:List Int),A.length+C.length+D.length<=12->SL (A++C)->(∀c∈C,x<c)->
  ∃Q,Ga (((),0,n,k,(A.length:Int),()),(),(A++x:: (C++D),()))=some (((),0,n,k,()),(),(Q++D,()))/\SL Q/\Q.Perm (x:: (A++C)):=by
 intro A
 induction h:A.length generalizing A with
 |zero=>intro C hl hs hc;have :A=[] :=db.1 h;subst this;refine⟨x::C,lO ?_,Em.2 ⟨λc h=>Int.le_of_lt (hc c h),hs⟩,by simp⟩;simp only[Fe,Dl];rw[if_neg (by simp)];rfl
 |succ m ih=>
  intro C hl hs hc;obtain⟨A',a,rfl⟩:∃A' a,A=A'++ [a] :=⟨A.dropLast,A.getLast (by intro e;subst e;simp at h),(List.dropLast_concat_getLast _).symm⟩
  have hm:A'.length=m:=by simpa using h
  have c1: ((m+1:Nat):Int)>0:=by omega
  have hlen: ((A'++ [a])++x:: (C++D)).length=m+2+C.length+D.length:=by simp;omega
  have c2: (0:Int)<=((m+1:Nat):Int)/\((m+1:Nat):Int)<(((A'++ [a])++x:: (C++D)).length:Int):=by rw[hlen];omega
  have c3: (0:Int)<=((m+1-1:Nat):Int)/\((m+1-1:Nat):Int)<(((A'++ [a])++x:: (C++D)).length:Int):=by rw[hlen];omega
  have e1: ((A'++ [a])++x:: (C++D))[m+1]?=some x:=by rw[<-h,be (by simp)];simp
  have e2: ((A'++ [a])++x:: (C++D))[m+1-1]?=some a:=by rw[aW (by simp;omega),be (by omega)];simp[hm]
  have pw:IntKind.wrap .i64 (((m+1:Nat):Int)-1)=((m+1-1:Nat):Int):=B9 (by omega) (by unfold maxLen;omega)
  have less:Je x a=some (decide (x<a),()):=by unfold Je JC;simp only[beq_self_eq_true,dg,ao,Ce]
  by_cases hxa:x<a
  ·have hsw: (((A'++ [a])++x:: (C++D)).set (m+1) a).set (m+1-1) x=A'++x:: ((a::C)++D):=by
    have:=ab7 A' (C++D) a x;rw[hm]at this;simpa using this
   have c5:m+1-1<(((A'++ [a])++x:: (C++D)).set (m+1) a).length:=by rw[D8,hlen];omega
   have hz:=aq c5
   obtain⟨Q,q1,q2,q3⟩:=ih A' hm (a::C) (by simp at hl ⊢;omega) (by simpa using hs) (λc h=>by
    rcases aZ.1 h with rfl|h
    ·exact hxa
    ·exact hc c h)
   refine⟨Q,?_,q2,q3.trans (by simp)⟩;unfold Ga at q1 ⊢;rw[<-q1];refine sy ?_;simp only[Fe,Dl,Cy,if_pos c1,if_pos c2,pw,if_pos c3,D4,e1,e2,ao,less,if_pos hxa,hz,hsw];rfl
  ·have hall:∀y∈A',y<=a:=by
    intro y hy;have h1:SL (A'++ [a]):=(Ei.1 hs).1;exact(Ei.1 h1).2.2 y hy a (by simp)
   refine⟨(A'++ [a])++x::C,?_,?_,?_⟩
   ·refine lO ?_;rw[show (A'++ [a])++x::C++D=(A'++ [a])++x:: (C++D) by simp];simp only[Fe,Dl,Cy,if_pos c1,if_pos c2,pw,if_pos c3,D4,e1,e2,ao,less,if_neg hxa]
   ·obtain⟨p1,p2,p3⟩:=Ei.1 hs;refine Ei.2 ⟨p1,Em.2 ⟨λc h=>Int.le_of_lt (hc c h),p2⟩,λy hy z hz=>?_⟩
    have hyx:y<=x:=by
     rcases bC.1 hy with h|h
     ·have:=hall y h;omega
     ·rw[aL.1 h];omega
    rcases aZ.1 hz with rfl|hz
    ·exact hyx
    ·have:=hc z hz;omega
   ·exact List.perm_middle
theorem U0(l:List Int)(hl:l.length<=12):∃r,Fj l 0 (l.length:Int)=some (r,())/\SL r/\r.Perm l:=by
 have hm:l.length<=maxLen:=by unfold maxLen;omega
 unfold Fj;cases l with
 |nil=>
  refine⟨[],?_,List.Pairwise.nil,List.Perm.refl _⟩
  rw[show F9 (((),0,(([]:List Int).length:Int),IntKind.wrap .i64 (0+1),()),(),([],()))=some ((()),(),([],()))from lO (by rw[show IntKind.wrap .i64 ((0:Int)+1)=((1:Nat):Int)from by rw[vP (by omega) (by omega)];rfl];simp only[EM,Dl];rw[if_neg (by simp)])]
  rfl
 |cons b l=>
  generalize hL:b::l=L at hl hm;have hpos:0<L.length:=by rw[<-hL];simp
  have outer:=C9 (B:=EM) (λs=>∃ (k:Nat) (Q:List Int),0<k/\k<=L.length/\Q.length=k/\SL Q/\Q.Perm (L.take k)/\s=(((),0,(L.length:Int),(k:Int),()),(),(Q++L.drop k,()))) (λs=>L.length-s.1.2.2.2.1.toNat) (λe=>∃Q:List Int,SL Q/\Q.Perm L/\e=((()),(),(Q,())))
   (λs hs=>by
     obtain⟨k,Q,h0,hk,hq,hq2,hq3,rfl⟩:=hs;by_cases hlt:k<L.length
     ·have c1: (k:Int)<(L.length:Int):=by omega
      obtain⟨R,r1,r2,r3⟩:=aac (L.drop (k+1)) (L.length:Int) (k:Int) L[k] (by omega) Q [] (by simp;omega) (by simpa using hq2) (by simp);have hd:L.drop k=L[k]::L.drop (k+1):=cg hlt;rw[hq,bG,<-hd]at r1;refine .inl ⟨(((),0,(L.length:Int),((k+1:Nat):Int),()),(),(R++L.drop (k+1),())),?_,⟨k+1,R,by omega,by omega,?_,r2,?_,rfl⟩,?_⟩
      ·simp only[EM,Dl,if_pos c1,r1,ao,Cb hm hlt]
      ·rw[r3.length_eq];simp[hq]
      ·rw[Ee,aq hlt];refine r3.trans ?_;rw[bP];refine List.Perm.trans ?_ (List.perm_append_comm);simpa using hq3
      ·simp only[D4];omega
     ·have :k=L.length:=by omega
      subst this;refine .inr ⟨_,by simp only[EM,Dl];rw[if_neg (by omega)],Q,hq2,by simpa using hq3,by simp⟩)
   (s:=(((),0,(L.length:Int),((1:Nat):Int),()),(),(L,()))) ⟨1,L.take 1,by omega,by omega,by simp;omega,by rw[<-hL];simp[SL],List.Perm.refl _,by rw[List.take_append_drop]⟩
  obtain⟨e,h1,Q,q1,q2,rfl⟩:=outer;rw[show IntKind.wrap .i64 ((0:Int)+1)=((1:Nat):Int)from by rw[vP (by omega) (by omega)];rfl,show F9 (((),0,(L.length:Int),((1:Nat):Int),()),(),(L,()))=_ from h1];exact⟨Q,rfl,q1,q2⟩
theorem ade{n:Nat}(hn:n<=12):∃m,PQ (IntKind.wrap .u64 (n:Int))=some (m,()):=by
 have :n<=5\/n=6\/n=7\/n=8\/n=9\/n=10\/n=11\/n=12:=by omega
 rcases this with h|rfl|rfl|rfl|rfl|rfl|rfl|rfl
 ·exact TN h
 ·exact⟨3,by kernel_rfl⟩
 ·exact⟨3,by kernel_rfl⟩
 ·exact⟨4,by kernel_rfl⟩
 ·exact⟨4,by kernel_rfl⟩
 ·exact⟨4,by kernel_rfl⟩
 ·exact⟨4,by kernel_rfl⟩
 ·exact⟨4,by kernel_rfl⟩
theorem ab5(l:List Int)(hl:l.length<=12):∃r,H4 l=some (r,())/\SL r/\r.Perm l:=by
 obtain⟨m,hm⟩:=ade hl;obtain⟨r,r1,r2,r3⟩:=U0 l hl
 have hp:FM l 0 (l.length:Int) m=some (r,()):=by
  unfold FM
  have :H6 (((),0,(l.length:Int),m,true,true,()),(),(l,()))=some ((()),(),(r,())):=by refine lO ?_;simp only[Gd];rw[vP (by omega) (by omega),Dl,if_pos (by omega),r1,ao,CA r3.length_eq]
  rw[this];rfl
 unfold H4;simp only[hm,ao,hp];exact⟨r,CA r3.length_eq _ _,r2,r3⟩
theorem V9(l:List Int)(hl:l.length<=1000)(hs:SL l)(k0:Nat)(h0:0<k0)(hk:k0<l.length)(hss:SS (l.take k0))(heq:l[k0]=l[k0-1]):
  ∃e,M4 (((),(k0:Int),(k0,l.length-k0),1,()),(),(l,()))=some e/\∃ (kk:Nat) (v:List Int),e=(((),(kk:Int),()),(),(v,()))/\kk<=l.length/\v.length=l.length/\SS (v.take kk)/\∀y,y∈v.take kk↔y∈l:=by
 have hm:l.length<=maxLen:=by unfold maxLen;omega
 have mem0:∀y,y∈l.take k0↔y∈l.take (k0+1):=by
  intro y;rw[Ee,aq hk,heq];simp only[Option.toList_some,bC,aL];refine⟨.inl,?_⟩
  rintro(h|rfl)
  ·exact h
  ·rw[List.mem_take_iff_getElem];exact⟨k0-1,by omega,rfl⟩
 refine C9 (B:=G1) (λs=>∃ (kk k2:Nat) (v:List Int),s=(((),(kk:Int),(k0,l.length-k0),(k2:Int),()),(),(v,()))/\0<k2/\k0+k2<=l.length/\k0<=kk/\kk+1<=k0+k2/\v.length=l.length/\SS (v.take kk)/\(∀y,y∈v.take kk↔y∈l.take (k0+k2))/\v.drop (k0+k2-1)=l.drop (k0+k2-1)) (λs=>l.length-s.1.2.2.2.1.toNat) _
  (λs hI=>?_) (s:=(((),(k0:Int),(k0,l.length-k0),((1:Nat):Int),()),(),(l,()))) ⟨k0,1,l,rfl,by omega,by omega,by omega,by omega,rfl,hss,mem0,rfl⟩
 obtain⟨kk,k2,v,rfl,a1,a2,a3,a4,a5,a6,a7,a8⟩:=hI;by_cases hlt:k0+k2<l.length
 ·left;have c1: (k2:Int)<((l.length-k0:Nat):Int):=by omega
  have c2: (0:Int)<=(k2:Int)/\(k2:Int)<((l.length-k0:Nat):Int):=by omega
  have c3: (0:Int)<=((k2-1:Nat):Int)/\((k2-1:Nat):Int)<((l.length-k0:Nat):Int):=by omega
  have c4: (0:Int)<=(kk:Int)/\(kk:Int)<(v.length:Int):=by omega
  have g1:v[k0+(k2-1)]?=some l[k0+k2-1] :=by have:=congrArg (λz:List Int=>z[0]?) a8;simp only[bh,bI]at this;rw[show k0+(k2-1)=k0+k2-1 by omega,this];exact aq _
  have g2:v[k0+k2]?=some l[k0+k2] :=by have:=congrArg (λz:List Int=>z[1]?) a8;simp only[bh]at this;rw[show k0+k2-1+1=k0+k2 by omega]at this;rw[this];exact aq _
  have g3:v[kk]?=some (v[kk]'(by omega)):=aq _;have hle:l[k0+k2-1] <=l[k0+k2] :=Ec.1 hs _ _ (by omega) hlt (by omega)
  have hdd:v.drop (k0+k2)=l.drop (k0+k2):=by have:=congrArg (List.drop 1) a8;simpa [cn,show k0+k2-1+1=k0+k2 by omega] using this
  have hta:l.take (k0+k2+1)=l.take (k0+k2)++ [l[k0+k2]] :=by rw[Ee,aq hlt];rfl
  have inb:∀y∈l.take (k0+k2),y<=l[k0+k2-1] :=by
   intro y hy;obtain⟨j,hj,rfl⟩:=aU hy;have hj':j<k0+k2:=by simp at hj;omega
   rw[Eu];by_cases e:j=k0+k2-1
   ·subst e;exact cW _
   ·exact Ec.1 hs _ _ (by omega) (by omega) (by omega)
  have hkm:k2<l.length:=by omega
  have hkm':kk<l.length:=by omega
  simp only[G1,Dl,EE,Gw,Cy,if_pos c1,if_pos c2,B9 a1 (by unfold maxLen;omega),if_pos c3,D4,g1,g2,ao,Cb hm hkm,Cb hm hkm',if_pos c4,g3];by_cases he:l[k0+k2]=l[k0+k2-1]
  ·simp only[if_pos he];refine⟨_,rfl,⟨kk,k2+1,v,rfl,by omega,by omega,a3,by omega,a5,a6,λy=>?_,hdd⟩,?_⟩
   ·rw[a7,show k0+(k2+1)=k0+k2+1 by omega,hta,he];simp only[bC,aL];refine⟨.inl,?_⟩
    rintro(h|rfl)
    ·exact h
    ·rw[List.mem_take_iff_getElem];exact⟨k0+k2-1,by omega,rfl⟩
   ·simp only[D4];omega
  ·simp only[if_neg he];have hts: (v.set kk l[k0+k2]).take (kk+1)=v.take kk++ [l[k0+k2]] :=yV _ (by omega);refine⟨_,rfl,⟨kk+1,k2+1,v.set kk l[k0+k2],rfl,by omega,by omega,by omega,by omega,by simp[a5],?_,λy=>?_,?_⟩,?_⟩
   ·rw[hts]
    have:=WS (A:=v.take kk) (B:=[]) (x:=l[k0+k2]) (by simpa using a6) (λy hy=>by have:=inb y ((a7 y).1 hy);omega) (by simp)
    simpa using this
   ·rw[hts,show k0+(k2+1)=k0+k2+1 by omega,hta];simp only[bC,a7]
   ·rw[show k0+(k2+1)-1=k0+k2 by omega,List.drop_set_of_lt (by omega),hdd]
   ·simp only[D4];omega
 ·right;have hkk:k0+k2=l.length:=by omega
  refine⟨_,by simp only[G1,Dl];rw[if_neg (by omega)],kk,v,rfl,by omega,a5,a6,λy=>?_⟩;rw[a7,hkk,D9]
theorem XO(l:List Int)(hl:l.length<=1000)(hs:SL l):∃r,GZ l=some (r,())/\SS r/\(∀y,y∈r↔y∈l)/\r.length<=l.length:=by
 have hm:l.length<=maxLen:=by unfold maxLen;omega
 unfold GZ;rw[Dl];split
 ·refine⟨l,rfl,?_,λ_=>Iff.rfl,az _⟩
  match l with
  | [] =>exact List.Pairwise.nil
  | [a] =>exact Er _ _
  |a::b::l=>simp at*;omega
 ·have fB:=C9 (B:=FC) (λs=>∃k:Nat,0<k/\k<=l.length/\SS (l.take k)/\s=(((),(k:Int),()),(),(l,()))) (λs=>l.length-s.1.2.1.toNat)
   (λe=>(e= .inr (((),(),()),(),(l,()))/\SS l)\/∃ (kk:Nat) (W:List Int),e= .inl (((),(0,kk),()),(),(W,()))/\kk<=W.length/\kk<=l.length/\SS (W.take kk)/\∀y,y∈W.take kk↔y∈l)
   (λs hI=>by
     obtain⟨k,h0,hkl,hss,rfl⟩:=hI;by_cases hk:k<l.length
     ·have c1: (k:Int)<(l.length:Int):=by omega
      have c2: (0:Int)<=(k:Int)/\(k:Int)<(l.length:Int):=by omega
      have c3: (0:Int)<=((k-1:Nat):Int)/\((k-1:Nat):Int)<(l.length:Int):=by omega
      have c4: (0:Int)<=(k:Int)/\(k:Int)<=(l.length:Int)/\(l.length:Int)<=(l.length:Int):=by omega
      have e1:l[k]?=some l[k] :=aq hk;have e2:l[k-1]?=some l[k-1] :=aq (by omega);by_cases he:l[k]=l[k-1]
      ·right;obtain⟨e,f1,kk,v,rfl,f2,f3,f4,f5⟩:=V9 l hl hs k h0 hk hss he;have d1: (0:Int)<=(kk:Int)/\(kk:Int)<=(v.length:Int)/\(v.length:Int)<=(v.length:Int):=by omega
       have d2:kk+(v.length-kk)<=v.length:=by omega
       have d3: (0:Int)<=0/\(0:Int)<=(kk:Int)/\(kk:Int)<=(v.length:Int):=by omega
       simp only[FC,Dl,Cy,if_pos c1,if_pos c2,B9 h0 (by omega),if_pos c3,D4,e1,e2,ao,Gw,if_pos he,if_pos c4,aP];rw[f1];simp only[ao,D4,if_pos d1,if_pos d2,if_pos d3,Ey,Ep]
       have ht: (v.take kk++List.replicate (v.length-kk) 0++v.drop (kk+(v.length-kk))).take kk=v.take kk:=by rw[bk,List.take_append_of_le_length (by simp;omega),List.take_take,Nat.min_self]
       refine⟨_,rfl,.inr ⟨kk,_,rfl,by simp;omega,f2,by rw[ht];exact f4,λy=>by rw[ht];exact f5 y⟩⟩
      ·left;have hle:l[k-1] <=l[k] :=Ec.1 hs _ _ (by omega) hk (by omega);refine⟨(((),((k+1:Nat):Int),()),(),(l,())),?_,⟨k+1,by omega,by omega,?_,rfl⟩,?_⟩
       ·simp only[FC,Dl,Cy,if_pos c1,if_pos c2,B9 h0 (by omega),if_pos c3,D4,e1,e2,ao,Gw,Cb hm hk,if_neg he]
       ·rw[Ee,e1]
        have:=WS (A:=l.take k) (B:=[]) (x:=l[k]) (by simpa using hss) (λy hy=>by
         obtain⟨j,hj,rfl⟩:=aU hy;have hj':j<k:=by simp at hj;omega
         rw[Eu]
         have :l[j] <=l[k-1] :=by
          by_cases e:j=k-1
          ·subst e;exact cW _
          ·exact Ec.1 hs _ _ (by omega) (by omega) (by omega)
         omega) (by simp)
        simpa using this
       ·simp only[D4];omega
     ·have hk':k=l.length:=by omega
      subst hk';rw[D9]at hss;exact .inr ⟨_,by simp only[FC,Dl];rw[if_neg (by omega)],.inl ⟨rfl,hss⟩⟩)
   (s:=(((),((1:Nat):Int),()),(),(l,()))) ⟨1,by omega,by omega,by
     cases l with
     |nil=>exact List.Pairwise.nil
     |cons a l=>exact Er _ _,rfl⟩
  obtain⟨e,h1,h2⟩:=fB;rw[show Kk (((),1,()),(),(l,()))=_ from h1];rcases h2 with⟨rfl,h2⟩| ⟨kk,W,rfl,h3,h4,h5,h6⟩
  ·exact⟨l,rfl,h2,λ_=>Iff.rfl,az _⟩
  ·refine⟨W.take kk,?_,h5,h6,by simp;omega⟩;simp only[ao,Eg];exact CA ⟨trivial,h3⟩ _ _
theorem Zk(l:List Int)(hl:l.length<=12):∃r,Ja l=some (r,())/\SS r/\(∀y,y∈r↔y∈l)/\r.length<=l.length:=by obtain⟨s,s1,s2,s3⟩:=ab5 l hl;have sl:=s3.length_eq;obtain⟨r,r1,r2,r3,r4⟩:=XO s (by omega) s2;unfold Ja Jj;rw[CA (Jm (by omega)),ao,s1,ao,CA sl,r1];exact⟨r,rfl,r2,λy=>by rw[r3,s3.mem_iff],by omega⟩
theorem ad7(a b:List Int)(h:a.length+b.length<=12):∃r,I5 a b=some (r,())/\JN a b=some (r,())/\SS r/\(∀y,y∈r↔y∈a\/y∈b)/\r.length<=a.length+b.length:=by
 obtain⟨r,r1,r2,r3,r4⟩:=YF a b (by omega) (by omega);obtain⟨s,s1,s2,s3,s4⟩:=Zk (a++b) (by simp;omega);have hrs:r=s:=r2.uniq s2 λy=>by rw[r3,s3,bC]
 subst hrs;refine⟨r,r1,?_,r2,r3,r4⟩;unfold JN
 have hc:=Zn [a,b] (by simp) (by intro x hx;simp only[aZ,List.not_mem_nil,or_false]at hx;rcases hx with rfl|rfl<;>omega)
 rw[hc,ao,show ([a,b]:List (List Int)).flatten=a++b by simp,s1];rfl
end
section
theorem IX(m:jZ)(e:Int)(h:Md 1048576 m)(hv:EU m=some (true,())):∃c b,FR m e=some (c,b,())/\Jf m e=some (c,b,())/\Gu maxLen c/\(b=HC e 1 (m.configs.length:Int))/\(b=true->EH c=some (true,())/\c.epoch=e)/\(b=false->c=⟨0,0,[],[]⟩):=by
 obtain⟨b,m1,m2⟩:=masterLog m (Gp h);rw[hv]at m1;simp only[af,au,and_true]at m1;subst m1;obtain⟨f1,_,_⟩:=Np (Gp h) hv;have zero:Gu maxLen ⟨0,0,[],[]⟩:=⟨bO _,bO _⟩
 have hl:=h.1;unfold FR Jf;simp only[hv,m2,FB,Kb,ao,EE,C3];cases hw:HC e 1 (m.configs.length:Int)with
 |false=>exact⟨_,_,rfl,rfl,zero,rfl,nofun,λ_=>rfl⟩
 |true=>
  have hw:=EI.1 hw;simp only[C3];rw[vP (n:=e-1) (by omega) (by omega)];have hlt: (e-1).toNat<m.configs.length:=by omega
  have hk:=h.2 _ (D6 hlt)
  have copy:∀c:nG,Gu 1048576 c->H3 c=some (c,())/\Gh c=some (c,()):=by intro c hc;unfold H3 Gh;simp only[bG];rw[CA (Jm hc.1),CA (Jm hc.2)];exact⟨rfl,rfl⟩
  rw[CA (by omega),CA (by omega),aq hlt];simp only[ao,(copy _ hk).1,(copy _ hk).2];refine⟨_,_,rfl,rfl,EK hk,rfl,λ_=>⟨(f1 _ hlt).1,?_⟩,nofun⟩;rw[(f1 _ hlt).2];omega
theorem H9(x:qh)(ok:EP 1048576 x)(hv:ED x=some (true,())):∃c b,EF x.master=some (c,b,())/\E0 x.master=some (c,b,())/\Gu maxLen c/\(b=decide (x.master.activated>0))/\(b=true->EH c=some (true,())/\c.epoch=x.master.activated)/\(b=false->c=⟨0,0,[],[]⟩):=by
 have vc:=EZ ok hv;obtain⟨_,f2,f3⟩:=Np (Gp ok.2.2.1) vc.ml;obtain⟨c,b,c1,c2,c3,c4,c5,c6⟩:=IX x.master x.master.activated ok.2.2.1 vc.ml;unfold EF E0;rw[c1,c2];refine⟨c,b,rfl,rfl,c3,?_,c5,c6⟩;rw[c4];unfold HC;rw[decide_eq_true f3,df];by_cases h:x.master.activated>0
 ·rw[decide_eq_true h,decide_eq_true (by omega)]
 ·rw[decide_eq_false h,decide_eq_false (by omega)]
end
section
def RG(p:Nat->Bool)(n:Nat):List Int:=((List.range n).filter p).map λ(k:Nat)=>(k:Int)
theorem W7(p:Nat->Bool)(n:Nat):RG p (n+1)=RG p n++if p n=true then [(n:Int)]else [] :=by
 unfold RG;rw[List.range_succ,Eh,bK]
 congr 1
 cases h:p n<;>simp[h]
theorem Wb(p:Nat->Bool)(n:Nat)(x:Int):x∈RG p n↔∃k:Nat,k<n/\p k=true/\x=(k:Int):=by
 unfold RG;simp only[aG,Et,bw];constructor
 ·rintro⟨k,⟨h1,h2⟩,rfl⟩;exact⟨k,h1,h2,rfl⟩
 ·rintro⟨k,h1,h2,rfl⟩;exact⟨k,⟨h1,h2⟩,rfl⟩
theorem YP(p:Nat->Bool)(n:Nat): (RG p n).length<=n:=by unfold RG;rw[aH];exact aX (Ez _ _) (by simp)
theorem YO(p:Nat->Bool){n:Nat}(hn:n<=5):Oe (RG p n):=by
 have hp: (RG p n).Pairwise (· < ·):=by unfold RG;rw[List.pairwise_map];exact(List.Pairwise.filter _ List.pairwise_lt_range).imp λh=>by omega
 intro k hk;have hm: (RG p n)[k] ∈RG p n:=D6 hk;obtain⟨j,h1,_,h2⟩:=(Wb p n _).1 hm;exact⟨⟨by omega,by omega⟩,λh0=>Ec.1 hp (k-1) k (by omega) hk (by omega)⟩
theorem abE(p q:Nat->Bool)(n:Nat): (RG p n).filter (λx=>decide (x∈RG q n))=RG (λk=>p k&&q k) n:=by
 unfold RG;rw[List.filter_map,List.filter_filter]
 congr 1
 apply List.filter_congr;intro k hk;have hk:=bw.1 hk
 have : (((λx=>decide (x∈RG q n))∘λ(k:Nat)=>(k:Int)) k)=q k:=by
  show decide ((k:Int)∈RG q n)=q k;cases hq:q k with
  |true=>exact decide_eq_true ((Wb q n _).2 ⟨k,hk,hq,rfl⟩)
  |false=>
   refine decide_eq_false λh=>?_;obtain⟨j,_,h1,h2⟩:=(Wb q n _).1 h;have :j=k:=by omega
   subst this;rw[hq]at h1;cases h1
 have e:decide ((k:Int)∈List.map (λ(k:Nat)=>(k:Int)) (List.filter q (List.range n)))=q k:=this;simp only[Function.comp,e,Bool.and_comm]
def XJ(x:qh)(k:Nat):Bool:=match x.servers[k]? with |some s=>s.up|none=>false
def Qz(l:List Int)(k:Nat):Bool:=match l[k]? with |some s=>s==0|none=>false
theorem acf{p:Nat->Bool}{k:Nat}(h:k<=1000)(y:Int): (RG p k++ [y]).length*8<=2 ^ 40:=by have:=YP p k;refine Jm ?_;rw[bL,cy];omega
theorem ZT(x:qh)(hl:x.servers.length=5)(hv:ED x=some (true,())):ME x=some (RG (XJ x) 5,()):=by
 have ex: (⟨x.now,x.servers,x.sides,⟨x.master.configs,x.master.activated⟩,x.masterUp,⟨x.lease.epoch,x.lease.holder,x.lease.ends⟩,x.places⟩:qh)=x:=rfl
 have fB:=CC (B:=JB) x.servers (λk (b:List Int)=>(((),(),(k:Int),()),((x.now,x.servers,x.sides,x.master.configs,x.master.activated,x.masterUp,x.lease.epoch,x.lease.holder,x.lease.ends,x.places,()),()),(b,()))) (λk b=>b=RG (XJ x) k) (λ_ _ _=>(((),()),(),(RG (XJ x) 5,())))
  (λb hb=>by simp only[JB];rw[Dl,if_neg (by omega),hb,hl])
  (λk b s hs hb=>by
    have hk:=Du hs;have c1: (k:Int)<(x.servers.length:Int):=by omega
    have c2: (0:Int)<=(k:Int):=by omega
    have hup:XJ x k=s.up:=by unfold XJ;rw[hs]
    subst hb;simp only[JB,Dl,Cy,if_pos c1,if_pos c2,D4,hs,ao,ex,hv,C3,Cb (n:=5) (by decide) (by omega:k<5),if_pos (acf (p:=XJ x) (k:=k) (by omega) (k:Int))];refine .inl ⟨RG (XJ x) (k+1),?_,rfl,trivial⟩;rw[W7,hup];cases s.up
    ·simp;rfl
    ·rfl)
  0 [] (bO _) rfl
 unfold ME;rw[show QW (((),(),0,()),((x.now,x.servers,x.sides,x.master.configs,x.master.activated,x.masterUp,x.lease.epoch,x.lease.holder,x.lease.ends,x.places,()),()),([],()))=_ from fB];rfl
theorem J3{l:List Int}(hl:l.length<=maxLen)(hv:HD l=some (true,())):l.length=5:=by
 obtain⟨b,h1,h2⟩:=Nv l hl;rw[hv]at h1;simp only[af,au,and_true]at h1;subst h1;unfold KO at h2;cases h: ((l.length:Int)==5)with
 |false=>rw[h]at h2;cases h2
 |true=>simp only[beq_iff_eq]at h;omega
theorem Yy(l:List Int)(hl:l.length=5)(hv:HD l=some (true,())):Li l=some (RG (Qz l) 5,()):=by
 have fB:=CC (B:=IV) l (λk (b:List Int)=>((l,(),(k:Int),()),(),(b,()))) (λk b=>b=RG (Qz l) k) (λ_ _ _=>(((),()),(),(RG (Qz l) 5,())))
  (λb hb=>by simp only[IV];rw[Dl,if_neg (by omega),hb,hl])
  (λk b s hs hb=>by
    have hk:=Du hs;have c1: (k:Int)<(l.length:Int):=by omega
    have c2: (0:Int)<=(k:Int):=by omega
    have hup:Qz l k=(s==0):=by unfold Qz;rw[hs]
    subst hb;simp only[IV,Dl,Cy,if_pos c1,if_pos c2,D4,hs,ao,hv,C3,Cb (n:=5) (by decide) (by omega:k<5),if_pos (acf (p:=Qz l) (k:=k) (by omega) (k:Int))];refine .inl ⟨RG (Qz l) (k+1),?_,rfl,trivial⟩;rw[W7,hup];cases (s==0)
    ·simp;rfl
    ·rfl)
  0 [] (bO _) rfl
 unfold Li;rw[show Qf ((l,(),0,()),(),([],()))=_ from fB];rfl
def V7(x:qh)(k:Nat):Bool:=XJ x k&&Qz x.sides k
theorem adL(x:qh)(ok:EP 1048576 x)(hv:ED x=some (true,())):NI x=some (RG (V7 x) 5,()):=by have vc:=EZ ok hv;have hsl:=J3 (EO ok.2.1) vc.sides;unfold NI;rw[ZT x vc.len hv,Yy x.sides hsl vc.sides];simp only[ao];rw[R8 _ _ (YO _ (az 5)) (aX (YP _ _) (by decide)),abE];rfl
end
section
def Hm(x:qh)(a:Int):Int:=(x.sides[a.toNat]?).getD 0
theorem LK(x:qh)(ok:EP 1048576 x)(vc:VC x){a b:Int}(ha:0<=a/\a<5)(hb:0<=b/\b<5):F5 x.sides a b=some (Hm x a==Hm x b,())/\IE x.sides a b=some (Hm x a==Hm x b,()):=by
 have hl:=EO ok.2.1;have h5:=J3 hl vc.sides;obtain⟨v,s1,s2⟩:=Nv x.sides hl;rw[vc.sides]at s1;simp only[af,au,and_true]at s1;subst s1;have wa:HC a 0 4=true:=EI.2 (by omega);have wb:HC b 0 4=true:=EI.2 (by omega);have la:a.toNat<x.sides.length:=by omega
 have lb:b.toNat<x.sides.length:=by omega
 unfold F5 IE Hm;simp only[vc.sides,s2,FB,Kb,wa,wb,ao,C3,Cy,if_pos ha.1,if_pos hb.1,aq la,aq lb,aV,and_self]
theorem HI{x:qh}(ok:EP 1048576 x)(vc:VC x){a:Int}(ha:0<=a/\a<5):∃s,x.servers[a.toNat]?=some s/\Fs 1048576 s/\EG s a=some (true,()):=by
 have hlt:a.toNat<x.servers.length:=by rw[vc.len];omega
 refine⟨_,aq hlt,ok.1.2 _ (D6 hlt),?_⟩;have:=vc.srv _ hlt
 rwa [EB ha.1]at this
def P1(x:qh)(a b:Int):Bool:=(Hm x a==Hm x b)&&(match x.servers[b.toNat]?,x.servers[a.toNat]? with
 |some m,some p=>m.up&&(m.epoch==p.epoch)&&decide (m.commit<=(p.log.length:Int))&&decide (m.config=p.config)
 | _,_=>false)
theorem W5(x:qh)(ok:EP 1048576 x)(vc:VC x){a b:Int}(ha:0<=a/\a<5)(hb:0<=b/\b<5):Fw x a b=some (P1 x a b,())/\QC x a b=some (P1 x a b,()):=by obtain⟨p,p1,p2,_⟩:=HI ok vc ha;obtain⟨m,m1,m2,_⟩:=HI ok vc hb;obtain⟨h1,h2⟩:=LK x ok vc ha hb;obtain⟨e1,e2⟩:=GJ m.config p.config (EK m2.1);unfold Fw QC P1;simp only[p1,m1,h1,h2,e1,e2,Cy,if_pos ha.1,if_pos hb.1,ao];cases (Hm x a==Hm x b)<;>cases m.up<;>cases (m.epoch==p.epoch)<;>cases (decide (m.commit<=(p.log.length:Int)))<;>cases (decide (m.config=p.config))<;>exact⟨rfl,rfl⟩
theorem Ob(s:qk)(id:Int)(h:Fs 1048576 s):∃b,EV s id=some (b,())/\JK s id=some (b,()):=by obtain⟨v,v1,v2⟩:=MR s id h;obtain⟨n,n1,n2,_⟩:=Od s.config id (EK h.1);unfold EV JK;simp only[v1,v2,n1,n2,ao];cases v<;>cases s.up<;>cases (n==1)<;>exact⟨_,rfl,rfl⟩
theorem Hy(c:nG)(h:Gu maxLen c):∃l,Fd c=some (l,())/\Iu c=some (l,())/\l.length<=10/\(∀y∈l,0<=y/\y<5)/\SS l/\(EH c=some (true,())->∀y,y∈l↔y∈c.replicas\/y∈c.witnesses):=by
 obtain⟨v,v1,v2⟩:=HS c h;unfold Fd Iu;simp only[v1,v2,ao,EE];cases v with
 |false=>exact⟨[],rfl,rfl,bO _,nofun,List.Pairwise.nil,nofun⟩
 |true=>
  obtain⟨a1,a2,_⟩:=Gq h v1;have l1:=a1.len;have l2:=a2.len;obtain⟨r,r1,r2,r3,r4,r5⟩:=ad7 c.replicas c.witnesses (by omega)
  have rng:∀ {l:List Int},Oe l->∀y∈l,0<=y/\y<5:=by intro l ha y hy;obtain⟨k,hk,rfl⟩:=aU hy;have:=(ha k hk).1;omega
  simp only[C3,r1,r2,ao];refine⟨r,rfl,rfl,by omega,λy hy=>?_,r3,λ_=>r4⟩;rcases(r4 y).1 hy with h|h
  ·exact rng a1 y h
  ·exact rng a2 y h
theorem J2(x:qh)(ok:EP 1048576 x):∃n,Fy x=some (n,())/\HY x=some (n,())/\(n= -1\/0<=n):=by
 obtain⟨v,v1,v2⟩:=Fx x ok;unfold Fy HY;cases v with
 |false=>
  obtain⟨c,d,d1,d2,_⟩:=Mx x.master x.master.activated ok.2.2.1
  have d1:EF x.master=some (c,d,()):=by unfold EF;rw[d1];rfl
  have d2:E0 x.master=some (c,d,()):=by unfold E0;rw[d2];rfl
  have g:FU x c.primary=some (false,()):=by unfold FU Fp;simp only[v2,ao];rfl
  simp only[d1,d2,v1,g,ao];cases d<;>exact⟨-1,rfl,rfl,.inl rfl⟩
 |true=>
  obtain⟨c,d,d1,d2,d3,d4,d5,d6⟩:=H9 x ok v1;have vc:=EZ ok v1;simp only[d1,d2,v1,ao,EE,C3];cases d with
  |false=>exact⟨-1,rfl,rfl,.inl rfl⟩
  |true=>
   obtain⟨asc,_,hpr,_,_,_⟩:=Gq d3 (d5 rfl).1
   have hp:0<=c.primary/\c.primary<5:=by obtain⟨k,hk,e⟩:=aU hpr;have:=(asc k hk).1;omega
   obtain⟨s,s1,s2,_⟩:=HI ok vc hp;obtain⟨b,b1,b2⟩:=Ob s c.primary s2;have wp:HC c.primary 0 4=true:=EI.2 (by omega)
   have g:FU x c.primary=some (b,()):=by unfold FU Fp;simp only[v2,ao,Kb,wp,C3,Cy,if_pos hp.1,s1,b2]
   simp only[C3,Cy,if_pos hp.1,s1,b1,g,ao];cases b with
   |false=>exact⟨-1,rfl,rfl,.inl rfl⟩
   |true=>
    simp only[C3];cases he: (s.config.epoch==c.epoch)with
    |false=>exact⟨-1,rfl,rfl,.inl rfl⟩
    |true=>
     obtain⟨m,m1,m2,m3,m4,_⟩:=Hy c d3;have hm:m.length<=maxLen:=by unfold maxLen;omega
     have fB:=Da (B1:=Gc) (B2:=Fb) m.length
      (λk=>(((),(),(),(k:Int),()),((x.now,x.servers,x.sides,x.master.configs,x.master.activated,x.masterUp,x.lease.epoch,x.lease.holder,x.lease.ends,x.places,()),(c.epoch,c.primary,(),(),()),()),(m,c.replicas,c.witnesses,())))
      (λk=>((m,(x,c,()),(m.length:Int),(k:Int),()),(),()))
      (.inr (((),(),()),((c.epoch,c.primary,(),(),()),()),(c.replicas,c.witnesses,()))) (.inr (((),()),(),()))
      (λ_=>.inl (((-1),(),()),((c.epoch,c.primary,(),(),()),()),(c.replicas,c.witnesses,()))) (λk=>.inl (((k:Int),()),(),()))
      (λ_=>True) (λ_=>True)
      (by simp only[Gc];rw[Dl,if_neg (by omega)])
      (by simp only[Fb];rw[Dl,if_neg (by omega)])
      (λk hk=>by
        have c1: (k:Int)<(m.length:Int):=by omega
        have c2: (0:Int)<=(k:Int)/\(k:Int)<(m.length:Int):=by omega
        have hz:=m4 m[k] (D6 hk);obtain⟨h1,h2⟩:=W5 x ok vc hp hz
        simp only[Gc,Fb,IL,Dl,EE,Cy,if_pos c1,if_pos c2,if_pos c2.1,D4,aq hk,ao,
         show (⟨x.now,x.servers,x.sides,(⟨x.master.configs,x.master.activated⟩:jZ),x.masterUp,(⟨x.lease.epoch,x.lease.holder,x.lease.ends⟩:uN),x.places⟩:qh)=x from rfl,h1,h2,Cb hm hk]
        cases P1 x c.primary m[k]with
        |true=>exact .inl ⟨rfl,rfl,trivial⟩
        |false=>exact .inr ⟨rfl,rfl,trivial⟩)
     simp only[C3,m1,m2,ao,FK,FX];rcases fB with⟨k1,k2,_⟩| ⟨k,_,k1,k2,_⟩
     ·rw[show KU (((),(),(),0,()),((x.now,x.servers,x.sides,x.master.configs,x.master.activated,x.masterUp,x.lease.epoch,x.lease.holder,x.lease.ends,x.places,()),(c.epoch,c.primary,(),(),()),()),(m,c.replicas,c.witnesses,()))=_ from k1,
       show Gm ((m,(x,c,()),(m.length:Int),0,()),(),())=_ from k2]
      simp only[ao,Ek];rw[decide_eq_false (by omega)];exact⟨c.primary,rfl,rfl,.inr hp.1⟩
     ·rw[show KU (((),(),(),0,()),((x.now,x.servers,x.sides,x.master.configs,x.master.activated,x.masterUp,x.lease.epoch,x.lease.holder,x.lease.ends,x.places,()),(c.epoch,c.primary,(),(),()),()),(m,c.replicas,c.witnesses,()))=_ from k1,
       show Gm ((m,(x,c,()),(m.length:Int),0,()),(),())=_ from k2]
      simp only[ao,Eg];rw[decide_eq_true (by omega)];exact⟨-1,rfl,rfl,.inl rfl⟩
theorem Zu(x:qh)(ok:EP 1048576 x):∃b,HO x=some (b,())/\My x=some (b,()):=by
 obtain⟨n,n1,n2,n3⟩:=J2 x ok;unfold HO My;simp only[n1,n2,ao];rcases n3 with rfl|h
 ·exact⟨false,rfl,rfl⟩
 ·refine⟨true,?_,?_⟩
  ·rw[decide_eq_true h]
  ·have : (n== -1)=false:=by
    simp only[beq_eq_false_iff_ne,ne_eq];omega
   rw[this];rfl
end
section
def Pt(s:qk):List rp:=if HC s.commit s.first (s.first+(s.log.length:Int))=true then s.log.take (s.commit-s.first).toNat else []
theorem VL(s:qk)(id:Int)(h:Fs 1048576 s)(hv:EG s id=some (true,())):Fl s=some (Pt s,())/\Jn s=some (Pt s,()):=by
 obtain⟨f1,f2,f3,f4,f5,_⟩:=H8 h hv;unfold Fl Jn Pt;rw[vP (n:=s.first+(s.log.length:Int)) (by omega) (by omega)];simp only[FB,Kb,ao,EE,Dl,if_neg (show ¬s.first<0 by omega)];cases hw:HC s.commit s.first (s.first+(s.log.length:Int))with
 |false=>exact⟨rfl,rfl⟩
 |true=>
  have hw:=EI.1 hw;have d1: (0:Int)<=0/\(0:Int)<=s.commit-s.first/\s.commit-s.first<=(s.log.length:Int):=by omega
  have hs: (s.log.take (s.commit-s.first).toNat).length*56<=2 ^ 40:=by
   have : (s.log.take (s.commit-s.first).toNat).length<=16:=by simp;omega
   have e: (2:Nat) ^ 40=1099511627776:=by decide
   omega
  simp only[C3,if_true];rw[vP (n:=s.commit-s.first) (by omega) (by omega)];simp only[Cy,if_pos d1,Gt,FS,Ey,cE,Ep,bG,if_pos hs,ao];exact⟨trivial,trivial⟩
end
section
theorem adG{s:qk}{id:Int}(h:Fs 1048576 s)(hv:EG s id=some (true,())):s.config=⟨0,0,[],[]⟩\/EH s.config=some (true,()):=by
 have hc:=EK h.1;by_cases hz:s.config=⟨0,0,[],[]⟩
 ·exact .inl hz
 ·right;obtain⟨b,v1,_⟩:=HS s.config hc;cases b with
  |true=>exact v1
  |false=>
   exfalso
   have hr:Fm s.config id=some (0,()):=by unfold Fm;rw[v1];rfl
   unfold EG at hv;simp only[FB,ao,EE,Kd s.config hc,hr,Dl,if_neg hz]at hv;cases h1:HC s.version 1 2 with
   |false=>rw[h1]at hv;cases hv
   |true=>
   cases h2:HC s.epoch 0 20 with
   |false=>rw[h1,h2]at hv;cases hv
   |true=>
   rcases isLog s.log (EO h.2.1)with⟨a1,a2,a3⟩| ⟨a1,a2⟩
   case inr=>simp only[h1,h2,a1,ao,C3,Ce]at hv;cases hv
   rcases isLog s.learned (EO h.2.2)with⟨b1,b2,b3⟩| ⟨b1,b2⟩
   case inr=>simp only[h1,h2,a1,b1,ao,C3,Ce]at hv;cases hv
   obtain⟨n,n1,n2⟩:=Io s.log (EO h.2.1);simp only[h1,h2,a1,b1,n1,ao,C3]at hv;cases h3:HC s.first 0 16<;>rw[h3]at hv
   ·cases hv
   ·cases h4:HC (IntKind.wrap .i64 (s.first+(s.log.length:Int))) 0 16<;>rw[h4]at hv
    ·cases hv
    ·cases h5:HC s.commit 0 (IntKind.wrap .i64 (s.first+(s.log.length:Int)))<;>rw[h5]at hv
     ·cases hv
     ·cases h6:s.intact<;>rw[h6]at hv
      ·cases hv
      ·simp only[C3]at hv
       repeat' split at hv
       all_goals cases hv
def data(s:qk)(id:Int):List rp:=if id∈s.config.replicas then(if(Pt s).length>s.learned.length then Pt s else s.learned)else s.learned
theorem YM(s:qk)(id:Int)(h:Fs 1048576 s)(hv:EG s id=some (true,())):L3 s id=some (data s id,())/\Ii s id=some (data s id,()):=by
 have hc:=EK h.1;obtain⟨p1,p2⟩:=VL s id h hv
 have hs:s.learned.length*56<=2 ^ 40:=by
  have e: (2:Nat) ^ 40=1099511627776:=by decide
  have:=h.2.2;omega
 have cmp: ((Pt s).length:Int)>(s.learned.length:Int)↔(Pt s).length>s.learned.length:=by omega
 have hrep:Mz s id=some (decide (id∈s.config.replicas),()):=by unfold Mz;rw[(EY s.config.replicas id hc.1).2];rfl
 have himpl:Ii s id=some (data s id,()):=by
  unfold Ii FS data;simp only[p2,hrep,ao,Dl,Cy,if_pos hs,cmp];split
  ·split<;>rfl
  ·rfl
 refine⟨?_,himpl⟩
 have hrole:∃r,Fm s.config id=some (r,())/\((r=1\/r=2)↔id∈s.config.replicas):=by
  rcases adG h hv with hz|hvc
  ·refine⟨0,?_,?_⟩
   ·rw[hz];rfl
   ·rw[hz];simp
  ·obtain⟨_,_,hpr,_⟩:=Gq hc hvc;unfold Fm;simp only[hvc,ao,EE,C3,Gw,(EY s.config.replicas id hc.1).1,(EY s.config.witnesses id hc.2).1,Dl];by_cases h1:id=s.config.primary
   ·rw[if_pos h1];exact⟨1,rfl,by simp[h1,hpr]⟩
   ·rw[if_neg h1];by_cases h2:id∈s.config.replicas
    ·rw[if_pos h2];exact⟨2,rfl,by simp[h2]⟩
    ·rw[if_neg h2];split
     ·exact⟨3,rfl,by simp[h2]⟩
     ·exact⟨0,rfl,by simp[h2]⟩
 obtain⟨r,r1,r2⟩:=hrole;unfold L3 Gt data;simp only[r1,p1,bG,Cy,if_pos hs,ao,Gw,Dl,cmp];by_cases h1:r=1
 ·rw[if_pos h1,if_pos (r2.1 (.inl h1))];split<;>rfl
 ·rw[if_neg h1];by_cases h2:r=2
  ·rw[if_pos h2,if_pos (r2.1 (.inr h2))];split<;>rfl
  ·rw[if_neg h2,if_neg (λh=>by rcases r2.2 h with h|h<;>contradiction)]
end
end Go.Proofs.YtkghndikalnipaaGreat.En
namespace Go.Proofs.YtkghndikalnipaaGreat.En
open Go.IntKind renaming wrap→aeq
open Go
theorem aaa(n:Int)(h0:0<=n)(h1:n<=1000000):I6 n=some ([],()):=by
 unfold I6;have e1:aeq .i64 ((0:Int)-0)=0:=vP (by decide) (by decide);have e2:aeq .i64 (n-0)=n:=by rw[vP (by omega) (by omega)];omega
 simp only[e1,e2,Dl,if_neg (show ¬n<0 by omega)];by_cases h:n>0
 ·have e: (2:Int) ^ 40=1099511627776:=by decide
  have c1:0<n/\n*((56:Nat):Int)<=2 ^ 40:=⟨h,by omega⟩
  have c2: (0:Int)<=0/\(0:Int)<=0/\(0:Int)<=((n.toNat:Nat):Int):=by omega
  simp only[if_pos h,Cy,if_pos c1,if_pos c2,and_self,if_true];simp
 ·simp only[if_neg h]
theorem abx(l:List (List rp))(hl:l.length<=10)(h:∀a∈l,a.length<=1000):Im l=some (l.flatten,()):=by
 have hm:l.length<=maxLen:=by unfold maxLen;omega
 have tot:∀k,(l.take k).flatten.length<=k*1000:=by
  intro k
  induction k with
  |zero=>simp
  |succ k ih=>
   cases hx:l[k]? with
   |none=>
    have hle:l.length<=k:=by simpa using hx
    rw[bW hle]at ih;rw[bW (Ef hle)];exact aX ih (bz _ (cL k))
   |some a=>rw[GS hx,Es,bL];have:=h a (aA hx);simp only[List.flatten_cons,List.flatten_nil,bP];rw[Nat.succ_mul];exact Nat.add_le_add ih this
 have k1:=CC (B:=Hw) l (λk (n:Int)=>((l,n,l,(l.length:Int),(k:Int),()),(),())) (λk n=>n=((l.take k).flatten.length:Int)) (λ_ _ _=>((l,(l.flatten.length:Int),()),(),()))
  (λn hn=>by simp only[Hw];rw[Dl,if_neg (by omega),hn,D9])
  (λk n a hx hn=>by
    have hk:=Du hx;have c1: (k:Int)<(l.length:Int):=by omega
    have c2: (0:Int)<=(k:Int):=by omega
    have t:=tot k;have ha:=h a (aA hx);have hk10:k*1000<=10000:=by omega
    refine .inl ⟨n+(a.length:Int),?_,?_,rfl⟩
    ·simp only[Hw,Dl,Cy,if_pos c1,if_pos c2,D4,hx,ao,Cb hm hk,vP (n:=n+(a.length:Int)) (by omega) (by omega),if_neg (show ¬n+(a.length:Int)<0 by omega)]
    ·rw[GS hx,Es,bL,hn];simp)
  0 0 (bO _) (by simp)
 have t:=tot l.length;rw[D9]at t
 have k2:=CC (B:=Hj) l (λk (b:List rp)=>(((),l,(l.length:Int),(k:Int),()),(),(b,()))) (λk b=>b=(l.take k).flatten) (λ_ _ _=>(((),()),(),(l.flatten,())))
  (λb hb=>by simp only[Hj];rw[Dl,if_neg (by omega),hb,D9])
  (λk b a hx hb=>by
    have hk:=Du hx;have c1: (k:Int)<(l.length:Int):=by omega
    have c2: (0:Int)<=(k:Int):=by omega
    have t:=tot k;have ha:=h a (aA hx);have hs: (b++a).length*56<=2 ^ 40:=Rx (by rw[hb,bL];omega) (by decide);refine .inl ⟨b++a,?_,?_,rfl⟩
    ·simp only[Hj,Dl,Cy,if_pos c1,if_pos c2,D4,hx,ao,Cb hm hk,if_pos hs]
    ·rw[GS hx,Es,hb];simp)
  0 [] (bO _) (by simp)
 unfold Im;rw[show Ol ((l,0,l,(l.length:Int),0,()),(),())=_ from k1];simp only[ao,aaa _ (show (0:Int)<=(l.flatten.length:Int) by omega) (by omega)];rw[show NV (((),l,(l.length:Int),0,()),(),([],()))=_ from k2];rfl
theorem acg(x y:rp): ((x.epoch==y.epoch)&&((x.op.client==y.op.client)&&((x.op.seq==y.op.seq)&&((x.op.kind==y.op.kind)&&((x.op.object==y.op.object)&&((x.op.old==y.op.old)&&((x.op.value==y.op.value)&&true)))))))=decide (x=y):=by obtain⟨a,b,c,d,e,f,g⟩:=x;obtain⟨a',b',c',d',e',f',g'⟩:=y;rw[bJ];simp[and_assoc]
theorem XU(a b:List rp)(ha:a.length<=maxLen):Ht a b=some (decide (a=b),()):=by
 unfold Ht;rw[EE,Gw];split
 ·rename_i hl;have hl:a.length=b.length:=by omega
  rcases NR (B:=HX) a.length (λk=>((a,b,(a.length:Int),(k:Int),()),(),())) (.inr (((),()),(),())) (λ_=>.inl ((false,()),(),())) (λk=>decide (a[k]? ≠b[k]?))
   (by simp only[HX];rw[Dl,if_neg (by omega)])
   (λk hk=>by
     have c1: (k:Int)<(a.length:Int):=by omega
     have c2: (0:Int)<=(k:Int):=by omega
     have hk':k<b.length:=by omega
     simp only[HX,acg,EE,Dl,Cy,if_pos c1,if_pos c2,D4,aq hk,aq hk',ao,Cb ha hk];by_cases h:a[k]=b[k]<;>simp[h])with⟨k1,k2⟩| ⟨i,hi,k1,k2,_⟩
  ·rw[show Mb ((a,b,(a.length:Int),0,()),(),())=_ from k1]
   have :a=b:=List.ext_getElem hl λk h1 h2=>by have:=k2 k h1;rw[aq h1,aq h2]at this;simpa using this
   rw[decide_eq_true this];rfl
  ·rw[show Mb ((a,b,(a.length:Int),0,()),(),())=_ from k1]
   have :a≠b:=λh=>by rw[h]at k2;simp at k2
   rw[decide_eq_false this];rfl
 ·rename_i hl;have :a≠b:=λh=>hl (by rw[h]);rw[decide_eq_false this]
theorem RA(a b:List rp)(ha:a.length<=maxLen):∃n:Nat,H2 a b=some ((n:Int),())/\n<=a.length/\n<=b.length/\a.take n=b.take n/\(n<a.length->n<b.length->a[n]? ≠b[n]?):=by
 rcases NR (B:=Hg) a.length (λk=>((a,b,(k:Int),()),(),())) ((((a.length:Nat):Int),()),(),()) (λk=>(((k:Int),()),(),())) (λk=>decide (a[k]? ≠b[k]?))
  (by simp only[Hg];rw[Dl,if_neg (by omega)])
  (λk hk=>by
    have c1: (k:Int)<(a.length:Int):=by omega
    have c2: (0:Int)<=(k:Int):=by omega
    by_cases hk':k<b.length
    ·have c3: (k:Int)<(b.length:Int):=by omega
     simp only[Hg,acg,Dl,Cy,if_pos c1,if_pos c2,if_pos c3,D4,aq hk,aq hk',ao,Cb ha hk];by_cases h:a[k]=b[k]<;>simp[h]
    ·have c3: ¬ (k:Int)<(b.length:Int):=by omega
     simp only[Hg,Dl,if_pos c1,if_neg c3,aq hk,cx (show b.length<=k by omega)];simp)with⟨k1,k2⟩| ⟨i,hi,k1,k2,k3⟩
 ·have eq:∀k,k<a.length->a[k]?=b[k]? :=λk hk=>by simpa using k2 k hk
  have hl:a.length<=b.length:=by
   rcases bo a.length with h|h
   ·omega
   ·have:=eq (a.length-1) (by omega);rw[aq (by omega)]at this;have:=Du this.symm;omega
  refine⟨a.length,?_,az _,hl,?_,λh=>absurd h (dA _)⟩
  ·unfold H2;rw[show L8 ((a,b,0,()),(),())=_ from k1];rfl
  ·refine bA λk=>?_;rw[bn,bn];split
   ·exact eq k (by assumption)
   ·rfl
 ·have eq:∀k,k<i->a[k]?=b[k]? :=λk hk=>by simpa using k3 k hk
  have hl:i<=b.length:=by
   rcases bo i with h|h
   ·omega
   ·have:=eq (i-1) (by omega);rw[aq (by omega)]at this;have:=Du this.symm;omega
  refine⟨i,?_,by omega,hl,?_,λ_ _=>by simpa using k2⟩
  ·unfold H2;rw[show L8 ((a,b,0,()),(),())=_ from k1];rfl
  ·refine bA λk=>?_;rw[bn,bn];split
   ·exact eq k (by assumption)
   ·rfl
theorem aah(a:List rp)(n:Int)(t:List rp)(ha:a.length<=1048576)(ht:t.length<=1048576):∃l b,KP a n t=some (l,b,())/\Ny a n t=some (l,b,())/\l.length<=19:=by
 unfold KP Ny QE Nz;rcases isLog a (EO ha)with⟨a1,a2,a3⟩| ⟨a1,a2⟩
 case inr=>simp only[a1,a2,ao];exact⟨_,_,rfl,rfl,bO _⟩
 rcases isLog t (EO ht)with⟨t1,t2,t3⟩| ⟨t1,t2⟩
 case inr=>simp only[a1,a2,t1,t2,ao];exact⟨_,_,rfl,rfl,bO _⟩
 simp only[a1,a2,t1,t2,ao,EE,C3,FB,Kb];by_cases c1: (t.length:Int)<=3
 case neg=>simp only[Dl,if_neg c1];exact⟨_,_,rfl,rfl,bO _⟩
 rw[vP (n:=16-(t.length:Int)) (by omega) (by omega)];cases hw:HC n 0 (16-(t.length:Int))with
 |false=>simp only[Dl,if_pos c1];exact⟨_,_,rfl,rfl,bO _⟩
 |true=>
  have hw:=EI.1 hw;simp only[Dl,if_pos c1,C3]
  have rest:∃l b,(if n>(a.length:Int)then some (([]:List rp),false,())else iteP (0<=n/\n<=(a.length:Int)/\(a.length:Int)<=(a.length:Int)) ((H2 ((a.drop n.toNat).take ((a.length:Int).toNat-n.toNat)) t).bind λy3=>if y3.1<(if(t.length:Int)<(aeq .i64 ((a.length:Int)-n))then(t.length:Int)else(aeq .i64 ((a.length:Int)-n)))then some (([]:List rp),false,())else((Gt a).bind λy4=>iteP (0<=y3.1/\y3.1<=(t.length:Int)/\(t.length:Int)<=(t.length:Int)) (iteP ((y4.1++((t.drop y3.1.toNat).take ((t.length:Int).toNat-y3.1.toNat))).length*56<=2 ^ 40) ((FE (y4.1++((t.drop y3.1.toNat).take ((t.length:Int).toNat-y3.1.toNat)))).bind λy5=>br y5.1 (some ((y4.1++((t.drop y3.1.toNat).take ((t.length:Int).toNat-y3.1.toNat))),true,())) (some (([]:List rp),false,()))) none) none)) none)=some (l,b,())/\
    (if n>(a.length:Int)then some (([]:List rp),false,())else iteP (0<=(if(aeq .i64 ((a.length:Int)-n))<(t.length:Int)then(aeq .i64 ((a.length:Int)-n))else(t.length:Int))/\(if(aeq .i64 ((a.length:Int)-n))<(t.length:Int)then(aeq .i64 ((a.length:Int)-n))else(t.length:Int))<=(t.length:Int)/\(t.length:Int)<=(t.length:Int)) ((Im ([a,((t.drop (if(aeq .i64 ((a.length:Int)-n))<(t.length:Int)then(aeq .i64 ((a.length:Int)-n))else(t.length:Int)).toNat).take ((t.length:Int).toNat-(if(aeq .i64 ((a.length:Int)-n))<(t.length:Int)then(aeq .i64 ((a.length:Int)-n))else(t.length:Int)).toNat))]:List (List rp))).bind λy3=>iteP (0<=n/\n<=(aeq .i64 (n+(if(aeq .i64 ((a.length:Int)-n))<(t.length:Int)then(aeq .i64 ((a.length:Int)-n))else(t.length:Int))))/\(aeq .i64 (n+(if(aeq .i64 ((a.length:Int)-n))<(t.length:Int)then(aeq .i64 ((a.length:Int)-n))else(t.length:Int))))<=(a.length:Int)) (iteP (0<=(0:Int)/\(0:Int)<=(if(aeq .i64 ((a.length:Int)-n))<(t.length:Int)then(aeq .i64 ((a.length:Int)-n))else(t.length:Int))/\(if(aeq .i64 ((a.length:Int)-n))<(t.length:Int)then(aeq .i64 ((a.length:Int)-n))else(t.length:Int))<=(t.length:Int)) ((Ht ((a.drop n.toNat).take ((aeq .i64 (n+(if(aeq .i64 ((a.length:Int)-n))<(t.length:Int)then(aeq .i64 ((a.length:Int)-n))else(t.length:Int)))).toNat-n.toNat)) ((t.drop (0:Int).toNat).take ((if(aeq .i64 ((a.length:Int)-n))<(t.length:Int)then(aeq .i64 ((a.length:Int)-n))else(t.length:Int)).toNat-(0:Int).toNat))).bind λy4=>br y4.1 ((Jg y3.1).bind λy5=>br y5.1 (some (y3.1,true,())) (some (([]:List rp),false,()))) (some (([]:List rp),false,()))) none) none) none)=some (l,b,())/\l.length<=19:=by
   by_cases c2:n>(a.length:Int)
   ·simp only[if_pos c2];exact⟨_,_,rfl,rfl,bO _⟩
   ·rw[vP (n:=(a.length:Int)-n) (by omega) (by omega)];obtain⟨i,rfl⟩:∃i:Nat,n=(i:Int):=⟨n.toNat,by omega⟩
    have hm: (if(a.length:Int)-(i:Int)<(t.length:Int)then(a.length:Int)-(i:Int)else(t.length:Int))=((min t.length (a.length-i):Nat):Int):=by split<;>omega
    have hm2: (if(t.length:Int)<(a.length:Int)-(i:Int)then(t.length:Int)else(a.length:Int)-(i:Int))=((min t.length (a.length-i):Nat):Int):=by split<;>omega
    rw[hm,hm2];generalize hM:min t.length (a.length-i)=m;have d1: (0:Int)<=(i:Int)/\(i:Int)<=(a.length:Int)/\(a.length:Int)<=(a.length:Int):=by omega
    have d2: (0:Int)<=(m:Int)/\(m:Int)<=(t.length:Int)/\(t.length:Int)<=(t.length:Int):=by omega
    have d3: (0:Int)<=(i:Int)/\(i:Int)<=((i:Int)+(m:Int))/\((i:Int)+(m:Int))<=(a.length:Int):=by omega
    have d4: (0:Int)<=0/\(0:Int)<=(m:Int)/\(m:Int)<=(t.length:Int):=by omega
    have e1: (a.drop i).take (a.length-i)=a.drop i:=bW (by simp);have e2: (t.drop m).take (t.length-m)=t.drop m:=bW (by simp);have e3: ((i:Int)+(m:Int)).toNat-i=m:=by omega
    have hc:=abx [a,t.drop m] (by simp) (by
     intro z hz;simp only[aZ,List.not_mem_nil,or_false]at hz;rcases hz with rfl|rfl
     ·omega
     ·simp;omega)
    rw[show ([a,t.drop m]:List (List rp)).flatten=a++t.drop m by simp]at hc;rw[vP (n:=(i:Int)+(m:Int)) (by omega) (by omega)];have hx: (a++t.drop m).length<=19:=by simp;omega
    have hxm: (a++t.drop m).length<=maxLen:=by unfold maxLen;omega
    have he:=XU ((a.drop i).take m) (t.take m) (by simp[maxLen];omega);obtain⟨k,k1,k2,k3,k4,k5⟩:=RA (a.drop i) t (by simp[maxLen];omega);simp only[if_neg c2,Cy,if_pos d1,if_pos d2,if_pos d3,if_pos d4,D4,Ey,cE,Ep,e1,e2,e3,hc,he,k1,ao,Dl];have hk:k<=m:=by simp at k2;omega
    by_cases hkm:k=m
    ·subst hkm;simp only[if_neg (show ¬ ((k:Int)<(k:Int)) by omega),(Jd a ha).1,ao,if_pos d2,e2,if_pos k4];rw[if_pos (Rx (by omega) (by decide))];rcases isLog (a++t.drop k) hxm with⟨z1,z2,_⟩| ⟨z1,z2⟩
     ·simp only[z1,z2,ao];exact⟨_,_,rfl,rfl,hx⟩
     ·simp only[z1,z2,ao];exact⟨_,_,rfl,rfl,bO _⟩
    ·have hlt:k<m:=by omega
     have hne: ¬ (a.drop i).take m=t.take m:=λh=>by have:=congrArg (λz:List rp=>z[k]?) h;simp only[bn,if_pos hlt]at this;exact k5 (by simp;omega) (by omega) this
     simp only[if_pos (show ((k:Int)<(m:Int)) by omega),if_neg hne];exact⟨_,_,rfl,rfl,bO _⟩
  by_cases h0:n=0
  ·simp only[Gw,if_pos h0,C3];exact rest
  ·simp only[Gw,if_neg h0];by_cases h3: (t.length:Int)=3
   ·simp only[h3,beq_self_eq_true,C3];rw[h3]at rest;exact rest
   ·have : ((t.length:Int)==3)=false:=by simpa using h3
    simp only[this,Ce];exact⟨_,_,rfl,rfl,bO _⟩
end Go.Proofs.YtkghndikalnipaaGreat.En
namespace Go.Proofs.YtkghndikalnipaaGreat.En
open Go
section
theorem XG(x:uN):DF (LZ x) (LR x):=by
 obtain⟨b,h1,h2⟩:=Pm x;unfold LZ LR;simp only[h1,h2,ao];cases b with
 |false=>simp only[El,C3];cases ((x.epoch==0)&&((x.holder==0)&&((x.ends==0)&&true)))<;>exact⟨_,rfl,rfl⟩
 |true=>
  simp only[dg,Ce];cases he:x.ends==0 with
  |true=>
   cases hz: ((x.epoch==0)&&((x.holder==0)&&(true&&true)))with
   |true=>exact⟨_,rfl,rfl⟩
   |false=>
    exfalso;unfold Hx at h2;rw[he,hz]at h2;simp only[Ce,Kb,ao]at h2
    have hw:HC x.ends 1 1049=false:=by rw[Bool.eq_false_iff];intro hw;have:=EI.1 hw;simp only[beq_iff_eq]at he;omega
    rw[hw]at h2;revert h2;cases HC x.epoch 1 20<;>cases HC x.holder 0 4<;>intro h2<;>cases h2
  |false=>
   have hz: ((x.epoch==0)&&((x.holder==0)&&(false&&true)))=false:=by cases x.epoch==0<;>cases x.holder==0<;>rfl
   rw[hz];exact⟨_,rfl,rfl⟩
theorem SU(x:uN)(n:Int):DF (IH x n) (Hn x n):=by obtain⟨b,h1,h2⟩:=Pm x;obtain⟨t,t1,t2⟩:=XG x;unfold IH Hn;simp only[h1,h2,t1,t2,FB,Kb,ao];cases b<;>cases HC n 0 999<;>exact⟨_,rfl,rfl⟩
end
section
theorem Sw{l:List uQ}(hl:l.length<=maxLen)(hv:FG l=some (true,())):l.length=5:=by
 obtain⟨b,h1,h2⟩:=Nr l hl;rw[hv]at h1;simp only[af,au,and_true]at h1;subst h1;unfold KY at h2;cases h: ((l.length:Int)==5)with
 |false=>rw[h]at h2;cases h2
 |true=>simp only[beq_iff_eq]at h;omega
end
section
theorem UX(a b:List Int)(ha:Oe a)(hb:b.length<=maxLen):F3 a b=some (a.filter λx=> !decide (x∈b),()):=by
 have hl:=ha.len;have hm:a.length<=maxLen:=by unfold maxLen;omega
 have hp:=ha.pair
 have fB:=CC (B:=Hh) a (λk (out:List Int)=>((a,b,(),(k:Int),()),(),(out,()))) (λk out=>out=(a.take k).filter λx=> !decide (x∈b)) (λk r out=>(((),()),(),(out++r.filter λx=> !decide (x∈b),())))
  (λout hb=>by simp only[Hh];rw[Dl,if_neg (by omega)];simp)
  (λk out x hx hout=>by
    have hk:=Du hx;have c1: (k:Int)<(a.length:Int):=by omega
    have c2: (0:Int)<=(k:Int):=by omega
    have hxe:a[k]=x:=by rw[aq hk]at hx;exact Option.some.inj hx
    simp only[Hh,EE,Dl,Cy,if_pos c1,if_pos c2,D4,hx,ao,(EY b x hb).1,Cb hm hk];by_cases hin:x∈b
    ·simp only[if_pos hin];refine .inl ⟨out,rfl,?_,?_⟩
     ·rw[hout,Ee,hx,Eh];simp[hin]
     ·simp[hin]
    ·have hlt:∀y∈out,y<x:=by
      intro y hy;rw[hout,Et]at hy;obtain⟨i,hi,he⟩:=aU hy.1;have hi':i<k:=by simp at hi;omega
      rw[Eu]at he;rw[<-he,<-hxe];exact Ec.1 hp i k (by omega) hk hi'
     have hol:out.length<=1000:=by rw[hout];have:=Ez (λx=> !decide (x∈b)) (a.take k);simp only[cR]at this;omega
     simp only[if_neg hin,WJ out x hol hlt,ao];refine .inl ⟨out++ [x],rfl,?_,?_⟩
     ·rw[hout,Ee,hx,Eh];simp[hin]
     ·simp[hin])
  0 [] (bO _) rfl
 unfold F3;rw[show NU ((a,b,(),0,()),(),([],()))=_ from fB];rfl
end
section
theorem PP{l:List Int}(h:SS l)(hr:∀y∈l,0<=y/\y<5):Oe l:=by intro k hk;have:=hr _ (D6 hk);exact⟨by omega,λh0=>Ec.1 h _ _ (by omega) hk (by omega)⟩
theorem QB{l:List Int}(h:Oe l):Gj l=some (true,())/\HJ l=some (true,()):=by
 have hl:=h.len;have hm:l.length<=maxLen:=by unfold maxLen;omega
 obtain⟨_,_,h1,h2⟩:=Mu (B1:=GV) (B2:=GU) l.length (λk (_:Unit)=>((l,(k:Int),()),(),())) (λk _=>((l,l,(l.length:Int),(k:Int),()),(),())) (λ_ _=>True) (λ_=>.inr (((),()),(),())) (λ_=>.inr (((),()),(),()))
  (λ_ _=>by simp only[GV,GU,Dl];exact⟨if_neg (by omega),if_neg (by omega)⟩)
  (λk _ hk _=>by
    have c1: (k:Int)<(l.length:Int):=by omega
    have c2: (0:Int)<=(k:Int):=by omega
    obtain⟨r1,r2⟩:=h k hk;have w:HC l[k] 0 4=true:=EI.2 r1;refine⟨(),?_⟩;simp only[GV,GU,Dl,Cy,if_pos c1,if_pos c2,D4,aq hk,ao,FB,Kb,w,dg,Ce,Cb hm hk];by_cases h0:0<k
    ·have c3: (k:Int)>0:=by omega
     have c4: (0:Int)<=((k-1:Nat):Int):=by omega
     have e2:l[k-1]?=some l[k-1] :=aq (by omega);have:=r2 h0;simp only[if_pos c3,B9 h0 (by omega),if_pos c4,D4,e2,ao,if_neg (show ¬l[k-1] ≥l[k] by omega),if_neg (show ¬l[k] <=l[k-1] by omega),and_self]
    ·simp only[if_neg (show ¬ (k:Int)>0 by omega),and_self])
  () trivial
 unfold Gj HJ;rw[show LA ((l,0,()),(),())=_ from h1,show Lz ((l,l,(l.length:Int),0,()),(),())=_ from h2];exact⟨rfl,rfl⟩
end
section

end
section
theorem XA{m:jZ}(h:Md 1048576 m)(hv:EU m=some (true,())):m.configs.length<=20:=by
 obtain⟨f,_,_⟩:=Np (Gp h) hv;rcases bo m.configs.length with h0|h0
 ·omega
 ·have hk:m.configs.length-1<m.configs.length:=by omega
  obtain⟨f1,f2⟩:=f _ hk;have:=(Gq (EK (h.2 _ (D6 hk))) f1).2.2.2.2.1;omega
theorem Rb(m:jZ)(c:nG)(h:Md 1048576 m)(hc:Gu 1048576 c):∃r b,GK m c=some (r,b,())/\Jr m c=some (r,b,())/\Md 1048576 r/\True/\(b=false->r=m)/\(b=true->r=⟨m.configs++ [c],m.activated⟩/\EU m=some (true,())/\EH c=some (true,())/\c.epoch=(m.configs.length:Int)+1):=by
 obtain⟨v,v1,v2⟩:=masterLog m (Gp h);obtain⟨u,u1,u2⟩:=HS c (EK hc);have hl:=h.1;unfold GK Jr;simp only[(Pj m h).1,(Pj m h).2,(Na c hc).1,(Na c hc).2,v1,v2,u1,u2,ao,EE,Gw];cases v with
 |false=>exact⟨m,false,rfl,rfl,h,trivial,λ_=>rfl,nofun⟩
 |true=>
  cases u with
  |false=>exact⟨m,false,rfl,rfl,h,trivial,λ_=>rfl,nofun⟩
  |true=>
   have hm:=XA h v1;rw[vP (n:=(m.configs.length:Int)+1) (by omega) (by omega)];by_cases he:c.epoch=(m.configs.length:Int)+1
   ·have hs: (m.configs++ [c]).length*64<=2 ^ 40:=Rx (by simp;omega) (by decide);simp only[C3,if_pos he,Cy,if_pos hs];refine⟨_,true,rfl,rfl,⟨by simp;omega,λd hd=>?_⟩,trivial,nofun,λ_=>⟨rfl,trivial,trivial,he⟩⟩
    ·rcases bC.1 hd with h1|h1
     ·exact h.2 d h1
     ·rw[aL.1 h1];exact hc
   ·simp only[C3,if_neg he];exact⟨m,false,rfl,rfl,h,trivial,λ_=>rfl,nofun⟩
theorem TL(m:jZ)(e:Int)(h:Md 1048576 m):∃r b,FQ m e=some (r,b,())/\IY m e=some (r,b,())/\Md 1048576 r/\True/\(b=false->r=m)/\(b=true->r=⟨m.configs,e⟩/\EU m=some (true,())/\e=(m.configs.length:Int)/\m.activated<e):=by
 obtain⟨v,v1,v2⟩:=masterLog m (Gp h);unfold FQ IY;simp only[(Pj m h).1,(Pj m h).2,v1,v2,ao,EE,Gw,Dl];cases v with
 |false=>exact⟨m,false,rfl,rfl,h,trivial,λ_=>rfl,nofun⟩
 |true=>
  simp only[C3];by_cases h1:e=(m.configs.length:Int)
  ·by_cases h2:e<=m.activated
   ·simp only[if_pos h1,if_pos h2];exact⟨m,false,rfl,rfl,h,trivial,λ_=>rfl,nofun⟩
   ·simp only[if_pos h1,if_neg h2];exact⟨⟨m.configs,e⟩,true,rfl,rfl,h,trivial,nofun,λ_=>⟨rfl,trivial,h1,by omega⟩⟩
  ·simp only[if_neg h1];exact⟨m,false,rfl,rfl,h,trivial,λ_=>rfl,nofun⟩
def cutAt(l:List rp):Nat:=l.length-3
theorem TR(l:List rp)(hl:l.length<=1048576): (if IntKind.wrap .i64 ((l.length:Int)-3)>0 then IntKind.wrap .i64 ((l.length:Int)-3)else 0)=((cutAt l:Nat):Int):=by rw[vP (by omega) (by omega)];unfold cutAt;split<;>omega
theorem YL(l:List rp)(hl:l.length<=1048576)(hv:Jg l=some (true,())):Nu l=some (((cutAt l:Nat):Int),l.drop (cutAt l),()):=by
 unfold Nu;have hc:cutAt l<=l.length:=by unfold cutAt;omega
 have c1: (0:Int)<=((cutAt l:Nat):Int)/\((cutAt l:Nat):Int)<=(l.length:Int)/\(l.length:Int)<=(l.length:Int):=by omega
 have ht: ((l.drop (cutAt l)).take (l.length-cutAt l))=l.drop (cutAt l):=bW (by simp);simp only[hv,ao,dg,Ce,TR l hl,Cy,if_pos c1,D4,ht,(Jd (l.drop (cutAt l)) (by simp;omega)).2]
def XY(s:qk)(c:nG)(l:List rp)(w:Bool):qk:=if w=true then⟨s.up,true,s.version,c.epoch,c,((cutAt l:Nat):Int),l.drop (cutAt l),(l.length:Int),[]⟩else⟨s.up,true,s.version,c.epoch,c,0,l,(l.length:Int),[]⟩
theorem abF{s:qk}{c:nG}{l:List rp}{w:Bool}(hc:Gu 1048576 c)(hl:l.length<=1048576):Fs 1048576 (XY s c l w):=by
 unfold XY;cases w
 ·exact⟨hc,hl,bO _⟩
 ·exact⟨hc,by simp;omega,bO _⟩
theorem U1(s:qk)(c:nG)(id:Int)(l:List rp)(hs:Fs 1048576 s)(hc:Gu 1048576 c)(hl:l.length<=1048576):∃r b,F1 s c id l=some (r,b,())/\Jq s c id l=some (r,b,())/\Fs 1048576 r/\True/\(b=false->r=s)/\(b=true->∃w,r=XY s c l w):=by
 obtain⟨n,r1,r2,_⟩:=Od c id (EK hc);obtain⟨e,e1,e2⟩:=Io l (EO hl);obtain⟨q,q1,q2⟩:=aaY l (EO hl);have no:∃r b,some (s,false,())=some (r,b,())/\some (s,false,())=some (r,b,())/\Fs 1048576 r/\True/\(b=false->r=s)/\(b=true->∃w,r=XY s c l w):=⟨s,false,rfl,rfl,hs,trivial,λ_=>rfl,nofun⟩
 unfold F1 Jq;simp only[r1,r2,(Nb s hs).1,(Nb s hs).2,(Na c hc).1,(Na c hc).2,(Jd l hl).1,(Jd l hl).2,FB,Kb,e1,e2,q1,q2,ao,EE,Dl];have hcut:cutAt l<=l.length:=by unfold cutAt;omega
 have c1: (0:Int)<=((cutAt l:Nat):Int)/\((cutAt l:Nat):Int)<=(l.length:Int)/\(l.length:Int)<=(l.length:Int):=by omega
 have ht: ((l.drop (cutAt l)).take (l.length-cutAt l))=l.drop (cutAt l):=bW (by simp);cases hn:n==0 with
 |true=>exact no
 |false=>
 rcases isLog l (EO hl)with⟨a1,a2,_⟩| ⟨a1,a2⟩
 case inr=>simp only[a1,a2,ao,Ce];exact no
 simp only[a1,a2,ao,C3,Ce,TR l hl,Cy,if_pos c1,D4,ht,(Jd (l.drop (cutAt l)) (by simp;omega)).1,YL l hl a2];cases HC s.version 1 2 with
 |false=>exact no
 |true=>
 cases HC s.epoch 0 c.epoch with
 |false=>exact no
 |true=>
 simp only[C3];by_cases he:e>c.epoch
 ·simp only[if_pos he];exact no
 simp only[if_neg he]
 have yes:∀w,∃r b,some (XY s c l w,true,())=some (r,b,())/\some (XY s c l w,true,())=some (r,b,())/\Fs 1048576 r/\True/\(b=false->r=s)/\(b=true->∃w,r=XY s c l w):=by intro w;have o1:=abF (s:=s) (c:=c) (l:=l) (w:=w) hc hl;exact⟨_,true,rfl,rfl,o1,trivial,nofun,λ_=>⟨w,rfl⟩⟩
 cases s.version==1 with
 |false=>
  cases n==3 with
  |false=>exact yes false
  |true=>exact yes true
 |true=>
  cases q with
  |true=>exact no
  |false=>
   cases n==3 with
   |false=>exact yes false
   |true=>exact yes true
end
section

end
section

end
section

end
section
theorem Z3(s:qk)(id:Int)(h:Fs 1048576 s): (data s id).length<=1048576:=by
 have h1:=h.2.1;have h2:=h.2.2
 have h3: (Pt s).length<=s.log.length:=by
  unfold Pt;split
  ·simp;omega
  ·exact bO _
 unfold data;split
 ·split<;>omega
 ·exact h2
end
section
abbrev fx(x:qh):Int×List qk×List Int×List nG×Int×Int×Int×Int×Int×List uQ×Unit:=(x.now,x.servers,x.sides,x.master.configs,x.master.activated,x.masterUp,x.lease.epoch,x.lease.holder,x.lease.ends,x.places,())
abbrev fsv(s:qk):Bool×Bool×Int×Int×Int×Int×List Int×List Int×Int×List rp×Int×List rp×Unit:=(s.up,s.intact,s.version,s.epoch,s.config.epoch,s.config.primary,s.config.replicas,s.config.witnesses,s.first,s.log,s.commit,s.learned,())
structure ZV (x x':qh):Prop where
 sides:x'.sides=x.sides
 master:x'.master=x.master
 srv:∀ (k:Nat) (s:qk),x.servers[k]?=some s->∃e,x'.servers[k]?=some (⟨s.up,s.intact,s.version,e,s.config,s.first,s.log,s.commit,s.learned⟩:qk)
theorem ZV.refl(x:qh):ZV x x:=⟨rfl,rfl,λ_ s h=>⟨s.epoch,h⟩⟩
theorem ZV.side{x x':qh}(h:ZV x x')(a:Int):Hm x' a=Hm x a:=by unfold Hm;rw[h.sides]
theorem WW{x:qh}(ok:EP 1048576 x)(hv:ED x=some (true,())):∃c d,EF x.master=some (c,d,())/\E0 x.master=some (c,d,())/\Gu maxLen c/\c.replicas.length<=5/\c.witnesses.length<=5/\(∀z∈c.replicas,0<=z/\z<5)/\(∀z∈c.witnesses,0<=z/\z<5)/\(d=false->c=⟨0,0,[],[]⟩):=by
 obtain⟨c,d,d1,d2,d3,d4,d5,d6⟩:=H9 x ok hv
 have rng:∀ {l:List Int},Oe l->∀y∈l,0<=y/\y<5:=by intro l ha y hy;obtain⟨k,hk,rfl⟩:=aU hy;have:=(ha k hk).1;omega
 cases d with
 |false=>exact⟨c,false,d1,d2,d3,by rw[d6 rfl];simp,by rw[d6 rfl];simp,by rw[d6 rfl];simp,by rw[d6 rfl];simp,d6⟩
 |true=>obtain⟨a1,a2,_⟩:=Gq d3 (d5 rfl).1;exact⟨c,true,d1,d2,d3,a1.len,a2.len,rng a1,rng a2,nofun⟩
section
variable {x x':qh} (ok:EP 1048576 x) (ok':EP 1048576 x') (hv:ED x=some (true,())) (hv':ED x'=some (true,())) (se:ZV x x') {id:Int} (hid:0<=id/\id<5)
include ok ok' hv hv' se hid
theorem Ry:∃l,GL x id=some (l,())/\HK x' id=some (l,())/\l.length<=5/\∀z∈l,0<=z/\z<5:=by
 have vc:=EZ ok hv;have vc':=EZ ok' hv';obtain⟨c,d,d1,d2,d3,r5,_,inr,_,d6⟩:=WW ok hv;have rm:c.replicas.length<=maxLen:=by unfold maxLen;omega
 have tJ:HC id 0 4=true:=EI.2 (by omega)
 have hgood:Fp x' id=some (true,()):=by obtain⟨v,w1,w2⟩:=Fx x' ok';rw[hv']at w1;simp only[af,au,and_true]at w1;subst w1;unfold Fp;simp only[w2,ao,Kb,tJ,C3]
 unfold GL HK;have d2':E0 x'.master=some (c,d,()):=by rw[se.master];exact d2
 simp only[d1,d2',hgood,ao,EE,C3];cases d with
 |false=>
  have hc:=d6 rfl;subst hc
  rw[show LB ((id,(),(),(),false,0,()),(fx x,(0,0,(),(),()),()),([],[],[],()))=some (((),()),(),([],()))from lO (by simp only[GW];rfl)]
  exact⟨[],rfl,rfl,bO _,nofun⟩
 |true=>
  obtain⟨l,q,k1,k2⟩:=Mu (B1:=GW) (B2:=IR) c.replicas.length (λk (b:List Int)=>((id,(),(),(),true,(k:Int),()),(fx x,(c.epoch,c.primary,(),(),()),()),(b,c.replicas,c.witnesses,()))) (λk b=>((id,(),(),(),(),(c.replicas.length:Int),(k:Int),()),(fx x',(c.epoch,c.primary,(),(),()),()),(b,c.replicas,c.witnesses,()))) (λk b=>b.length<=k/\∀z∈b,0<=z/\z<5) (λb=>(((),()),(),(b,()))) (λb=>(((),()),(),(b,())))
   (λb _=>by simp only[GW,IR,Dl];exact⟨if_neg (by omega),if_neg (by omega)⟩)
   (λk b hk hb=>by
     have c1: (k:Int)<(c.replicas.length:Int):=by omega
     have c2: (0:Int)<=(k:Int)/\(k:Int)<(c.replicas.length:Int):=by omega
     have hz:=inr _ (D6 hk);generalize hzz:c.replicas[k]=z at hz;have hg:c.replicas[k]?=some z:=by rw[<-hzz];exact aq hk
     obtain⟨s,s1,s2,_⟩:=HI ok vc hz;obtain⟨e,e1⟩:=se.srv _ _ s1;obtain⟨h1,_⟩:=LK x ok vc hid hz;obtain⟨_,h2⟩:=LK x' ok' vc' hid hz;rw[se.side,se.side]at h2;have h40: (b++ [z]).length*8<=2 ^ 40:=Jm (by simp;omega)
     simp only[GW,IR,LS,fx,Dl,C3,Cy,if_pos c1,if_pos c2,D4,hg,ao,
      show (⟨x.now,x.servers,x.sides,(⟨x.master.configs,x.master.activated⟩:jZ),x.masterUp,(⟨x.lease.epoch,x.lease.holder,x.lease.ends⟩:uN),x.places⟩:qh)=x from rfl,hv,FB,tJ,if_pos hz.1,s1,e1,h1,h2,if_pos h40,Cb rm hk]
     have hb': (b++ [z]).length<=k+1/\∀y∈b++ [z],0<=y/\y<5:=⟨by simp;omega,λy hy=>by
      rcases bC.1 hy with h|h
      ·exact hb.2 y h
      ·rw[aL.1 h];exact hz⟩
     have hb'':b.length<=k+1/\∀y∈b,0<=y/\y<5:=⟨by omega,hb.2⟩
     cases s.up<;>cases (s.config.epoch==c.epoch)<;>cases (Hm x id==Hm x z)<;>simp only[C3,Ce,ao]<;>first |exact⟨b++ [z],rfl,rfl,hb'⟩|exact⟨b,rfl,rfl,hb''⟩)
   [] ⟨bO _,nofun⟩
  rw[show LB ((id,(),(),(),true,0,()),(fx x,(c.epoch,c.primary,(),(),()),()),([],c.replicas,c.witnesses,()))=_ from k1,
   show Qb ((id,(),(),(),(),(c.replicas.length:Int),0,()),(fx x',(c.epoch,c.primary,(),(),()),()),([],c.replicas,c.witnesses,()))=_ from k2]
  exact⟨l,rfl,rfl,by omega,q.2⟩
theorem TM:∃n,Hp x id=some (n,())/\Iq x' id=some (n,())/\(n= -1\/(0<=n/\n<5)):=by
 have vc:=EZ ok hv;obtain⟨l,l1,l2,l3,inl⟩:=Ry ok ok' hv hv' se hid;have lm:l.length<=maxLen:=by unfold maxLen;omega
 obtain⟨n,q,k1,k2⟩:=Mu (B1:=Hs) (B2:=IQ) l.length (λk (b:Int)=>(((),b,(),(k:Int),()),(fx x,()),(l,()))) (λk b=>(((),b,(),(l.length:Int),(k:Int),()),(fx x',()),(l,()))) (λ_ b=>b= -1\/(0<=b/\b<5)) (λb=>((b,()),(),())) (λb=>((b,()),(),()))
  (λb _=>by simp only[Hs,IQ,Dl];exact⟨if_neg (by omega),if_neg (by omega)⟩)
  (λk b hk hb=>by
    have c1: (k:Int)<(l.length:Int):=by omega
    have c2: (0:Int)<=(k:Int)/\(k:Int)<(l.length:Int):=by omega
    have hz:=inl _ (D6 hk);generalize hzz:l[k]=z at hz;have hg:l[k]?=some z:=by rw[<-hzz];exact aq hk
    obtain⟨s,s1,s2,_⟩:=HI ok vc hz;obtain⟨e,e1⟩:=se.srv _ _ s1;simp only[Hs,IQ,fx,Dl,Cy,if_pos c1,if_pos c2,D4,hg,ao,if_pos hz.1,s1,e1,Cb lm hk];rcases hb with rfl|hb
    ·exact⟨z,rfl,rfl,.inr hz⟩
    ·obtain⟨t,t1,t2,_⟩:=HI ok vc hb;obtain⟨f,f1⟩:=se.srv _ _ t1;simp only[if_neg (show ¬b<0 by omega),if_pos hb.1,t1,f1,ao];by_cases h: (s.log.length:Int)>(t.log.length:Int)
     ·simp only[if_pos h];exact⟨z,rfl,rfl,.inr hz⟩
     ·simp only[if_neg h];exact⟨b,rfl,rfl,.inr hb⟩)
  (-1) (.inl rfl)
 unfold Hp Iq;simp only[l1,l2,ao];rw[show NS (((),(-1),(),0,()),(fx x,()),(l,()))=_ from k1,show NP (((),(-1),(),(l.length:Int),0,()),(fx x',()),(l,()))=_ from k2];exact⟨n,rfl,rfl,q⟩
omit ok hv se in
theorem Z9:Fp x' id=some (true,()):=by obtain⟨v,w1,w2⟩:=Fx x' ok';rw[hv']at w1;simp only[af,au,and_true]at w1;subst w1;unfold Fp;simp only[w2,ao,Kb,EI.2 (show 0<=id/\id<=4 by omega),C3]
theorem WV{c:nG}{w w':qk}{z j:Int}(hw:Fs 1048576 w)(h1:w'.first=w.first)(h2:w'.log=w.log)(b:List rp×Bool)(hb:b.1.length<=19/\(b.2=false->b.1=[])):∃r:List rp×Bool,(r.1.length<=19/\(r.2=false->r.1=[]))/\
  MW ((id,(),(),b.2,(),true,j,(),0,()),(fx x,(c.epoch,c.primary,(),(),()),fsv w,()),(b.1,c.replicas,c.witnesses,()))=some ((id,(),(),r.2,(),true,j,()),(fx x,(c.epoch,c.primary,(),(),()),()),(r.1,c.replicas,c.witnesses,()))/\
  PB ((id,(),(),(),b.2,(),(),z,j,x'.servers,(x'.servers.length:Int),0,()),(fx x',(c.epoch,c.primary,(),(),()),fsv w',()),(b.1,c.witnesses,c.replicas,()))=some ((id,(),(),(),r.2,(),z,j,()),(fx x',(c.epoch,c.primary,(),(),()),()),(r.1,c.witnesses,c.replicas,())):=by
 have vc:=EZ ok hv;have vc':=EZ ok' hv'
 refine Mu (B1:=G3) (B2:=Ib) 5 (λk (b:List rp×Bool)=>((id,(),(),b.2,(),true,j,(),(k:Int),()),(fx x,(c.epoch,c.primary,(),(),()),fsv w,()),(b.1,c.replicas,c.witnesses,()))) (λk b=>((id,(),(),(),b.2,(),(),z,j,x'.servers,(x'.servers.length:Int),(k:Int),()),(fx x',(c.epoch,c.primary,(),(),()),fsv w',()),(b.1,c.witnesses,c.replicas,()))) (λ_ b=>b.1.length<=19/\(b.2=false->b.1=[])) (λb=>((id,(),(),b.2,(),true,j,()),(fx x,(c.epoch,c.primary,(),(),()),()),(b.1,c.replicas,c.witnesses,()))) (λb=>((id,(),(),(),b.2,(),z,j,()),(fx x',(c.epoch,c.primary,(),(),()),()),(b.1,c.witnesses,c.replicas,())))
  (λb _=>?_) (λk b hk hb=>?_) b hb
 ·simp only[G3,Ib,Dl,vc'.len];exact⟨if_neg (by omega),if_neg (by omega)⟩
 ·have c1: (k:Int)<5:=by omega
  have c1': (k:Int)<(x'.servers.length:Int):=by rw[vc'.len];omega
  have c2: (0:Int)<=(k:Int):=by omega
  have hkk:0<=(k:Int)/\(k:Int)<5:=⟨c2,c1⟩
  obtain⟨s,s1,s2,s3⟩:=HI ok vc hkk;obtain⟨t,t1,t2,t3⟩:=HI ok' vc' hkk;obtain⟨e,e1⟩:=se.srv _ _ s1;rw[t1]at e1;have e1:=Option.some.inj e1;obtain⟨g1,_⟩:=LK x ok vc hid hkk;obtain⟨_,g2⟩:=LK x' ok' vc' hid hkk;rw[se.side,se.side]at g2;have dt:data t (k:Int)=data s (k:Int):=by rw[e1];rfl
  have tup:t.up=s.up:=by rw[e1]
  obtain⟨q1,_⟩:=YM s (k:Int) s2 s3;obtain⟨_,q2⟩:=YM t (k:Int) t2 t3;rw[dt]at q2;have dl: (data s (k:Int)).length<=1048576:=Z3 s _ s2;obtain⟨l,f,j1,j2,j3⟩:=aah (data s (k:Int)) w.first w.log dl hw.2.1;have sw:=Cb (n:=5) (by decide) hk;rw[D4]at s1 t1;simp only[G3,Ib,fx,fsv,Dl,EE,Cy,if_pos c1,if_pos c1',if_pos c2,D4,s1,t1,ao,tup,g1,g2,q1,q2,h1,h2,j1,j2,sw];cases s.up with
  |false=>exact⟨b,rfl,rfl,hb⟩
  |true=>
   cases (Hm x id==Hm x (k:Int))with
   |false=>exact⟨b,rfl,rfl,hb⟩
   |true=>
    cases f with
    |false=>exact⟨b,rfl,rfl,hb⟩
    |true=>
     simp only[C3];cases hb2:b.2 with
     |false=>exact⟨(l,true),rfl,rfl,j3,nofun⟩
     |true=>
      simp only[C3];by_cases h: (l.length:Int)>(b.1.length:Int)
      ·simp only[if_pos h];exact⟨(l,true),rfl,rfl,j3,nofun⟩
      ·simp only[if_neg h];exact⟨b,by rw[hb2],by rw[hb2],hb⟩
theorem UY:∃l b,GY x id=some (l,b,())/\Iv x' id=some (l,b,())/\l.length<=19:=by
 have vc:=EZ ok hv;have vc':=EZ ok' hv';obtain⟨c,d,d1,d2,d3,_,r5,_,inw,d6⟩:=WW ok hv;have rm:c.witnesses.length<=maxLen:=by unfold maxLen;omega
 have tJ:HC id 0 4=true:=EI.2 (by omega);have hgood:=Z9 ok' hv' hid;have d2':E0 x'.master=some (c,d,()):=by rw[se.master];exact d2
 unfold GY Iv;simp only[d1,d2',hgood,ao,EE,C3];cases d with
 |false=>
  have hc:=d6 rfl;subst hc
  rw[show LC ((id,(),(),false,(),false,0,()),(fx x,(0,0,(),(),()),()),([],[],[],()))=some (((),false,()),(),([],()))from lO (by simp only[GD];rfl)]
  exact⟨[],false,rfl,rfl,bO _⟩
 |true=>
  obtain⟨r,q,k1,k2⟩:=Mu (B1:=GD) (B2:=IT) c.witnesses.length (λk (b:List rp×Bool)=>((id,(),(),b.2,(),true,(k:Int),()),(fx x,(c.epoch,c.primary,(),(),()),()),(b.1,c.replicas,c.witnesses,()))) (λk b=>((id,(),(),(),b.2,(),(c.witnesses.length:Int),(k:Int),()),(fx x',(c.epoch,c.primary,(),(),()),()),(b.1,c.witnesses,c.replicas,()))) (λ_ b=>b.1.length<=19/\(b.2=false->b.1=[])) (λb=>(((),b.2,()),(),(b.1,()))) (λb=>(((),b.2,()),(),(b.1,())))
   (λb _=>by simp only[GD,IT,Dl];exact⟨if_neg (by omega),if_neg (by omega)⟩)
   (λk b hk hb=>by
     have c1: (k:Int)<(c.witnesses.length:Int):=by omega
     have c2: (0:Int)<=(k:Int)/\(k:Int)<(c.witnesses.length:Int):=by omega
     have hz:=inw _ (D6 hk);generalize hzz:c.witnesses[k]=z at hz;have hg:c.witnesses[k]?=some z:=by rw[<-hzz];exact aq hk
     obtain⟨s,s1,s2,_⟩:=HI ok vc hz;obtain⟨e,e1⟩:=se.srv _ _ s1;obtain⟨h1,_⟩:=LK x ok vc hid hz;obtain⟨_,h2⟩:=LK x' ok' vc' hid hz;rw[se.side,se.side]at h2;obtain⟨r,r1,r2,r3⟩:=WV ok ok' hv hv' se hid (c:=c) (w:=s) (w':=⟨s.up,s.intact,s.version,e,s.config,s.first,s.log,s.commit,s.learned⟩) (z:=(c.witnesses.length:Int)) (j:=(k:Int)) s2 rfl rfl b hb;simp only[fx,fsv]at r2 r3
     simp only[GD,IT,LS,fx,Dl,EE,C3,Cy,if_pos c1,if_pos c2,D4,hg,ao,
      show (⟨x.now,x.servers,x.sides,(⟨x.master.configs,x.master.activated⟩:jZ),x.masterUp,(⟨x.lease.epoch,x.lease.holder,x.lease.ends⟩:uN),x.places⟩:qh)=x from rfl,hv,FB,tJ,if_pos hz.1,s1,e1,h1,h2,r2,r3,Cb rm hk]
     cases s.up<;>cases (s.config.epoch==c.epoch)<;>cases (Hm x id==Hm x z)<;>simp only[C3,Ce,ao]<;>first |exact⟨b,rfl,rfl,hb⟩|exact⟨r,rfl,rfl,r1⟩)
   ([],false) ⟨bO _,λ_=>rfl⟩
  rw[show LC ((id,(),(),false,(),true,0,()),(fx x,(c.epoch,c.primary,(),(),()),()),([],c.replicas,c.witnesses,()))=_ from k1,
   show Qc ((id,(),(),(),false,(),(c.witnesses.length:Int),0,()),(fx x',(c.epoch,c.primary,(),(),()),()),([],c.witnesses,c.replicas,()))=_ from k2]
  simp only[ao];obtain⟨l,f⟩:=r;cases f with
  |true=>exact⟨l,true,rfl,rfl,q.1⟩
  |false=>have:=q.2 rfl;simp only at this;subst this;exact⟨[],false,rfl,rfl,bO _⟩
theorem V6:∃l b,Gx x id=some (l,b,())/\I9 x' id=some (l,b,())/\l.length<=1048576:=by
 have vc:=EZ ok hv;have tJ:HC id 0 4=true:=EI.2 (by omega);have hgood:=Z9 ok' hv' hid;obtain⟨n,n1,n2,n3⟩:=TM ok ok' hv hv' se hid;obtain⟨l,b,l1,l2,l3⟩:=UY ok ok' hv hv' se hid;unfold Gx I9;rw[se.master];simp only[hv,hgood,FB,tJ,n1,n2,l1,l2,ao,EE,C3];cases (x.master.activated==0)with
 |true=>exact⟨[],true,rfl,rfl,bO _⟩
 |false=>
  simp only[Ce,Dl];rcases n3 with rfl|hn
  ·simp only[if_neg (show ¬ (-1:Int)≥0 by omega)];exact⟨l,b,rfl,rfl,by omega⟩
  ·obtain⟨s,s1,s2,_⟩:=HI ok vc hn;obtain⟨e,e1⟩:=se.srv _ _ s1;simp only[if_pos (show n≥0 by omega),Cy,if_pos hn.1,s1,e1,ao,(Jd _ s2.2.1).1,(Jd _ s2.2.1).2];exact⟨_,_,rfl,rfl,s2.2.1⟩
end
end
section
structure SV (m:jZ) (s:qk) (k:Int):Prop where
 val:EG s k=some (true,())
 ep:s.epoch<=(m.configs.length:Int)
 lrn:∃e,Ik s.learned=some (e,())/\e<=m.activated
 cfg:s.config=⟨0,0,[],[]⟩\/(FR m s.config.epoch=some (s.config,true,())/\s.config.epoch<=m.activated)
theorem adI(x:qh)(ok:EP 1048576 x)(k:Nat)(hk:k<x.servers.length):
  (SV x.master x.servers[k] (k:Int)/\EL (((),(k:Int),()),((x.now,x.servers,x.sides,x.master.configs,x.master.activated,x.masterUp,x.lease.epoch,x.lease.holder,x.lease.ends,x.places,()),()),())=some (.inl (((),((k+1:Nat):Int),()),((x.now,x.servers,x.sides,x.master.configs,x.master.activated,x.masterUp,x.lease.epoch,x.lease.holder,x.lease.ends,x.places,()),()),())))\/
  (¬SV x.master x.servers[k] (k:Int)/\EL (((),(k:Int),()),((x.now,x.servers,x.sides,x.master.configs,x.master.activated,x.masterUp,x.lease.epoch,x.lease.holder,x.lease.ends,x.places,()),()),())=some (.inr (.inl ((false,()),(),())))):=by
 obtain⟨⟨hs1,hs2⟩,hsd,hml,hpl⟩:=ok;have hm:=EO hs1;have c1: (k:Int)<(x.servers.length:Int):=by omega
 have c2: (0:Int)<=(k:Int):=by omega
 have hsk:=hs2 _ (D6 hk);obtain⟨b,v1,v2⟩:=MR x.servers[k] (k:Int) hsk;obtain⟨n,n1,n2⟩:=Io x.servers[k].learned (EO hsk.2.2);obtain⟨c,d,d1,d2,d3⟩:=Mx x.master x.servers[k].config.epoch hml;have hcfg:=EK hsk.1
 simp only[EL,Dl,Cy,if_pos c1,if_pos c2,D4,aq hk,ao,v1,n1,Cb hm hk,EE,
  show (⟨x.master.configs,x.master.activated⟩:jZ)=x.master from rfl,d1,Kd _ hcfg,(GJ c x.servers[k].config d3).1]
 cases b with
 |false=>exact .inr ⟨(λh=>(by have h:=v1.symm.trans h.val;cases h)),rfl⟩
 |true=>
  simp only[C3];by_cases h1:x.servers[k].epoch>(x.master.configs.length:Int)
  ·simp only[if_pos h1];exact .inr ⟨λh=>by have:=h.ep;omega,trivial⟩
  ·simp only[if_neg h1];by_cases h2:n>x.master.activated
   ·simp only[if_pos h2];refine .inr ⟨λh=>?_,trivial⟩;obtain⟨e,e1,e2⟩:=h.lrn;rw[n1]at e1;simp only[af,au,and_true]at e1;omega
   ·simp only[if_neg h2];by_cases h3:x.servers[k].config=⟨0,0,[],[]⟩
    ·simp only[if_pos h3];exact .inl ⟨⟨v1,by omega,⟨n,n1,by omega⟩,.inl h3⟩,trivial⟩
    ·simp only[if_neg h3];cases d with
     |false=>
      refine .inr ⟨λh=>?_,rfl⟩;rcases h.cfg with h| ⟨h,_⟩
      ·exact h3 h
      ·rw[d1]at h;cases h
     |true=>
      simp only[C3];by_cases h4:c=x.servers[k].config
      ·simp only[if_pos h4];by_cases h5:x.servers[k].config.epoch>x.master.activated
       ·simp only[if_pos h5];refine .inr ⟨λh=>?_,trivial⟩;rcases h.cfg with h| ⟨_,h⟩
        ·exact h3 h
        ·omega
       ·simp only[if_neg h5];exact .inl ⟨⟨v1,by omega,⟨n,n1,by omega⟩,.inr ⟨by rw[d1,h4],by omega⟩⟩,trivial⟩
      ·simp only[if_neg h4];refine .inr ⟨λh=>?_,trivial⟩;rcases h.cfg with h| ⟨h,_⟩
       ·exact h3 h
       ·rw[d1]at h;simp only[af,au,and_true]at h;exact h4 h
theorem WT(x:qh)(ok:EP 1048576 x):
  ((∀k (hk:k<x.servers.length),SV x.master x.servers[k] (k:Int))/\Hl (((),0,()),((x.now,x.servers,x.sides,x.master.configs,x.master.activated,x.masterUp,x.lease.epoch,x.lease.holder,x.lease.ends,x.places,()),()),())=some (.inr (((),()),(),())))\/
  ((∃k,∃hk:k<x.servers.length,¬SV x.master x.servers[k] (k:Int))/\Hl (((),0,()),((x.now,x.servers,x.sides,x.master.configs,x.master.activated,x.masterUp,x.lease.epoch,x.lease.holder,x.lease.ends,x.places,()),()),())=some (.inl ((false,()),(),()))):=by
 have fB:=Da (B1:=EL) (B2:=EL) x.servers.length (λk=>(((),(k:Int),()),((x.now,x.servers,x.sides,x.master.configs,x.master.activated,x.masterUp,x.lease.epoch,x.lease.holder,x.lease.ends,x.places,()),()),())) (λk=>(((),(k:Int),()),((x.now,x.servers,x.sides,x.master.configs,x.master.activated,x.masterUp,x.lease.epoch,x.lease.holder,x.lease.ends,x.places,()),()),())) (.inr (((),()),(),())) (.inr (((),()),(),())) (λ_=>.inl ((false,()),(),())) (λ_=>.inl ((false,()),(),()))
  (λk=>∀hk:k<x.servers.length,SV x.master x.servers[k] (k:Int)) (λk=>∃hk:k<x.servers.length,¬SV x.master x.servers[k] (k:Int))
  (by simp only[EL];rw[Dl,if_neg (by omega)])
  (by simp only[EL];rw[Dl,if_neg (by omega)])
  (λk hk=>by
    rcases adI x ok k hk with⟨h1,h2⟩| ⟨h1,h2⟩
    ·exact .inl ⟨h2,h2,λ_=>h1⟩
    ·exact .inr ⟨h2,h2,hk,h1⟩)
 rcases fB with⟨k1,_,k3⟩| ⟨k,hk,k1,_,k3⟩
 ·exact .inl ⟨λk hk=>k3 k hk hk,k1⟩
 ·exact .inr ⟨⟨k,k3⟩,k1⟩
theorem PL{x:qh}(ok:EP 1048576 x)(hv:ED x=some (true,())):∀k (hk:k<x.servers.length),SV x.master x.servers[k] (k:Int):=by
 rcases WT x ok with⟨h,_⟩| ⟨_,h⟩
 ·exact h
 ·exfalso;obtain⟨b1,a1,_⟩:=Nv x.sides (EO ok.2.1);obtain⟨b2,m1,_⟩:=masterLog x.master (Gp ok.2.2.1);obtain⟨b3,l1,_⟩:=Pm x.lease;obtain⟨b4,p1,_⟩:=Nr x.places (EO ok.2.2.2);unfold ED at hv;simp only[FB,a1,m1,l1,p1,ao,h,Eg]at hv;revert hv;cases HC x.now 0 999<;>cases ((x.servers.length:Int)==5)<;>cases b1<;>cases b2<;>cases HC x.masterUp 0 3<;>cases b3<;>cases b4<;>cases decide (x.lease.epoch>x.master.activated)<;>intro hv<;>cases hv
theorem abe{x:qh}(ok:EP 1048576 x)(hv:ED x=some (true,()))(S:List qk)(hl:S.length=x.servers.length)(hok:∀s∈S,Fs 1048576 s)(hS:∀k (hk:k<S.length),SV x.master S[k] (k:Int)):
  EP 1048576 ⟨x.now,S,x.sides,x.master,x.masterUp,x.lease,x.places⟩/\ED ⟨x.now,S,x.sides,x.master,x.masterUp,x.lease,x.places⟩=some (true,()):=by
 have ok2:EP 1048576 ⟨x.now,S,x.sides,x.master,x.masterUp,x.lease,x.places⟩:=⟨⟨by show S.length<=_;rw[hl];exact ok.1.1,hok⟩,ok.2.1,ok.2.2.1,ok.2.2.2⟩
 refine⟨ok2,?_⟩;rcases WT x ok with⟨_,h1⟩| ⟨⟨k,hk,h0⟩,_⟩
 ·rcases WT ⟨x.now,S,x.sides,x.master,x.masterUp,x.lease,x.places⟩ ok2 with⟨_,h2⟩| ⟨⟨k,hk,h0⟩,_⟩
  ·have hv':=hv;unfold ED at hv' ⊢;rw[h1]at hv';rw[h2];simp only[hl];exact hv'
  ·exact absurd (hS k hk) h0
 ·exact absurd (PL ok hv k hk) h0
theorem SV.old{m:jZ}{s:qk}{k:Int}(h:SV m s k)(hm:Md 1048576 m)(hv:EU m=some (true,())):s.config.epoch<=(m.configs.length:Int):=by
 obtain⟨_,f2,f3⟩:=Np (Gp hm) hv;rcases h.cfg with h| ⟨_,h⟩
 ·rw[h];show (0:Int)<=_;omega
 ·omega
end
section
theorem VP{α:Type}{w:α->Int}:∀ {a b:List α},a.length=b.length->(∀ (j:Nat) (ha:j<a.length) (hb:j<b.length),w a[j]=w b[j])->Zs w a=Zs w b
 | [],[],_,_=>rfl
 |x::a,y::b,h,h2=>by
  have h0:=h2 0 (by simp) (by simp);simp only[List.getElem_cons_zero]at h0
  have ih:=VP (w:=w) (a:=a) (b:=b) (by simpa using h) λj ha hb=>by have:=h2 (j+1) (by simpa using ha) (by simpa using hb);simpa using this
  unfold Zs;rw[h0,ih]
abbrev M2(s:qk)(e:Int):qk:=⟨s.up,s.intact,s.version,e,s.config,s.first,s.log,s.commit,s.learned⟩
theorem ac9{s:qk}{id:Int}(h:Fs 1048576 s)(hv:EG s id=some (true,())):s.config.epoch<=s.epoch:=by
 have hc:=EK h.1;obtain⟨_,_,_,_,_,_,_,e0,_⟩:=H8 h hv;by_cases hz:s.config=⟨0,0,[],[]⟩
 ·rw[hz];exact e0
 ·refine Int.not_lt.1 λhlt=>?_;unfold EG at hv;simp only[FB,ao,EE,Kd s.config hc,Dl,if_neg hz,if_pos hlt]at hv;cases h1:HC s.version 1 2 with
  |false=>rw[h1]at hv;cases hv
  |true=>
  cases h2:HC s.epoch 0 20 with
  |false=>rw[h1,h2]at hv;cases hv
  |true=>
  rcases isLog s.log (EO h.2.1)with⟨a1,a2,a3⟩| ⟨a1,a2⟩
  case inr=>simp only[h1,h2,a1,ao,C3,Ce]at hv;cases hv
  rcases isLog s.learned (EO h.2.2)with⟨b1,b2,b3⟩| ⟨b1,b2⟩
  case inr=>simp only[h1,h2,a1,b1,ao,C3,Ce]at hv;cases hv
  simp only[h1,h2,a1,b1,ao,C3]at hv;cases h3:HC s.first 0 16<;>rw[h3]at hv
  ·cases hv
  ·cases h4:HC (IntKind.wrap .i64 (s.first+(s.log.length:Int))) 0 16<;>rw[h4]at hv
   ·cases hv
   ·cases h5:HC s.commit 0 (IntKind.wrap .i64 (s.first+(s.log.length:Int)))<;>rw[h5]at hv
    ·cases hv
    ·cases h6:s.intact<;>rw[h6]at hv<;>cases hv
theorem acb{s:qk}{id:Int}(h:Fs 1048576 s)(hv:EG s id=some (true,())){e:Int}(h1:s.epoch<=e)(h2:e<=20):EG (M2 s e) id=some (true,()):=by have hle:=ac9 h hv;obtain⟨_,_,_,_,_,_,_,e0,e20⟩:=H8 h hv;have w1:HC s.epoch 0 20=true:=EI.2 (by omega);have w2:HC e 0 20=true:=EI.2 (by omega);unfold EG at hv ⊢;simp only[FB,ao,Dl,w1,w2,if_neg (show ¬s.epoch<s.config.epoch by omega),if_neg (show ¬e<s.config.epoch by omega)]at hv ⊢;exact hv
theorem ael{m:jZ}{s:qk}{k:Int}(ok:Fs 1048576 s)(h:SV m s k){e:Int}(h1:s.epoch<=e)(h2:e<=(m.configs.length:Int))(h3:m.configs.length<=20):SV m (M2 s e) k:=
 ⟨acb ok h.val h1 (by omega),h2,h.lrn,h.cfg⟩
theorem YG(s:qk)(e:Int)(h:Fs 1048576 s):∃ep b,Hq s e=some (M2 s ep,b,())/\Ld s e=some (M2 s ep,b,())/\(ep=s.epoch\/(ep=e/\s.epoch<=e)):=by
 unfold Hq Ld;simp only[(Nb s h).1,(Nb s h).2,FB,Kb,ao,EE,Dl];cases HC e 1 20 with
 |false=>exact⟨s.epoch,false,rfl,rfl,.inl rfl⟩
 |true=>
  simp only[C3];by_cases h1:e<=s.epoch
  ·by_cases h2:s.epoch<0
   ·simp only[if_pos h1,if_pos h2];exact⟨s.epoch,false,rfl,rfl,.inl rfl⟩
   ·simp only[if_pos h1,if_neg h2];exact⟨s.epoch,false,rfl,rfl,.inl rfl⟩
  ·by_cases h2:s.epoch<0
   ·simp only[if_neg h1,if_pos h2];exact⟨s.epoch,false,rfl,rfl,.inl rfl⟩
   ·simp only[if_neg h1,if_neg h2];exact⟨e,true,rfl,rfl,.inr ⟨rfl,by omega⟩⟩
abbrev Gv(x:qh)(S:List qk):qh:=⟨x.now,S,x.sides,x.master,x.masterUp,x.lease,x.places⟩
theorem Tf(x:qh)(ok:EP 1048576 x)(hv:ED x=some (true,())){id e:Int}(hid:0<=id/\id<5):∃S,GR x id e=some (Gv x S,())/\Ho x id e=some (Gv x S,())/\EP 1048576 (Gv x S)/\ED (Gv x S)=some (true,())/\ZV x (Gv x S)/\Zs ad6 S=Zs ad6 x.servers:=by
 have vc:=EZ ok hv;have hml:=XA ok.2.2.1 vc.ml;obtain⟨v,v1,v2⟩:=Fx x ok;rw[hv]at v1;simp only[af,au,and_true]at v1;subst v1;obtain⟨c,d,d1,d2,d3,_⟩:=WW ok hv;obtain⟨m,m1,m2,m3,m4,m5,_⟩:=Hy c d3;have mm:m.length<=maxLen:=by unfold maxLen;omega
 have same:Gv x x.servers=x:=rfl;unfold GR Ho;simp only[(FO x ok).1,(FO x ok).2,d1,d2,hv,v2,FB,Kb,ao,EE,C3];cases d with
 |false=>exact⟨x.servers,rfl,rfl,ok,hv,ZV.refl x,rfl⟩
 |true=>
  simp only[C3];cases hw:HC e 1 (x.master.configs.length:Int)with
  |false=>exact⟨x.servers,rfl,rfl,ok,hv,ZV.refl x,rfl⟩
  |true=>
   have hw:=EI.1 hw
   obtain⟨S,q,k1,k2⟩:=Mu (B1:=GI) (B2:=GH) m.length
    (λk (S:List qk)=>((id,e,(),(),(),(),(k:Int),()),(fx x,(0,(),(),(),0,0,0,0,0,(),()),(x.now,(),(),(),x.master.activated,x.masterUp,x.lease.epoch,x.lease.holder,x.lease.ends,(),()),()),(m,S,x.sides,x.master.configs,x.places,())))
    (λk S=>((id,e,(),(),(),(),(m.length:Int),(k:Int),()),(fx x,(0,(),(),(),0,0,0,0,0,(),()),(x.now,(),(),(),x.master.activated,x.masterUp,x.lease.epoch,x.lease.holder,x.lease.ends,(),()),()),(m,S,x.sides,x.master.configs,x.places,())))
    (λk S=>S.length=x.servers.length/\∀ (j:Nat) (s:qk),x.servers[j]?=some s->∃ep,S[j]?=some (M2 s ep)/\(ep=s.epoch\/(ep=e/\s.epoch<=e))/\((∀y∈m.drop k,y≠(j:Int))\/ep=s.epoch))
    (λS=>(((),(),()),((0,(),(),(),0,0,0,0,0,(),()),(x.now,(),(),(),x.master.activated,x.masterUp,x.lease.epoch,x.lease.holder,x.lease.ends,(),()),()),(S,x.sides,x.master.configs,x.places,())))
    (λS=>(((),(),()),((0,(),(),(),0,0,0,0,0,(),()),(x.now,(),(),(),x.master.activated,x.masterUp,x.lease.epoch,x.lease.holder,x.lease.ends,(),()),()),(S,x.sides,x.master.configs,x.places,())))
    (λS _=>by simp only[GI,GH,Dl];exact⟨if_neg (by omega),if_neg (by omega)⟩)
    (λk S hk hS=>by
      have c1: (k:Int)<(m.length:Int):=by omega
      have c2: (0:Int)<=(k:Int)/\(k:Int)<(m.length:Int):=by omega
      have hz:=m4 _ (D6 hk);have hdr:m.drop k=m[k]::m.drop (k+1):=cg hk
      have hnot:∀y∈m.drop (k+1),y≠m[k] :=by have h2:SS (m.drop k):=List.Pairwise.sublist (List.drop_sublist k m) m5;rw[hdr]at h2;intro y hy;have:=(Em.1 h2).1 y hy;omega
      generalize hzz:m[k]=z at hz hdr hnot;have hg:m[k]?=some z:=by rw[<-hzz];exact aq hk
      obtain⟨s,s1,s2,_⟩:=HI ok vc hz;obtain⟨h1,h2⟩:=LK x ok vc hid hz
      have hSz:S[z.toNat]?=some s:=by
       obtain⟨ep,p1,_,p3⟩:=hS.2 _ s s1;rcases p3 with p3|rfl
       ·exact absurd (by omega:z=(z.toNat:Int)) (p3 z (by rw[hdr];exact aK))
       ·exact p1
      have hlt:z.toNat<S.length:=Du hSz;have c3:0<=z/\z<(S.length:Int):=by omega
      obtain⟨ep,b,q1,q2,q3⟩:=YG s e s2
      have hkeep:S.length=x.servers.length/\∀ (j:Nat) (s:qk),x.servers[j]?=some s->∃ep,S[j]?=some (M2 s ep)/\(ep=s.epoch\/(ep=e/\s.epoch<=e))/\((∀y∈m.drop (k+1),y≠(j:Int))\/ep=s.epoch):=by refine⟨hS.1,λj t ht=>?_⟩;obtain⟨ep,p1,p2,p3⟩:=hS.2 j t ht;exact⟨ep,p1,p2,p3.imp (λh y hy=>h y (by rw[hdr];exact aI _ hy)) (λh=>h)⟩
      simp only[GI,GH,fx,Dl,Cy,if_pos c1,if_pos c2,D4,hg,ao,if_pos hz.1,if_pos c3,s1,hSz,h1,h2,aP,az,if_true,cE,D9,q1,q2,Cb mm hk];cases s.up with
      |false=>exact⟨S,rfl,rfl,hkeep⟩
      |true=>
       cases (Hm x id==Hm x z)with
       |false=>exact⟨S,rfl,rfl,hkeep⟩
       |true=>
        refine⟨S.set z.toNat (M2 s ep),rfl,rfl,by simp[hS.1],λj t ht=>?_⟩;by_cases hj:j=z.toNat
        ·subst hj;rw[s1]at ht;have ht:=Option.some.inj ht;subst ht;refine⟨ep,by rw[Ea hlt],q3,.inl λy hy h=>hnot y hy (by omega)⟩
        ·obtain⟨ep',p1,p2,p3⟩:=hkeep.2 j t ht;exact⟨ep',by rw[Ed (λh=>hj h.symm)];exact p1,p2,p3⟩)
    x.servers ⟨rfl,λj s h=>⟨s.epoch,h,.inl rfl,.inr rfl⟩⟩
   simp only[C3,m1,m2,ao]
   rw[show MV ((id,e,(),(),(),(),0,()),(fx x,(0,(),(),(),0,0,0,0,0,(),()),(x.now,(),(),(),x.master.activated,x.masterUp,x.lease.epoch,x.lease.holder,x.lease.ends,(),()),()),(m,x.servers,x.sides,x.master.configs,x.places,()))=_ from k1,
    show MU ((id,e,(),(),(),(),(m.length:Int),0,()),(fx x,(0,(),(),(),0,0,0,0,0,(),()),(x.now,(),(),(),x.master.activated,x.masterUp,x.lease.epoch,x.lease.holder,x.lease.ends,(),()),()),(m,x.servers,x.sides,x.master.configs,x.places,()))=_ from k2]
   have at_:∀j (hj:j<S.length),∃s,x.servers[j]?=some s/\∃ep,S[j]=M2 s ep/\(ep=s.epoch\/(ep=e/\s.epoch<=e)):=by
    intro j hj;have hj':j<x.servers.length:=by rw[<-q.1];exact hj
    obtain⟨ep,p1,p2,_⟩:=q.2 j _ (aq hj');rw[aq hj]at p1;exact⟨_,aq hj',ep,Option.some.inj p1,p2⟩
   have sv:=PL ok hv
   have fin:=abe ok hv S q.1 (λs hs=>by
     obtain⟨j,hj,rfl⟩:=aU hs;obtain⟨t,t1,ep,t2,_⟩:=at_ j hj;rw[t2];exact ok.1.2 t (aA t1))
    (λj hj=>by obtain⟨t,t1,ep,t2,t3⟩:=at_ j hj;have hj':j<x.servers.length:=Du t1;have svj:=sv j hj';rw[aq hj']at t1;rw[Option.some.inj t1]at svj;have okt:=ok.1.2 x.servers[j] (D6 hj');rw[Option.some.inj t1]at okt;rw[t2];have:=svj.ep;exact ael okt svj (by omega) (by omega) hml)
   refine⟨S,rfl,rfl,fin.1,fin.2,⟨rfl,rfl,λj s h=>by obtain⟨ep,p1,_⟩:=q.2 j s h;exact⟨ep,p1⟩⟩,VP q.1 λj ha hb=>?_⟩
   obtain⟨t,t1,ep,t2,_⟩:=at_ j ha;rw[aq hb]at t1;rw[t2,<-Option.some.inj t1];rfl
end
section
abbrev z0:Int×Unit×Unit×Unit×Int×Int×Int×Int×Int×Unit×Unit:=(0,(),(),(),0,0,0,0,0,(),())
abbrev fy(x:qh):Int×Unit×Unit×Unit×Int×Int×Int×Int×Int×Unit×Unit:=(x.now,(),(),(),x.master.activated,x.masterUp,x.lease.epoch,x.lease.holder,x.lease.ends,(),())
theorem XZ(x:qh)(S:List qk)(hS:S.length=5/\∀s∈S,Fs 1048576 s)(n:nG)(hn:Gu 1048576 n)(l:List rp)(hl:l.length<=1048576)(m:List Int)(m3:m.length<=10)(m4:∀y∈m,0<=y/\y<5):∃T,((T.length=5/\∀s∈T,Fs 1048576 s)/\True)/\
  Oz (((),(),(),(),(),(),0,()),(fx x,z0,fy x,(n.epoch,n.primary,(),(),()),()),(l,m,S,x.sides,x.master.configs,x.places,n.replicas,n.witnesses,()))=some (((),(),(),(),()),(fx x,z0,fy x,(n.epoch,n.primary,(),(),()),()),(T,x.sides,x.master.configs,x.places,n.replicas,n.witnesses,()))/\
  QV (((),(),(),(),(),(m.length:Int),0,()),(z0,(n.epoch,n.primary,(),(),()),fy x,()),(l,m,n.replicas,n.witnesses,S,x.sides,x.master.configs,x.places,()))=some (((),(),(),()),(z0,(n.epoch,n.primary,(),(),()),fy x,()),(n.replicas,n.witnesses,T,x.sides,x.master.configs,x.places,())):=by
 have mm:m.length<=maxLen:=by unfold maxLen;omega
 refine Mu (B1:=IB) (B2:=Jz) m.length (λk (S:List qk)=>(((),(),(),(),(),(),(k:Int),()),(fx x,z0,fy x,(n.epoch,n.primary,(),(),()),()),(l,m,S,x.sides,x.master.configs,x.places,n.replicas,n.witnesses,()))) (λk S=>(((),(),(),(),(),(m.length:Int),(k:Int),()),(z0,(n.epoch,n.primary,(),(),()),fy x,()),(l,m,n.replicas,n.witnesses,S,x.sides,x.master.configs,x.places,()))) (λk S'=>(S'.length=5/\∀s∈S',Fs 1048576 s)/\True)
  (λT=>(((),(),(),(),()),(fx x,z0,fy x,(n.epoch,n.primary,(),(),()),()),(T,x.sides,x.master.configs,x.places,n.replicas,n.witnesses,()))) (λT=>(((),(),(),()),(z0,(n.epoch,n.primary,(),(),()),fy x,()),(n.replicas,n.witnesses,T,x.sides,x.master.configs,x.places,())))
  (λS _=>?_) (λk S' hk hS'=>?_) S ⟨hS,trivial⟩
 ·simp only[IB,Jz,Dl];exact⟨if_neg (by omega),if_neg (by omega)⟩
 ·have c1: (k:Int)<(m.length:Int):=by omega
  have c2: (0:Int)<=(k:Int)/\(k:Int)<(m.length:Int):=by omega
  have hz:=m4 _ (D6 hk);generalize hzz:m[k]=z at hz;have hg:m[k]?=some z:=by rw[<-hzz];exact aq hk
  obtain⟨hS',_⟩:=hS';have hlt:z.toNat<S'.length:=by rw[hS'.1];omega
  have c3:0<=z/\z<(S'.length:Int):=by rw[hS'.1];omega
  have s1:S'[z.toNat]?=some S'[z.toNat] :=aq hlt;have s2:=hS'.2 _ (D6 hlt);generalize S'[z.toNat]=s at s1 s2;obtain⟨r,b,r1,r2,r3,_⟩:=U1 s n z l s2 hn hl;simp only[IB,Jz,fx,fy,z0,Dl,Cy,if_pos c1,if_pos c2,D4,hg,ao,if_pos c3,s1,aP,az,if_true,cE,D9,r1,r2,Cb mm hk];refine⟨S'.set z.toNat r,rfl,rfl,⟨by simp[hS'.1],λt ht=>?_⟩,trivial⟩;rcases cY ht with h|h
  ·exact hS'.2 t h
  ·rw[h];exact r3
theorem abn(x:qh)(ok:EP 1048576 x)(vc:VC x)(S:List qk)(ok':EP 1048576 (Gv x S))(vc':VC (Gv x S))(se:ZV x (Gv x S))(n:nG)(l:List rp)(m:List Int)(m3:m.length<=10)(m4:∀y∈m,0<=y/\y<5):
  (Oy (((),(),(),(),(),(),0,()),(fx x,z0,fy x,(n.epoch,n.primary,(),(),()),()),(l,m,S,x.sides,x.master.configs,x.places,n.replicas,n.witnesses,()))=some (.inr (((),(),(),(),(),(),(),()),(fx x,z0,fy x,(n.epoch,n.primary,(),(),()),()),(l,m,S,x.sides,x.master.configs,x.places,n.replicas,n.witnesses,())))/\Fn m (Gv x S)=some (false,()))\/
  (Oy (((),(),(),(),(),(),0,()),(fx x,z0,fy x,(n.epoch,n.primary,(),(),()),()),(l,m,S,x.sides,x.master.configs,x.places,n.replicas,n.witnesses,()))=some (.inl (((),(),10,(),(),(),(),()),(fx x,fy x,fy x,(n.epoch,n.primary,(),(),()),()),(l,m,S,x.sides,x.master.configs,x.places,n.replicas,n.witnesses,())))/\Fn m (Gv x S)=some (true,())):=by
 have mm:m.length<=maxLen:=by unfold maxLen;omega
 have hsl:=J3 (EO ok.2.1) vc.sides;have hsl':=J3 (EO ok'.2.1) vc'.sides
 have fB:=Da (B1:=IA) (B2:=Fu) m.length (λk=>(((),(),(),(),(),(),(k:Int),()),(fx x,z0,fy x,(n.epoch,n.primary,(),(),()),()),(l,m,S,x.sides,x.master.configs,x.places,n.replicas,n.witnesses,()))) (λk=>((m,(Gv x S,()),(m.length:Int),(k:Int),()),(),()))
  (.inr (((),(),(),(),(),(),(),()),(fx x,z0,fy x,(n.epoch,n.primary,(),(),()),()),(l,m,S,x.sides,x.master.configs,x.places,n.replicas,n.witnesses,()))) (.inr (((),()),(),()))
  (λ_=>.inl (((),(),10,(),(),(),(),()),(fx x,fy x,fy x,(n.epoch,n.primary,(),(),()),()),(l,m,S,x.sides,x.master.configs,x.places,n.replicas,n.witnesses,()))) (λk=>.inl (((k:Int),()),(),()))
  (λ_=>True) (λ_=>True)
  (by simp only[IA];rw[Dl,if_neg (by omega)])
  (by simp only[Fu];rw[Dl,if_neg (by omega)])
  (λk hk=>by
    have c1: (k:Int)<(m.length:Int):=by omega
    have c2: (0:Int)<=(k:Int)/\(k:Int)<(m.length:Int):=by omega
    have hz:=m4 _ (D6 hk);generalize hzz:m[k]=z at hz;have hg:m[k]?=some z:=by rw[<-hzz];exact aq hk
    obtain⟨s,s1,s2,_⟩:=HI ok vc hz;obtain⟨e,e1⟩:=se.srv _ _ s1;have hside:z.toNat<x.sides.length:=by omega
    have d1:x.sides[z.toNat]?=some x.sides[z.toNat] :=aq hside
    have hu:Kn z (Gv x S)=some (!(s.up&&(x.sides[z.toNat] ==0)),()):=by have e1':S[z.toNat]?=some (M2 s e):=e1;unfold Kn Pk;simp only[Cy,if_pos hz.1,e1',ao,d1];cases s.up<;>rfl
    simp only[IA,Fu,fx,fy,z0,Dl,EE,Cy,if_pos c1,if_pos c2,if_pos c2.1,D4,hg,ao,if_pos hz.1,s1,d1,hu,Cb mm hk];cases s.up with
    |false=>exact .inr ⟨rfl,rfl,trivial⟩
    |true=>
     cases (x.sides[z.toNat] ==0)with
     |false=>exact .inr ⟨rfl,rfl,trivial⟩
     |true=>exact .inl ⟨rfl,rfl,trivial⟩)
 unfold Fn Gy;rcases fB with⟨k1,k2,_⟩| ⟨k,_,k1,k2,_⟩
 ·refine .inl ⟨k1,?_⟩;rw[show G9 ((m,(Gv x S,()),(m.length:Int),0,()),(),())=_ from k2];rfl
 ·refine .inr ⟨k1,?_⟩;rw[show G9 ((m,(Gv x S,()),(m.length:Int),0,()),(),())=_ from k2];simp only[ao,Eg];rw[decide_eq_true (by omega)]
theorem Yz(x:qh)(ok:EP 1048576 x)(vc:VC x)(S:List qk)(se:ZV x (Gv x S))(n:nG)(l:List rp)(m:List Int)(m3:m.length<=10)(m4:∀y∈m,0<=y/\y<5){b:Bool}(hb:Ft l=some (b,())):
  (Mv (((),(),(),(),(),(),0,()),(fx x,z0,fy x,(n.epoch,n.primary,(),(),()),()),(l,m,S,x.sides,x.master.configs,x.places,n.replicas,n.witnesses,()))=some (.inr (((),(),(),(),(),(),(),()),(fx x,z0,fy x,(n.epoch,n.primary,(),(),()),()),(l,m,S,x.sides,x.master.configs,x.places,n.replicas,n.witnesses,())))/\(b=false\/Fo m (Gv x S)=some (false,())))\/
  (Mv (((),(),(),(),(),(),0,()),(fx x,z0,fy x,(n.epoch,n.primary,(),(),()),()),(l,m,S,x.sides,x.master.configs,x.places,n.replicas,n.witnesses,()))=some (.inl (((),(),6,(),(),(),(),()),(fx x,fy x,fy x,(n.epoch,n.primary,(),(),()),()),(l,m,S,x.sides,x.master.configs,x.places,n.replicas,n.witnesses,())))/\b=true/\Fo m (Gv x S)=some (true,())):=by
 have mm:m.length<=maxLen:=by unfold maxLen;omega
 have common:∀k,(hk:k<m.length)->∃s:qk,GQ (((),(),(),(),(),(),(k:Int),()),(fx x,z0,fy x,(n.epoch,n.primary,(),(),()),()),(l,m,S,x.sides,x.master.configs,x.places,n.replicas,n.witnesses,()))=(if(s.version==1&&b)=true then some (.inr (.inl (((),(),6,(),(),(),(),()),(fx x,fy x,fy x,(n.epoch,n.primary,(),(),()),()),(l,m,S,x.sides,x.master.configs,x.places,n.replicas,n.witnesses,()))))else some (.inl (((),(),(),(),(),(),((k+1:Nat):Int),()),(fx x,z0,fy x,(n.epoch,n.primary,(),(),()),()),(l,m,S,x.sides,x.master.configs,x.places,n.replicas,n.witnesses,()))))/\
   Fh ((m,(Gv x S,()),(m.length:Int),(k:Int),()),(),())=(if(s.version==1)=true then some (.inr (.inl (((k:Int),()),(),())))else some (.inl ((m,(Gv x S,()),(m.length:Int),((k+1:Nat):Int),()),(),()))):=by
  intro k hk;have c1: (k:Int)<(m.length:Int):=by omega
  have c2: (0:Int)<=(k:Int)/\(k:Int)<(m.length:Int):=by omega
  have hz:=m4 _ (D6 hk);generalize hzz:m[k]=z at hz;have hg:m[k]?=some z:=by rw[<-hzz];exact aq hk
  obtain⟨s,s1,s2,_⟩:=HI ok vc hz;obtain⟨e,e1⟩:=se.srv _ _ s1;have e1':S[z.toNat]?=some (M2 s e):=e1;refine⟨s,?_,?_⟩
  ·simp only[GQ,fx,fy,z0,Dl,Cy,if_pos c1,if_pos c2,D4,hg,ao,if_pos hz.1,s1,hb,Cb mm hk];cases (s.version==1)<;>cases b<;>rfl
  ·simp only[Fh,Ml,Dl,Cy,if_pos c1,if_pos c2.1,D4,hg,ao,if_pos hz.1,e1',Cb mm hk];cases (s.version==1)<;>rfl
 cases b with
 |false=>
  have fB:=CC (B:=GQ) m (λk (_:Unit)=>(((),(),(),(),(),(),(k:Int),()),(fx x,z0,fy x,(n.epoch,n.primary,(),(),()),()),(l,m,S,x.sides,x.master.configs,x.places,n.replicas,n.witnesses,()))) (λ_ _=>True) (λ_ _ _=>.inr (((),(),(),(),(),(),(),()),(fx x,z0,fy x,(n.epoch,n.primary,(),(),()),()),(l,m,S,x.sides,x.master.configs,x.places,n.replicas,n.witnesses,())))
   (λ_ _=>by simp only[GQ];rw[Dl,if_neg (by omega)])
   (λk _ z hz _=>by obtain⟨s,h1,_⟩:=common k (Du hz);exact .inl ⟨(),by rw[h1];simp,trivial,rfl⟩)
   0 () (bO _) trivial
  exact .inl ⟨fB,.inl rfl⟩
 |true=>
  have fB:=Da (B1:=GQ) (B2:=Fh) m.length (λk=>(((),(),(),(),(),(),(k:Int),()),(fx x,z0,fy x,(n.epoch,n.primary,(),(),()),()),(l,m,S,x.sides,x.master.configs,x.places,n.replicas,n.witnesses,()))) (λk=>((m,(Gv x S,()),(m.length:Int),(k:Int),()),(),()))
   (.inr (((),(),(),(),(),(),(),()),(fx x,z0,fy x,(n.epoch,n.primary,(),(),()),()),(l,m,S,x.sides,x.master.configs,x.places,n.replicas,n.witnesses,()))) (.inr (((),()),(),()))
   (λ_=>.inl (((),(),6,(),(),(),(),()),(fx x,fy x,fy x,(n.epoch,n.primary,(),(),()),()),(l,m,S,x.sides,x.master.configs,x.places,n.replicas,n.witnesses,()))) (λk=>.inl (((k:Int),()),(),()))
   (λ_=>True) (λ_=>True)
   (by simp only[GQ];rw[Dl,if_neg (by omega)])
   (by simp only[Fh];rw[Dl,if_neg (by omega)])
   (λk hk=>by
     obtain⟨s,h1,h2⟩:=common k hk;rw[h1,h2];cases (s.version==1)with
     |true=>exact .inr ⟨rfl,rfl,trivial⟩
     |false=>exact .inl ⟨rfl,rfl,trivial⟩)
  unfold Fo Gz;rcases fB with⟨k1,k2,_⟩| ⟨k,_,k1,k2,_⟩
  ·refine .inl ⟨k1,.inr ?_⟩;rw[show Ha ((m,(Gv x S,()),(m.length:Int),0,()),(),())=_ from k2];rfl
  ·refine .inr ⟨k1,rfl,?_⟩;rw[show Ha ((m,(Gv x S,()),(m.length:Int),0,()),(),())=_ from k2];simp only[ao,Eg];rw[decide_eq_true (by omega)]
end
section
theorem Oe.filter{l:List Int}(h:Oe l)(p:Int->Bool):Oe (l.filter p):=by refine PP (h.pair.filter p) λy hy=>?_;obtain⟨k,hk,rfl⟩:=aU (Et.1 hy).1;have:=(h k hk).1;omega
theorem YK:Oe [0,1,2,3,4] :=by refine PP (by simp[SS]) λy hy=>?_;simp at hy;omega
end
section
theorem WY(x:qh)(ok:EP 1048576 x):∃y n,H1 x=some (y,n,())/\Nw x=some (y,n,())/\EP 1048576 y/\y.servers.length=x.servers.length:=by
 obtain⟨v,v1,v2⟩:=Fx x ok;obtain⟨c,d,c1,c2,c3⟩:=Mx x.master (x.master.configs.length:Int) ok.2.2.1
 have d1:Gk x.master=some (c,d,()):=by unfold Gk;rw[c1];rfl
 have d2:Lc x.master=some (c,d,()):=by unfold Lc;rw[c2];rfl
 obtain⟨q,q1,q2⟩:=SU x.lease x.now;unfold H1 Nw HN;simp only[(FO x ok).1,(FO x ok).2,d1,d2,v1,v2,q1,q2,ao,EE];have dn:∀n:Int,∃y k,some (x,n,())=some (y,k,())/\some (x,n,())=some (y,k,())/\EP 1048576 y/\y.servers.length=x.servers.length:=λn=>⟨x,n,rfl,rfl,ok,rfl⟩
 cases v with
 |false=>exact dn 1
 |true=>
  cases d with
  |false=>exact dn 1
  |true=>
   have vc:=EZ ok v1;obtain⟨_,f2,f3⟩:=Np (Gp ok.2.2.1) vc.ml
   have hval:EH c=some (true,())/\c.epoch=(x.master.configs.length:Int):=by obtain⟨c',b',e1,_,_,_,e5,_⟩:=IX x.master (x.master.configs.length:Int) ok.2.2.1 vc.ml;rw[c1]at e1;simp only[af,au,and_true]at e1;obtain⟨rfl,rfl⟩:=e1;exact e5 rfl
   obtain⟨a1,a2,hpr,_⟩:=Gq c3 hval.1;have hok:Gu 1048576 c:=⟨by have:=a1.len;omega,by have:=a2.len;omega⟩
   have hp:0<=c.primary/\c.primary<5:=by obtain⟨k,hk,e⟩:=aU hpr;have:=(a1 k hk).1;omega
   obtain⟨s,s1,s2,_⟩:=HI ok vc hp;have hup:=vc.up;have hsl:=J3 (EO ok.2.1) vc.sides;have hside:c.primary.toNat<x.sides.length:=by omega
   have g1:x.sides[c.primary.toNat]?=some x.sides[c.primary.toNat] :=aq hside;have w1:IntKind.wrap .i64 (x.masterUp*2)=x.masterUp*2:=vP (by omega) (by omega);have w2:IntKind.wrap .i64 (2*x.masterUp)=x.masterUp*2:=by rw[vP (by omega) (by omega),Int.mul_comm]
   simp only[C3,Dl,Gw,w1,w2,hval.2];by_cases h1: (x.master.configs.length:Int)=x.master.activated
   ·simp only[if_pos h1,if_pos (show (x.master.configs.length:Int)<=x.master.activated by omega)];exact dn 1
   ·simp only[if_neg h1,if_neg (show ¬ (x.master.configs.length:Int)<=x.master.activated by omega)];by_cases h2:x.masterUp*2<=3
    ·simp only[if_pos h2,if_neg (show ¬x.masterUp*2>3 by omega)];exact dn 8
    ·simp only[if_neg h2,if_pos (show x.masterUp*2>3 by omega),C3,Ce,Cy,if_pos hp.1,s1,g1,ao];cases s.up with
     |false=>exact dn 2
     |true=>
      simp only[C3];by_cases h3:x.sides[c.primary.toNat]=0
      case neg=>simp only[if_neg h3];exact dn 10
      simp only[if_pos h3];cases q with
      |false=>exact dn 7
      |true=>
       simp only[C3];obtain⟨S,t1,t2,ok',hv',se,sS⟩:=Tf x ok v1 (id:=c.primary) (e:=(x.master.configs.length:Int)) hp;have vc':=EZ ok' hv';obtain⟨l,b,l1,l2,l3⟩:=V6 ok ok' v1 hv' se hp;obtain⟨m,m1,m2,m3,m4,_⟩:=Hy c c3;obtain⟨nf,n1,n2⟩:=aaY l (EO l3);have okS:S.length=5/\∀s∈S,Fs 1048576 s:=⟨vc'.len,ok'.1.2⟩
       obtain⟨T,⟨t3,_⟩,i1,i2⟩:=XZ x S okS c hok l l3 m m3 m4;obtain⟨r,rb,r1,r2,r3,_⟩:=TL x.master (x.master.configs.length:Int) ok.2.2.1;have un:=abn x ok vc S ok' vc' se c l m m3 m4;have ov:=Yz x ok vc S se c l m m3 m4 n1;simp only[fx,fy,z0,hval.2]at i1 i2 un ov;have fin:∀n:Int,∃y k,some (Gv x S,n,())=some (y,k,())/\some (Gv x S,n,())=some (y,k,())/\EP 1048576 y/\y.servers.length=x.servers.length:=λn=>⟨Gv x S,n,rfl,rfl,ok',okS.1.trans vc.len.symm⟩
       have last:EP 1048576 ⟨x.now,T,x.sides,r,x.masterUp,⟨0,0,0⟩,x.places⟩/\T.length=x.servers.length:=⟨⟨⟨by show T.length<=_;omega,t3.2⟩,ok.2.1,r3,ok.2.2.2⟩,t3.1.trans vc.len.symm⟩
       simp only[t1,t2,l1,l2,ao];cases b with
       |false=>exact fin 9
       |true=>
        simp only[C3,m1,m2,ao];rcases un with⟨u1,u2⟩| ⟨u1,u2⟩
        ·simp only[u1,u2,n2,ao,Ek,Ce];rcases ov with⟨o1,o2⟩| ⟨o1,rfl,o2⟩
         ·simp only[o1,ao,Ek,i1,i2,show (⟨x.master.configs,x.master.activated⟩:jZ)=x.master from rfl,r1,r2];rcases o2 with rfl|o2
          ·exact⟨_,_,rfl,rfl,last⟩
          ·simp only[o2,ao,Ce];cases nf<;>exact⟨_,_,rfl,rfl,last⟩
         ·simp only[o1,o2,ao,Eg,C3];exact fin 6
        ·simp only[u1,u2,ao,Eg,C3];exact fin 10
theorem Te(x:qh)(ok:EP 1048576 x)(c:nG)(hc:Gu 1048576 c):∃y n,Ge x c=some (y,n,())/\Ko x c=some (y,n,())/\EP 1048576 y/\y.lease=x.lease/\y.now=x.now:=by
 obtain⟨v,v1,v2⟩:=Fx x ok;obtain⟨r,b,r1,r2,r3,_⟩:=Rb x.master c ok.2.2.1 hc;unfold Ge Ko HN;simp only[(FO x ok).1,(FO x ok).2,v1,v2,r1,r2,ao,EE];cases v with
 |false=>exact⟨x,1,rfl,rfl,ok,rfl,rfl⟩
 |true=>
  have hup:=(EZ ok v1).up;rw[vP (n:=x.masterUp*2) (by omega) (by omega),vP (n:=2*x.masterUp) (by omega) (by omega),Int.mul_comm 2 x.masterUp];simp only[C3,Dl];by_cases h2:x.masterUp*2<=3
  ·simp only[if_pos h2,if_neg (show ¬x.masterUp*2>3 by omega)];exact⟨x,8,rfl,rfl,ok,rfl,rfl⟩
  ·simp only[if_neg h2,if_pos (show x.masterUp*2>3 by omega)];cases b with
   |false=>exact⟨x,1,rfl,rfl,ok,rfl,rfl⟩
   |true=>exact⟨⟨x.now,x.servers,x.sides,r,x.masterUp,x.lease,x.places⟩,0,rfl,rfl,⟨ok.1,ok.2.1,r3,ok.2.2.2⟩,rfl,rfl⟩
theorem XW(l:uN)(e h n t:Int):∃r b,Lf l e h n t=some (r,b,())/\RB l e h n t=some (r,b,()):=by obtain⟨b,h1,h2⟩:=Pm l;obtain⟨q,q1,q2⟩:=SU l n;unfold Lf RB;simp only[h1,h2,q1,q2,FB,Kb,ao];cases (l.epoch==e)<;>cases b<;>cases HC e 1 20<;>cases HC h 0 4<;>cases HC n 0 999<;>cases HC t 1 50<;>cases (l.holder==h)<;>cases q<;>exact⟨_,_,rfl,rfl⟩
end
section
def Rk:List nu->Int->Nat
 | [],_=>0
 |x::l,c=>if x.client<c then Rk l c+1 else 0
theorem abX(l:List nu)(c:Int):Rk l c<=l.length:=by
 induction l with
 |nil=>exact az _
 |cons x l ih=>
  unfold Rk;split
  ·simp only[bD];omega
  ·exact bO _
theorem abY{l:List nu}{c:Int}(h:∃x∈l,x.client=c):Rk l c<l.length:=by
 induction l with
 |nil=>obtain⟨x,hx,_⟩:=h;cases hx
 |cons y l ih=>
  unfold Rk;split
  ·rename_i hy;obtain⟨x,hx,hc⟩:=h;rcases aZ.1 hx with rfl|hx
   ·omega
   ·have:=ih ⟨x,hx,hc⟩;simp only[bD];omega
  ·simp
theorem aek(b d:Bool)(v:Int)(o:Op)(objs:List Int)(l:List nu)(hl:l.length<=1000):Nl (((),(),(),(),b,(),0,()),((o.client,o.seq,o.kind,o.object,o.old,o.value,()),((),(),()),(false,0,()),((),(),()),(d,v,()),()),objs,l,())=
  some (((),(),(),(),b,(),((Rk l o.client:Nat):Int),()),((o.client,o.seq,o.kind,o.object,o.old,o.value,()),((),(),()),(false,0,()),((),(),()),(d,v,()),()),objs,l,()):=by
 have ml:l.length<=maxLen:=by unfold maxLen;omega
 have fB:=CC (B:=J4) l (λk (_:Unit)=>(((),(),(),(),b,(),(k:Int),()),((o.client,o.seq,o.kind,o.object,o.old,o.value,()),((),(),()),(false,0,()),((),(),()),(d,v,()),()),objs,l,())) (λ_ _=>True)
  (λk r _=>(((),(),(),(),b,(),((k+Rk r o.client:Nat):Int),()),((o.client,o.seq,o.kind,o.object,o.old,o.value,()),((),(),()),(false,0,()),((),(),()),(d,v,()),()),objs,l,()))
  (λ_ _=>by simp only[J4];rw[Dl,if_neg (by omega)];rfl)
  (λk _ x hx _=>by
    have hk:=Du hx;have c1: (k:Int)<(l.length:Int):=by omega
    have c2: (0:Int)<=(k:Int)/\(k:Int)<(l.length:Int):=by omega
    simp only[J4,Dl,Cy,if_pos c1,if_pos c2,D4,hx,ao,Cb ml hk];by_cases h:x.client<o.client
    ·rw[if_pos h];refine .inl ⟨(),rfl,trivial,?_⟩;rw[Rk,if_pos h,show k+(Rk (l.drop (k+1)) o.client+1)=k+1+Rk (l.drop (k+1)) o.client by omega]
    ·rw[if_neg h];refine .inr ?_;rw[Rk,if_neg h];rfl) 0 () (bO _) trivial
 simp only[aP,cE]at fB;exact fB
theorem Zd{o:Op}(h:FI o=some (true,())):0<=o.object/\o.object<=2:=by
 unfold FI at h;simp only[FB,ao]at h;cases h1:HC o.client 0 2 with
 |false=>rw[h1]at h;cases h
 |true=>
  cases h2:HC o.seq 1 99 with
  |false=>rw[h1,h2]at h;cases h
  |true=>
   cases h3:HC o.object 0 2 with
   |false=>rw[h1,h2,h3]at h;cases h
   |true=>exact EI.1 h3
def opB(o:Op):Bool:=match FI o with |some (b,_)=>b|none=>false
theorem Ps(o:Op):FI o=some (opB o,()):=by obtain⟨b,h,_⟩:=Zh o;unfold opB;rw[h]
def ZE(l:List rp)(k:Nat):Bool:=match l[k]? with
 |some e=>HC e.epoch 1 20&&(opB e.op&&(decide (k=0)||match l[k-1]? with |some d=> !decide (d.epoch>e.epoch)|none=>false))
 |none=>false
theorem OS(l:List rp)(hl:l.length<=maxLen):FE l=some (true,())↔l.length<=16/\∀k,k<l.length->ZE l k=true:=by
 have fB:=NR (B:=J6) l.length (λk=>((l,(k:Int),()),(),())) (.inr ((l,(),()),(),())) (λ_=>.inl ((l,false,()),(),())) (λk=> !ZE l k)
  (by simp only[J6];rw[Dl,if_neg (by omega)])
  (λk hk=>by
    have c1: (k:Int)<(l.length:Int):=by omega
    have c2: (0:Int)<=(k:Int):=by omega
    simp only[J6,Dl,Cy,if_pos c1,if_pos c2,D4,aq hk,ao,Ps,FB,Cb hl hk,EE,ZE];cases HC l[k].epoch 1 20 with
    |false=>rfl
    |true=>
     cases opB l[k].op with
     |false=>rfl
     |true=>
      by_cases h0:0<k
      ·have c3: (k:Int)>0:=by omega
       have c4: (0:Int)<=((k-1:Nat):Int):=by omega
       have c5: ¬k=0:=by omega
       have e2:l[k-1]?=some l[k-1] :=aq (by omega);simp only[C3,if_pos c3,B9 h0 (by omega),if_pos c4,D4,e2,ao,decide_eq_false c5,dz,b7,Bool.not_not];by_cases hlt:l[k-1].epoch>l[k].epoch
       ·rw[if_pos hlt,decide_eq_true hlt];rfl
       ·rw[if_neg hlt,decide_eq_false hlt];rfl
      ·have c3: ¬ (k:Int)>0:=by omega
       have c5:k=0:=by omega
       simp only[C3,if_neg c3,decide_eq_true c5];rfl)
 unfold FE;rcases fB with⟨k1,k2⟩| ⟨k,h0,k1,k2,_⟩
 ·rw[show OZ ((l,0,()),(),())=_ from k1];simp only[ao,Ek,af,au,and_true,decide_eq_true_eq];constructor
  ·intro h;exact⟨by omega,λk hk=>by simpa using k2 k hk⟩
  ·intro h;omega
 ·rw[show OZ ((l,0,()),(),())=_ from k1];simp only[ao,Eg,af,au,and_true];constructor
  ·intro h;cases h
  ·rintro⟨_,h⟩
   have:=h k h0;rw[this]at k2;cases k2
structure VM (m:nr):Prop where
 vlen:m.objects.length=3
 vobj:∀v∈m.objects,HC v 0 9=true
 vses:∀x∈m.sessions,HC x.client 0 2=true/\HC x.seq 1 99=true/\HC x.result.value 0 9=true
 vasc:m.sessions.Pairwise λx y=>x.client<y.client
theorem VM.valid{m:nr}(h:VM m)(hs:m.sessions.length<=1000):GP m=some (true,()):=by
 have mo:m.objects.length<=maxLen:=by rw[h.vlen];unfold maxLen;omega
 have ms:m.sessions.length<=maxLen:=by unfold maxLen;omega
 have k1:=NR (B:=GM) m.objects.length (λk=>(((),(k:Int),()),((m.objects,m.sessions,()),()),())) (.inr (((),(),()),((m.objects,m.sessions,()),()),())) (λ_=>.inl (((),false,()),((m.objects,m.sessions,()),()),())) (λ_=>false)
  (by simp only[GM];rw[Dl,if_neg (by omega)])
  (λk hk=>by
    have c1: (k:Int)<(m.objects.length:Int):=by omega
    have c2: (0:Int)<=(k:Int):=by omega
    simp only[GM,Dl,Cy,if_pos c1,if_pos c2,D4,aq hk,ao,FB,h.vobj _ (D6 hk),Cb mo hk];rfl)
 have k2:=NR (B:=GN) m.sessions.length (λk=>(((),(k:Int),()),((m.objects,m.sessions,()),()),())) (.inr (((),(),()),((m.objects,m.sessions,()),()),())) (λ_=>.inl (((),false,()),((m.objects,m.sessions,()),()),())) (λ_=>false)
  (by simp only[GN];rw[Dl,if_neg (by omega)])
  (λk hk=>by
    have c1: (k:Int)<(m.sessions.length:Int):=by omega
    have c2: (0:Int)<=(k:Int):=by omega
    obtain⟨h1,h2,h3⟩:=h.vses _ (D6 hk);simp only[GN,Dl,Cy,if_pos c1,if_pos c2,D4,aq hk,ao,FB,h1,h2,h3,dg,Ce,Cb ms hk];by_cases h0:0<k
    ·have c3: (k:Int)>0:=by omega
     have c4: (0:Int)<=((k-1:Nat):Int):=by omega
     have e1:m.sessions[k-1]?=some (m.sessions[k-1]'(by omega)):=aq (by omega);have:=Ec.1 h.vasc (k-1) k (by omega) hk (by omega);have c5: ¬ (m.sessions[k-1]'(by omega)).client≥m.sessions[k].client:=by omega
     simp only[if_pos c3,B9 h0 (by unfold maxLen at ms ⊢;omega),if_pos c4,D4,e1,ao,if_neg c5];rfl
    ·have c3: ¬ (k:Int)>0:=by omega
     simp only[if_neg c3];rfl)
 unfold GP;rcases k1 with⟨g1,_⟩| ⟨k,_,_,hf,_⟩
 ·rcases k2 with⟨g2,_⟩| ⟨k,_,_,hf,_⟩
  ·rw[show NT (((),0,()),((m.objects,m.sessions,()),()),())=_ from g1];simp only[ao,Ek,show KT (((),0,()),((m.objects,m.sessions,()),()),())=_ from g2,h.vlen];rfl
  ·cases hf
 ·cases hf
theorem adA{o:Op}(h:opB o=true):HC o.client 0 2=true/\HC o.seq 1 99=true/\HC o.value 0 9=true:=by
 have h0:FI o=some (true,()):=by rw[Ps,h]
 unfold FI at h0;simp only[FB,ao]at h0;cases h1:HC o.client 0 2 with
 |false=>rw[h1]at h0;cases h0
 |true=>
  cases h2:HC o.seq 1 99 with
  |false=>rw[h1,h2]at h0;cases h0
  |true=>
   cases h3:HC o.object 0 2 with
   |false=>rw[h1,h2,h3]at h0;cases h0
   |true=>
    cases h4:HC o.value 0 9 with
    |false=>rw[h1,h2,h3,h4]at h0;cases h0
    |true=>exact⟨rfl,rfl,rfl⟩
end
section
theorem Ke(x:qh)(ok:EP 1048576 x)(id:Int):∃b,FZ x id=some (b,())/\FU x id=some (b,())/\(b=true->ED x=some (true,())/\0<=id/\id<5/\∀s,x.servers[id.toNat]?=some s->EV s id=some (true,())):=by
 obtain⟨v,v1,v2⟩:=Fx x ok;cases v with
 |false=>
  refine⟨false,?_,?_,nofun⟩
  ·unfold FZ;simp only[v1,ao,Ce]
  ·unfold FU Fp;simp only[v2,ao,Ce]
 |true=>
  cases hw:HC id 0 4 with
  |false=>
   refine⟨false,?_,?_,nofun⟩
   ·unfold FZ;simp only[v1,FB,hw,ao,C3,Ce]
   ·unfold FU Fp;simp only[v2,Kb,hw,ao,C3,Ce]
  |true=>
   have hid:=EI.1 hw;obtain⟨s,s1,s2,s3⟩:=HI ok (EZ ok v1) (a:=id) (by omega);obtain⟨b,b1,b2⟩:=Ob s id s2;refine⟨b,?_,?_,λhb=>⟨v1,hid.1,by omega,λs' hs=>?_⟩⟩
   ·unfold FZ;simp only[v1,FB,hw,ao,C3,Cy,if_pos hid.1,s1,b1]
   ·unfold FU Fp;simp only[v2,Kb,hw,ao,C3,Cy,if_pos hid.1,s1,b2]
   ·rw[s1]at hs;obtain rfl:=Option.some.inj hs;rw[b1,hb]
theorem adZ{c:nG}{id:Int}(h:Gu maxLen c)(hr:Fm c id=some (1,())):EH c=some (true,())/\id=c.primary:=by
 obtain⟨v,v1,v2⟩:=HS c h;unfold Fm at hr;simp only[v1,ao,(EY c.replicas id h.1).1,(EY c.witnesses id h.2).1,EE,Gw]at hr;cases v with
 |false=>simp only[Ce]at hr;simp at hr
 |true=>
  refine⟨v1,?_⟩;by_cases he:id=c.primary
  ·exact he
  ·simp only[C3,if_neg he]at hr;cases h1:decide (id∈c.replicas)<;>cases h2:decide (id∈c.witnesses)<;>rw[h1,h2]at hr<;>simp[C3,Ce]at hr
theorem Kf{s:qk}{id:Int}(ok:Fs 1048576 s)(h:EV s id=some (true,())):EH s.config=some (true,())/\id=s.config.primary:=by
 obtain⟨v,v1,v2⟩:=MR s id ok;obtain⟨n,n1,n2,_⟩:=Od s.config id (EK ok.1);unfold EV at h;simp only[v1,n1,ao,Gw]at h;cases v with
 |false=>simp[Ce]at h
 |true=>
  cases hu:s.up with
  |false=>rw[hu]at h;simp[C3,Ce]at h
  |true=>
   rw[hu]at h;simp only[C3]at h;by_cases hn:n=1
   ·subst hn;exact adZ (EK ok.1) n1
   ·rw[if_neg hn]at h;simp at h
theorem SH(c:nG)(y:Int)(h:Gu maxLen c)(hv:EH c=some (true,())):∃n,Fm c y=some (n,())/\I0 c y=some (n,())/\(n=0↔ ¬ (y∈c.replicas\/y∈c.witnesses))/\(n=3->y≠c.primary):=by
 obtain⟨v,v1,v2⟩:=HS c h;rw[hv]at v1;simp only[af,au,and_true]at v1;subst v1;have hp:=(Gq h hv).2.2.1;unfold Fm I0;simp only[hv,v2,ao,(EY c.replicas y h.1).1,(EY c.replicas y h.1).2,(EY c.witnesses y h.2).1,(EY c.witnesses y h.2).2,EE,Gw,C3,Dl];by_cases he:y=c.primary
 ·simp only[if_pos he];exact⟨1,rfl,rfl,⟨λh=>(by cases h),λh=>absurd (.inl (he ▸ hp)) h⟩,λh=>(by cases h)⟩
 ·simp only[if_neg he];by_cases h1:y∈c.replicas
  ·simp only[if_pos h1];exact⟨2,rfl,rfl,⟨λh=>(by cases h),λh=>absurd (.inl h1) h⟩,λh=>(by cases h)⟩
  ·simp only[if_neg h1];by_cases h2:y∈c.witnesses
   ·simp only[if_pos h2];exact⟨3,rfl,rfl,⟨λh=>(by cases h),λh=>absurd (.inr h2) h⟩,λ_=>he⟩
   ·simp only[if_neg h2];exact⟨0,rfl,rfl,⟨λ_ h=>h.elim h1 h2,λ_=>rfl⟩,λh=>(by cases h)⟩
theorem R9(l:List rp)(hl:l.length<=1048576)(hv:FE l=some (true,())):PZ l=some (((cutAt l:Nat):Int),l.drop (cutAt l),()):=by
 unfold PZ QD;have hc:cutAt l<=l.length:=by unfold cutAt;omega
 have c1: (0:Int)<=((cutAt l:Nat):Int)/\((cutAt l:Nat):Int)<=(l.length:Int)/\(l.length:Int)<=(l.length:Int):=by omega
 have ht: ((l.drop (cutAt l)).take (l.length-cutAt l))=l.drop (cutAt l):=bW (by simp);simp only[hv,ao,dg,Ce,TR l hl,Cy,if_pos c1,D4,ht,(Jd (l.drop (cutAt l)) (by simp;omega)).1]
theorem aa0{x:qh}(ok:EP 1048576 x){k:Nat}{t:qk}(ht:Fs 1048576 t):EP 1048576 (Gv x (x.servers.set k t)):=by
 refine⟨⟨by rw[D8];exact ok.1.1,λs hs=>?_⟩,ok.2⟩;rcases cY hs with h|rfl
 ·exact ok.1.2 s h
 ·exact ht
theorem adm{l:List rp}(hl:l.length<=1048576)(h:FE l=some (true,())):Jg l=some (true,()):=by
 rcases isLog l (EO hl)with⟨_,g2,_⟩| ⟨g1,_⟩
 ·exact g2
 ·rw[g1]at h;simp at h
theorem push(x:qh)(ok:EP 1048576 x)(id m:Int):∃S b,Ff x id m=some (Gv x S,b,())/\GG x id m=some (Gv x S,b,())/\EP 1048576 (Gv x S)/\S.length=x.servers.length/\(∀s,x.servers[id.toNat]?=some s->∃s',S[id.toNat]?=some s'/\s'.log=s.log):=by
 obtain⟨c1,c2⟩:=FO x ok;obtain⟨p,p1,p2,p3⟩:=Ke x ok id
 have out:∀ {A B:Option (qh×Bool×Unit)},A=some (x,false,())->B=some (x,false,())->∃S b,A=some (Gv x S,b,())/\B=some (Gv x S,b,())/\EP 1048576 (Gv x S)/\S.length=x.servers.length/\(∀s,x.servers[id.toNat]?=some s->∃s',S[id.toNat]?=some s'/\s'.log=s.log):=
  λh1 h2=>⟨x.servers,false,h1,h2,ok,rfl,λs hs=>⟨s,hs,rfl⟩⟩
 cases p with
 |false=>
  refine out ?_ ?_
  ·unfold Ff;simp only[c1,p1,ao,El,C3]
  ·unfold GG;simp only[c2,p2,ao,El,C3]
 |true=>
  obtain⟨hv,h0,h5,hP⟩:=p3 rfl;have vc:=EZ ok hv;obtain⟨s,s1,s2,s3⟩:=HI ok vc ⟨h0,h5⟩;obtain⟨cv,cp⟩:=Kf s2 (hP s s1);obtain⟨l,l1,l2,l3,l4,_,l6⟩:=Hy s.config (EK s2.1);obtain⟨n,n1,n2,n3,n4⟩:=SH s.config m (EK s2.1) cv;have hm:=(EY l m (by unfold maxLen;omega)).1;by_cases hml:m∈l
  ·have hn0: ¬n=0:=λh=>n3.1 h ((l6 cv m).1 hml);have rng:=l4 m hml;obtain⟨e1,e2⟩:=W5 x ok vc ⟨h0,h5⟩ rng;cases hh:P1 x id m with
   |false=>
    rw[hh]at e1 e2;refine out ?_ ?_
    ·unfold Ff;simp only[c1,p1,s1,l1,hm,e1,decide_eq_true hml,Cy,if_pos h0,ao,El,dg,C3,Ce]
    ·unfold GG;simp only[c2,p2,s1,n2,e2,Gw,if_neg hn0,Cy,if_pos h0,ao,El,dg,C3,Ce]
   |true=>
    rw[hh]at e1 e2;obtain⟨t,t1,t2,t3⟩:=HI ok vc rng;have hlt:m.toNat<x.servers.length:=by rw[vc.len];omega
    have cc:0<=m/\m<(x.servers.length:Int):=by rw[vc.len];omega
    have hl:=s2.2.1;have hL:=(H8 s2 s3).2.2.2.2.2.1;obtain⟨g1,g2⟩:=Nb s s2;obtain⟨k1,k2⟩:=Jd s.log hl;by_cases h3:n=3
    ·have hne:m.toNat≠id.toNat:=by
      have:=n4 h3;rw[<-cp]at this;omega
     refine⟨x.servers.set m.toNat ⟨t.up,t.intact,t.version,t.epoch,t.config,((cutAt s.log:Nat):Int),s.log.drop (cutAt s.log),t.commit,t.learned⟩,true,?_,?_,aa0 ok ⟨t2.1,by simp only[co];omega,t2.2.2⟩,by rw[D8],λs' hs'=>⟨s',by rw[Ed hne];exact hs',rfl⟩⟩
     ·unfold Ff;simp only[c1,p1,s1,l1,hm,e1,n1,t1,decide_eq_true hml,Cy,if_pos h0,if_pos cc,Gw,if_pos h3,R9 s.log hl hL,Ea hlt,List.set_set,ao,dg,Ce]
     ·unfold GG;simp only[c2,p2,s1,n2,e2,t1,g2,Gw,if_neg hn0,Cy,if_pos h0,if_pos cc,if_pos h3,YL s.log hl (adm hl hL),Ea hlt,List.set_set,ao,dg,Ce]
    ·refine⟨x.servers.set m.toNat ⟨t.up,t.intact,t.version,t.epoch,t.config,t.first,s.log,t.commit,t.learned⟩,true,?_,?_,aa0 ok ⟨t2.1,hl,t2.2.2⟩,by rw[D8],λs' hs'=>?_⟩
     ·unfold Ff;simp only[c1,p1,s1,l1,hm,e1,n1,t1,k1,decide_eq_true hml,Cy,if_pos h0,if_pos cc,Gw,if_neg h3,ao,dg,Ce]
     ·unfold GG;simp only[c2,p2,s1,n2,e2,t1,g2,Gw,if_neg hn0,Cy,if_pos h0,if_pos cc,if_neg h3,ao,dg,Ce]
     ·rw[s1]at hs';obtain rfl:=Option.some.inj hs';by_cases he:m.toNat=id.toNat
      ·refine⟨_,by rw[<-he];exact Ea hlt,?_⟩;rfl
      ·exact⟨s,by rw[Ed he];exact s1,rfl⟩
  ·have hn0:n=0:=n3.2 (λh=>hml ((l6 cv m).2 h));refine out ?_ ?_
   ·unfold Ff;simp only[c1,p1,s1,l1,hm,decide_eq_false hml,Cy,if_pos h0,ao,El,dg,C3,Ce]
   ·unfold GG;simp only[c2,p2,s1,n2,Gw,if_pos hn0,Cy,if_pos h0,ao,dg,Ce]
theorem QS(x:qh)(ok:EP 1048576 x)(id:Int):∃S b,Fr x id=some (Gv x S,b,())/\Ig x id=some (Gv x S,b,())/\EP 1048576 (Gv x S)/\S.length=x.servers.length:=by
 obtain⟨c1,c2⟩:=FO x ok;obtain⟨p,p1,p2,p3⟩:=Ke x ok id;cases p with
 |false=>
  refine⟨x.servers,false,?_,?_,ok,rfl⟩
  ·unfold Fr;simp only[c1,p1,ao,El,C3]
  ·unfold Ig;simp only[c2,p2,ao,El,C3]
 |true=>
  obtain⟨hv,h0,h5,_⟩:=p3 rfl;have vc:=EZ ok hv;obtain⟨s,s1,s2,s3⟩:=HI ok vc ⟨h0,h5⟩;obtain⟨l,l1,l2,l3,l4,_,_⟩:=Hy s.config (EK s2.1);have lm:l.length<=maxLen:=by unfold maxLen;omega
  obtain⟨⟨S,b⟩,⟨j1,j2,j3⟩,k1,k2⟩:=Mu (B1:=F6) (B2:=Hu) (β:=List qk×Bool) l.length
   (λk b=>((id,(),(),(),b.2,(k:Int),()),(z0,fy x,()),l,b.1,x.sides,x.master.configs,x.places,()))
   (λk b=>((id,(),(),(),(),b.2,(),(l.length:Int),(k:Int),()),(fx x,z0,fy x,()),l,b.1,x.sides,x.master.configs,x.places,()))
   (λ_ b=>EP 1048576 (Gv x b.1)/\b.1.length=5/\∃s',b.1[id.toNat]?=some s'/\s'.log=s.log)
   (λb=>((id,(),(),(),b.2,()),(z0,fy x,()),l,b.1,x.sides,x.master.configs,x.places,()))
   (λb=>((id,(),(),(),(),b.2,()),(fx x,z0,fy x,()),l,b.1,x.sides,x.master.configs,x.places,()))
   (λb _=>by simp only[F6,Hu,Dl];exact⟨if_neg (by omega),if_neg (by omega)⟩)
   (λk b hk hj=>by
     have c1: (k:Int)<(l.length:Int):=by omega
     have c2: (0:Int)<=(k:Int)/\(k:Int)<(l.length:Int):=by omega
     obtain⟨S,r,q1,q2,q3,q4,q5⟩:=push (Gv x b.1) hj.1 id l[k];obtain⟨s',s4,s5⟩:=hj.2.2;obtain⟨s'',s6,s7⟩:=q5 s' s4;refine⟨(S,bif b.2 then r else false),?_⟩;have q1':Ff (⟨x.now,b.1,x.sides,⟨x.master.configs,x.master.activated⟩,x.masterUp,⟨x.lease.epoch,x.lease.holder,x.lease.ends⟩,x.places⟩:qh) id l[k]=some (Gv x S,r,()):=q1;have q2':GG (⟨x.now,b.1,x.sides,⟨x.master.configs,x.master.activated⟩,x.masterUp,⟨x.lease.epoch,x.lease.holder,x.lease.ends⟩,x.places⟩:qh) id l[k]=some (Gv x S,r,()):=q2;simp only[F6,Hu,fx,fy,z0,Dl,Cy,if_pos c1,if_pos c2,D4,aq hk,ao,q1',q2',Cb lm hk];refine⟨?_,?_,q3,q4.trans hj.2.1,s'',s6,s7.trans s5⟩
     ·cases b.2<;>rfl
     ·cases b.2<;>rfl)
   (x.servers,true) ⟨ok,vc.len,s,s1,rfl⟩
  unfold Fr Ig;simp only[c1,c2,p1,p2,s1,l1,l2,Cy,if_pos h0,ao,dg,Ce];rw[show Oj ((id,(),(),(),true,0,()),(z0,fy x,()),l,x.servers,x.sides,x.master.configs,x.places,())=_ from k1,show Oi ((id,(),(),(),(),true,(),(l.length:Int),0,()),(fx x,z0,fy x,()),l,x.servers,x.sides,x.master.configs,x.places,())=_ from k2];simp only[ao];cases b with
  |false=>
   have e:KS ((id,(),(),(),false,0,()),(z0,fy x,()),l,S,x.sides,x.master.configs,x.places,())=some (((),(),false,()),(z0,fy x,()),S,x.sides,x.master.configs,x.places,()):=by refine lO ?_;simp only[Fq,Ce,Dl];split<;>rfl
   rw[e];exact⟨S,false,rfl,rfl,j1,j2.trans vc.len.symm⟩
  |true=>
   obtain⟨U,⟨u1,u2,_⟩,e1,e2⟩:=Mu (B1:=Fq) (B2:=He) (β:=List qk) l.length
    (λk b=>((id,(),(),(),true,(k:Int),()),(z0,fy x,()),l,b,x.sides,x.master.configs,x.places,()))
    (λk b=>((id,(),(),(),true,(),(l.length:Int),(k:Int),()),(fx x,z0,fy x,()),l,b,x.sides,x.master.configs,x.places,()))
    (λ_ b=>EP 1048576 (Gv x b)/\b.length=5/\∃s',b[id.toNat]?=some s'/\s'.log=s.log)
    (λb=>(((),(),true,()),(z0,fy x,()),b,x.sides,x.master.configs,x.places,()))
    (λb=>(((),(),true,()),(z0,fy x,()),b,x.sides,x.master.configs,x.places,()))
    (λb _=>by simp only[Fq,He,Dl];exact⟨if_neg (by omega),if_neg (by omega)⟩)
    (λk b hk hj=>by
      have c1: (k:Int)<(l.length:Int):=by omega
      have c2: (0:Int)<=(k:Int)/\(k:Int)<(l.length:Int):=by omega
      have hz:=l4 _ (D6 hk);have c3:0<=id/\id<(b.length:Int):=by rw[hj.2.1];omega
      have c4:0<=l[k]/\l[k]<(b.length:Int):=by rw[hj.2.1];omega
      obtain⟨s',s4,s5⟩:=hj.2.2;have hlt:l[k].toNat<b.length:=by rw[hj.2.1];omega
      have hs1:x.servers[id.toNat]?=some s:=s1;refine⟨b.set l[k].toNat ⟨b[l[k].toNat].up,b[l[k].toNat].intact,b[l[k].toNat].version,b[l[k].toNat].epoch,b[l[k].toNat].config,b[l[k].toNat].first,b[l[k].toNat].log,(s.log.length:Int),b[l[k].toNat].learned⟩,?_⟩;have okk:=hj.1.1.2 _ (D6 hlt);simp only[Fq,He,fx,Dl,C3,Cy,if_pos c1,if_pos c2,if_pos c3,if_pos c4,if_pos h0,D4,aq hk,ao,s4,s5,hs1,aq hlt,Cb lm hk];refine⟨trivial,trivial,aa0 (x:=Gv x b) hj.1 okk,by rw[D8];exact hj.2.1,?_⟩;by_cases he:l[k].toNat=id.toNat
      ·refine⟨_,by rw[<-he];exact Ea hlt,?_⟩;show b[l[k].toNat].log=s.log;rw[aq (show id.toNat<b.length by omega)]at s4;have:=Option.some.inj s4;rw[<-s5,<-this]
       congr 2
      ·exact⟨s',by rw[Ed he];exact s4,s5⟩)
    S ⟨j1,j2,j3⟩
   simp only[C3];rw[show KS ((id,(),(),(),true,0,()),(z0,fy x,()),l,S,x.sides,x.master.configs,x.places,())=_ from e1,show NQ ((id,(),(),(),true,(),(l.length:Int),0,()),(fx x,z0,fy x,()),l,S,x.sides,x.master.configs,x.places,())=_ from e2];exact⟨U,true,rfl,rfl,u1,u2.trans vc.len.symm⟩
end
section
def Tt{α:Type}(Q:α->Prop)(r:Option α):Prop:=∃a,r=some a/\Q a
section
variable {α β σ ε:Type} {Q:α->Prop} {Q':β->Prop}
theorem Tt.ret{a:α}(h:Q a):Tt Q (some a):=⟨a,rfl,h⟩
theorem Tt.bind{r:Option α}{k:α->Option β}(h:Tt Q r)(hk:∀a,Q a->Tt Q' (k a)):Tt Q' (r.bind k):=by obtain⟨a,rfl,h⟩:=h;exact hk a h
theorem Tt.mono{Q2:α->Prop}{r:Option α}(h:Tt Q r)(hq:∀a,Q a->Q2 a):Tt Q2 r:=h.imp λ_ h=>⟨h.1,hq _ h.2⟩
theorem Tt.ip{p:Prop}{d:Decidable p}{x y:Option α}(hp:p)(h:Tt Q x):Tt Q (@iteP _ p d x y):=by rw[CA hp];exact h
theorem Tt.br{b:Bool}{x y:Option α}(h1:b=true->Tt Q x)(h2:b=false->Tt Q y):Tt Q (br b x y):=by
 cases b with
 |true=>exact h1 rfl
 |false=>exact h2 rfl
theorem Tt.get{γ:Type}{l:List γ}{i:Nat}{k:γ->Option α}(hi:i<l.length)(h:∀x,l[i]?=some x->x∈l->Tt Q (k x)):Tt Q ((l[i]?).bind k):=by rw[aq hi];exact h _ (aq hi) (D6 hi)
theorem Tt.loop{B:σ->Option (σ⊕ε)}{E:ε->Prop}(I:σ->Prop)(μ:σ->Nat)(h:∀s,I s->Tt (Sum.elim (λs'=>I s'/\μ s'<μ s) E) (B s)){s:σ}(hs:I s):Tt E (ny B s):=
 C9 I μ E (λs hs=>by
  obtain⟨r,h1,h2⟩:=h s hs;cases r with
  |inl s'=>exact .inl ⟨s',h1,h2.1,h2.2⟩
  |inr e=>exact .inr ⟨e,h1,h2⟩) hs
theorem Tt.go{p:Prop}[Decidable p]{x y:Option α}(hp:p)(h:Tt Q x):Tt Q (Go.Proofs.YtkghndikalnipaaGreat.En.br (decide p) x y):=by rw[Dl,if_pos hp];exact h
theorem Tt.end{p:Prop}[Decidable p]{x y:Option α}(hp: ¬p)(h:Tt Q y):Tt Q (Go.Proofs.YtkghndikalnipaaGreat.En.br (decide p) x y):=by rw[Dl,if_neg hp];exact h
theorem Tt.count{B:σ->Option (σ⊕ε)}{E:ε->Prop}(n:Nat)(m:Nat->β->σ)(J:Nat->β->Prop)(h0:∀b,J n b->Tt (Sum.elim (λ_=>False) E) (B (m n b)))
  (h1:∀k b,k<n->J k b->Tt (Sum.elim (λs=>∃b',s=m (k+1) b'/\J (k+1) b') E) (B (m k b))) (b:β) (hb:J 0 b):Tt E (ny B (m 0 b)):=by
 have go:∀ (d k:Nat) (b:β),k+d=n->J k b->Tt E (ny B (m k b)):=by
  intro d
  induction d with
  |zero=>
   intro k b hk hb;obtain rfl:k=n:=hk;obtain⟨r,e1,e2⟩:=h0 b hb;cases r with
   |inl s=>exact e2.elim
   |inr e=>exact⟨e,by rw[jO,e1];rfl,e2⟩
  |succ d ih=>
   intro k b hk hb;obtain⟨r,e1,e2⟩:=h1 k b (by omega) hb;cases r with
   |inl s=>obtain⟨b',rfl,hb'⟩:=e2;rw[jO,e1];exact ih (k+1) b' (by omega) hb'
   |inr e=>exact⟨e,by rw[jO,e1];rfl,e2⟩
 exact go n 0 b (aP n) hb
end
abbrev T1{α:Type}(_:α):Prop:=True
theorem Jc{l:List Int}(ha:Oe l):∀y∈l,0<=y/\y<5:=by intro y hy;obtain⟨k,hk,rfl⟩:=aU hy;have:=(ha k hk).1;omega
theorem RX(c:nG)(h:Gu maxLen c):Tt (λy=>y.1.length<=10/\∀z∈y.1,0<=z/\z<5) (Fd c):=by obtain⟨v,v1,_⟩:=HS c h;unfold Fd;rw[v1,ao,EE];refine .br (λe=>?_) λ_=>.ret ⟨bO _,nofun⟩;subst e;obtain⟨a1,a2,_⟩:=Gq h v1;have l1:=a1.len;have l2:=a2.len;obtain⟨r,r1,_,r4,r5⟩:=YF c.replicas c.witnesses (by omega) (by omega);rw[r1];exact .ret ⟨by show r.length<=10;omega,λz hz=>((r4 z).1 hz).elim (Jc a1 z) (Jc a2 z)⟩
theorem ad2{x:qh}(ok:EP 1048576 x)(vc:VC x)(a b:Int):Tt T1 (F5 x.sides a b):=by have h5:=J3 (EO ok.2.1) vc.sides;unfold F5;simp only[vc.sides,FB,ao,C3];refine .br (λha=>.br (λhb=>?_) λ_=>.ret trivial) λ_=>.ret trivial;have ha:=EI.1 ha;have hb:=EI.1 hb;exact .ip ha.1 (.get (by omega) λ_ _ _=>.ip hb.1 (.get (by omega) λ_ _ _=>.ret trivial))
theorem Tt.srv{α:Type}{Q:α->Prop}{x:qh}(ok:EP 1048576 x)(vc:VC x){a:Int}(ha:0<=a/\a<5){k:qk->Option α}(h:∀s,x.servers[a.toNat]?=some s->Fs 1048576 s->EG s a=some (true,())->Tt Q (k s)):Tt Q (iteP (0<=a) ((x.servers[a.toNat]?).bind k) none):=by obtain⟨s,s1,s2,s3⟩:=HI ok vc ha;refine .ip ha.1 ?_;rw[s1];exact h s s1 s2 s3
theorem TU{l:List rp}(h:l.length<=maxLen):∃b,FE l=some (b,())/\(b=true->l.length<=16):=by
 rcases isLog l h with⟨h1,_,h2⟩| ⟨h1,_⟩
 ·exact⟨true,h1,λ_=>h2⟩
 ·exact⟨false,h1,nofun⟩
theorem TQ{l:List rp}(h:l.length<=1048576):Gt l=some (l,()):=(Jd l h).1
theorem ach(l:List rp)(c q:Int)(hl:l.length<=maxLen):Tt (λy=>y.1= -1\/0<=y.1/\y.1<(l.length:Int)) (OK l c q):=by
 unfold OK;refine .bind (.count (B:=LQ) (E:=Sum.elim (λy=>0<=y.1.1/\y.1.1<(l.length:Int)) λ_=>True) l.length (λk (_:Unit)=>((l,c,q,(k:Int),()),(),())) (λ_ _=>True) (λ_ _=>?_) (λk _ hk _=>?_) () trivial) λy hy=>?_
 ·unfold LQ;simp only[Dl];rw[if_neg (by omega)];exact .ret trivial
 ·unfold LQ;simp only[Dl];rw[if_pos (by omega)];refine .ip (by omega) (.get (by omega) λ_ _ _=>.br (λ_=>.ip (by omega) (.get (by omega) λ_ _ _=>.br (λ_=>.ret ?_) λ_=>.ret ⟨(),by rw[Cb hl hk],trivial⟩)) λ_=>.ret ⟨(),by rw[Cb hl hk],trivial⟩);exact⟨by show (0:Int)<=k;omega,by show (k:Int)<_;omega⟩
 ·cases y with
  |inl y=>exact .ret (.inr hy)
  |inr y=>exact .ret (.inl rfl)
end
end Go.Proofs.YtkghndikalnipaaGreat.En
