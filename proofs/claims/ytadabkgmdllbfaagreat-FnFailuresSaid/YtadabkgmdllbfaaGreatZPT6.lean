/- Plain laws. -/
import Derived.Test.YtadabkgmdllbfaaGreatZBX
namespace Go.Proofs.YtadabkgmdllbfaaGreat.En
open Go
def fF [dP] (c:fT):Prop:= ∃l,l6 c.b=some l/\l.length<=maxLen/\(∀m∈l,0<=m/\m<=255)/\0<=c.i/\c.i<=c.b.n
def Dn [dP] {α:Type} (Q:α->Prop) (r:Option (List fT×α)):Prop:= ∃c a,r=some ([c],a)/\fF c/\Q a
section
variable [dP] {α β:Type} {Q:α->Prop} {Q':β->Prop}
theorem Dn.ret {c:fT} {a:α} (hc:fF c) (h:Q a):Dn Q (some ([c],a)):=⟨c,a,rfl,hc,h⟩
theorem Dn.bind {r:Option (List fT×α)} {k:List fT×α->Option (List fT×β)} (h:Dn Q r) (hk: ∀c a,fF c->Q a->Dn Q' (k ([c],a))):Dn Q' (r.bind k):=by obtain⟨c,a,rfl,h1,h2⟩:=h;exact hk c a h1 h2
theorem Dn.mono {Q2:α->Prop} {r:Option (List fT×α)} (h:Dn Q r) (hq: ∀a,Q a->Q2 a):Dn Q2 r:=by obtain⟨c,a,h1,h2,h3⟩:=h;exact⟨c,a,h1,h2,hq a h3⟩
theorem Dn.iteP {p:Prop} [Decidable p] {x y:Option (List fT×α)} (hp:p) (h:Dn Q x):Dn Q (iteP p x y):=by rw[hQ hp];exact h
theorem Dn.br {b:Bool} {x y:Option (List fT×α)} (h1:b=true->Dn Q x) (h2:b=false->Dn Q y):Dn Q (br b x y):=by
 cases b with
 |true=>exact h1 rfl
 |false=>exact h2 rfl
theorem Dn.get {γ:Type} {l:List γ} {i:Nat} {k:γ->Option (List fT×α)} (hi:i<l.length) (h: ∀x∈l,Dn Q (k x)):Dn Q ((l[i]?).bind k):=by rw[ah hi];exact h _ (bw hi)
end
theorem Hk (x:Int):0<=bits .and .i64 x 255/\bits .and .i64 x 255<=255:=by
 have h: (BitVec.ofInt 64 x&&& BitVec.ofInt 64 255).toNat<=255:=by rw[BitVec.toNat_and];exact Nat.and_le_right
 show 0<=IntKind.wrap .i64 _/\IntKind.wrap .i64 _<=255;have e:IntKind.wrap .i64 ((BitVec.ofInt 64 x&&& BitVec.ofInt 64 255).toNat:Int)=((BitVec.ofInt 64 x&&& BitVec.ofInt 64 255).toNat:Int):=eX (by omega) (by omega);have e2:bits .and .i64 x 255=IntKind.wrap .i64 ((BitVec.ofInt 64 x&&& BitVec.ofInt 64 255).toNat:Int):=rfl;rw[<-e2] at e;constructor
 ·show 0<=bits .and .i64 x 255;omega
 ·show bits .and .i64 x 255<=255;omega
theorem J2 {x n:Int} (hx:0<=x) (hn:0<n):0<=x.tmod n/\x.tmod n<n:=⟨Int.tmod_nonneg _ hx,Int.tmod_lt_of_pos _ hn⟩
section
variable [dP]
theorem QT {x:Hd} {l:List Int} (h:l6 x=some l) (hl:l.length<=maxLen) (hb: ∀m∈l,0<=m/\m<=255):Dn (fun _:Unit=>True) (EL x):=by unfold EL EK;rw[h];exact⟨_,(),rfl,⟨l,h,hl,hb,bP _,aw _⟩,trivial⟩
theorem xS {c:fT} (h:fF c):Dn (fun y:Int×Unit=>0<=y.1/\y.1<=255) (sb [c]):=by
 obtain⟨l,h1,h2,h3,h4,h5⟩:=h;show Dn _ ((vn c).map fun y=>([y.1],y.2,()));unfold vn;have hlen:=(wz h1).1;by_cases hi:c.i< (c.b.n:Int)
 ·rw[if_pos hi,if_pos h4,h1,ae,ah (by omega)];refine⟨_,_,rfl,⟨l,h1,h2,h3,?_,?_⟩,Hk _⟩
  ·show 0<=RowKit.wrap64 (c.i+1);unfold RowKit.wrap64;simp only[maxLen] at h2;omega
  ·show RowKit.wrap64 (c.i+1)<=c.b.n;unfold RowKit.wrap64;simp only[maxLen] at h2;omega
 ·rw[if_neg hi];exact⟨_,_,rfl,⟨l,h1,h2,h3,h4,h5⟩,Hk _⟩
theorem fV {c:fT} (h:fF c) (n:Int):Dn (fun y:Int×Unit=>0<=y.1/\(y.1<n\/n<=0/\y.1=0)) (eb [c] n):=by
 unfold eb;refine .br (fun hn=> .ret h ⟨bP _, .inr ⟨of_decide_eq_true hn,rfl⟩⟩) fun hn=> ?_;have hn:=of_decide_eq_false hn;refine .br (fun _=> .bind (xS h) fun c1 y h1 hy=> .iteP rfl ?_) fun _=> .bind (xS h) fun c1 y h1 hy=> .iteP rfl (.bind (xS h1) fun c2 y2 h2 hy2=> .iteP rfl (.bind (xS h2) fun c3 y3 h3 hy3=> .iteP rfl (.bind (xS h3) fun c4 y4 h4 hy4=> .iteP rfl ?_)))
 ·rw[GR (by omega)];have:=J2 hy.1 (show 0<n by omega);exact .ret h1 ⟨this.1, .inl this.2⟩
 ·rw[GR (by omega)];simp only;rw[eX (n:=y.1*16777216) (by omega) (by omega),eX (n:=y2.1*65536) (by omega) (by omega),eX (n:=y3.1*256) (by omega) (by omega),eX (n:=y.1*16777216+y2.1*65536) (by omega) (by omega),eX (n:=y.1*16777216+y2.1*65536+y3.1*256) (by omega) (by omega),eX (n:=y.1*16777216+y2.1*65536+y3.1*256+y4.1) (by omega) (by omega)];have:=J2 (show 0<=y.1*16777216+y2.1*65536+y3.1*256+y4.1 by omega) (show 0<n by omega);exact .ret h4 ⟨this.1, .inl this.2⟩
theorem mH {c:fT} (h:fF c) {n:Int} (hn:0<n):Dn (fun y:Int×Unit=>0<=y.1/\y.1<n) (eb [c] n):=(fV h n).mono fun y hy=>⟨hy.1,by omega⟩
theorem kt {c:fT} (h:fF c) (n:Int):Dn (fun _:Bool×Unit=>True) (gl [c] n):=by unfold gl;exact .bind (fV h n) fun c1 y h1 hy=> .iteP rfl (.ret h1 trivial)
theorem ir {c:fT} (h:fF c) {l:List Int} (hl:l≠ []):Dn (fun y:Int×Unit=>y.1∈l) (ev [c] l):=by unfold ev;have h0:0<l.length:=List.length_pos_iff.2 hl;refine .bind (mH h (show 0< (l.length:Int) by omega)) fun c1 y h1 hy=> .iteP rfl (.iteP hy.1 (.get (by show y.1.toNat<l.length; have:=hy.1; have:=hy.2; omega) fun x hx=> .ret h1 hx))
theorem Hl {c:fT} (h:fF c):Dn (fun _:Op×Unit=>True) (rJ [c]):=by
 unfold rJ
 repeat first |exact .ret (by assumption) trivial|refine .iteP rfl ?_|refine .br (fun _=> ?_) fun _=> ?_|refine .bind (fV (by assumption) _) fun _ _ _ _=> ?_|refine .bind (kt (by assumption) _) fun _ _ _ _=> ?_|refine .bind (ir (by assumption) (by simp)) fun _ _ _ _=> ?_
theorem Nd {c:fT} (h:fF c):Dn (fun _:eZ×Unit=>True) (uL [c]):=by
 unfold uL;dsimp only
 repeat first |exact .ret (by assumption) trivial|refine .iteP rfl ?_|refine .br (fun _=> ?_) fun _=> ?_|refine .bind (fV (by assumption) _) fun _ _ _ _=> ?_|refine .bind (kt (by assumption) _) fun _ _ _ _=> ?_|refine .bind (ir (by assumption) (by simp)) fun _ _ _ _=> ?_
theorem Nf {c:fT} (h:fF c):Dn (fun _:fm×Unit=>True) (qC [c]):=by
 unfold qC;dsimp only
 repeat first |exact .ret (by assumption) trivial|refine .iteP rfl ?_|refine .br (fun _=> ?_) fun _=> ?_|refine .bind (fV (by assumption) _) fun _ _ _ _=> ?_|refine .bind (kt (by assumption) _) fun _ _ _ _=> ?_|refine .bind (ir (by assumption) (by simp)) fun _ _ _ _=> ?_|refine .bind (Hl (by assumption)) fun _ _ _ _=> ?_
def Ro {σ ε:Type} (I:σ->Prop) (E:ε->Prop) (r:Option (σ⊕ε)):Prop:=(∃s,r=some (.inl s)/\I s)\/ ∃e,r=some (.inr e)/\E e
section
variable {σ ε α:Type} {I:σ->Prop} {E:ε->Prop} {Q:α->Prop}
omit [dP] in
theorem Ro.again {s:σ} (h:I s):Ro I E (some (.inl s)):= .inl ⟨s,rfl,h⟩
omit [dP] in
theorem Ro.done {e:ε} (h:E e):Ro I E (some (.inr e)):= .inr ⟨e,rfl,h⟩
omit [dP] in
theorem Ro.iteP {p:Prop} [Decidable p] {x y:Option (σ⊕ε)} (hp:p) (h:Ro I E x):Ro I E (iteP p x y):=by rw[hQ hp];exact h
omit [dP] in
theorem Ro.br {b:Bool} {x y:Option (σ⊕ε)} (h1:b=true->Ro I E x) (h2:b=false->Ro I E y):Ro I E (br b x y):=by
 cases b with
 |true=>exact h1 rfl
 |false=>exact h2 rfl
theorem Ro.draw {r:Option (List fT×α)} {k:List fT×α->Option (σ⊕ε)} (h:Dn Q r) (hk: ∀c a,fF c->Q a->Ro I E (k ([c],a))):Ro I E (r.bind k):=by obtain⟨c,a,rfl,h1,h2⟩:=h;exact hk c a h1 h2
omit [dP] in
theorem Fl {B:σ->Option (σ⊕ε)} (μ:σ->Nat) (h: ∀s,I s->Ro (fun s'=>I s'/\μ s'<μ s) E (B s)) {s:σ} (hs:I s): ∃e,gV B s=some e/\E e:=
 xm I μ E (fun s hs=>(h s hs).imp (fun ⟨s',a,b,c⟩=>⟨s',a,b,c⟩) id) hs
end
theorem Hm {c:fT} (h:fF c) {n:Int} (h0:0<=n) {evs:List fm} {M:Nat} (hM:evs.length+n.toNat<=M) (hM2:M<=1000):Dn (fun y:List fm×Unit=>y.1.length<=M) ((oO (((),(),n,()),(()),[c],evs,())).bind fun e=>some e.2.2):=by
 unfold oO
 obtain⟨⟨_,_,l,ps,_⟩,h1,c2,rfl,h2,h3⟩:=Fl (B:=mc) (I:=fun s=> ∃c,s.2.2.1= [c] /\fF c/\0<=s.1.2.2.1/\s.2.2.2.1.length+s.1.2.2.1.toNat<=M) (E:=fun e=> ∃c,e.2.2.1= [c] /\fF c/\e.2.2.2.1.length<=M) (fun s=>s.1.2.2.1.toNat) (by
  rintro⟨⟨_,_,k,_⟩,_,l,ps,_⟩ ⟨c,rfl,hc,h0,h1⟩
  simp only at h0 h1;unfold mc;refine .br (fun hk=> ?_) fun hk=> .done ⟨c,rfl,hc,by show ps.length<=M; omega⟩;have hk:k>0:=of_decide_eq_true hk;have e:IntKind.wrap .i64 (k-1)=k-1:=eX (by omega) (by omega)
  have gi: ∀ (c:fT) (x:fm),fF c->Ro (fun s': (Unit×Unit×Int×Unit)×Unit×List fT×List fm×Unit=>(∃c,s'.2.2.1= [c] /\fF c/\0<=s'.1.2.2.1/\s'.2.2.2.1.length+s'.1.2.2.1.toNat<=M)/\s'.1.2.2.1.toNat<k.toNat) (fun e: (Unit×Unit)×Unit×List fT×List fm×Unit=> ∃c,e.2.2.1= [c] /\fF c/\e.2.2.2.1.length<=M) (iteP ((ps++ [x]).length*80<=2 ^ 40) (some (.inl (((),(),IntKind.wrap .i64 (k-1),()),(()),[c],ps++ [x],()))) none):=fun c x hc=>by refine .iteP (by simp only[aA,az]; omega) (.again ?_);simp only[e];exact⟨⟨c,rfl,hc,by omega,by simp only[aA,az]; omega⟩,by omega⟩
  refine .draw (Nf hc) fun c1 _ h1 _=> .iteP rfl (.br (fun _=> .draw (kt h1 _) fun c2 _ h2 _=> .iteP rfl (.br (fun _=> .draw (ir h2 (by simp)) fun c3 _ h3 _=> .iteP rfl (gi _ _ h3)) fun _=>gi _ _ h2)) fun _=>gi _ _ h1)) (s:=(((),(),n,()),(()),[c],evs,())) ⟨c,rfl,h,h0,hM⟩
 rw[h1];exact⟨c2,_,rfl,h2,h3⟩
theorem Lb {c:fT} (h:fF c) {n:Int} (h0:0<=n) (hn:n<=100):Dn (fun y:List fm×Unit=>y.1.length<=200) (pb [c] n):=by
 unfold pb;rw[eX (n:=n+1) (by omega) (by omega)];refine .bind (fV h _) fun c1 _ h1 _=> .iteP rfl (.bind (fV h1 _) fun c2 _ h2 _=> .iteP rfl (.bind (kt h2 _) fun c3 _ h3 _=> .iteP rfl (.br (fun _=> ?_) fun _=> ?_)))
 ·exact .bind (mH h3 (by omega)) fun c4 y h4 hy=> .iteP rfl (Hm h4 hy.1 (by have:=hy.2; simp only[bz,b9]; omega) (by omega))
 ·exact .bind (mH h3 (by omega)) fun c4 y h4 hy=> .iteP rfl (Hm h4 hy.1 (by have:=hy.2; simp only[bz,b9]; omega) (by omega))
theorem Ng {c:fT} (h:fF c):Dn (fun y:List Int×Unit=>y.1.length=5) (qW [c]):=by
 unfold qW xI
 obtain⟨⟨_,_,l,ps,_⟩,h1,c2,rfl,h2,h3⟩:=Fl (B:=nZ) (I:=fun s=> ∃c,s.2.2.1= [c] /\fF c/\0<=s.1.2.2.1/\s.1.2.2.1<=5/\(s.2.2.2.1.length:Int)=s.1.2.2.1) (E:=fun e=> ∃c,e.2.2.1= [c] /\fF c/\e.2.2.2.1.length=5) (fun s=>(5-s.1.2.2.1).toNat) (by
  rintro⟨⟨_,_,k,_⟩,_,l,ps,_⟩ ⟨c,rfl,hc,h0,h1,h2⟩
  simp only at h0 h1 h2;unfold nZ;refine .br (fun hk=> ?_) fun hk=> .done ⟨c,rfl,hc,by have : ¬k<5:=of_decide_eq_false hk; show ps.length=5; omega⟩;have hk:k<5:=of_decide_eq_true hk;refine .draw (ir hc (by simp)) fun c1 _ h1 _=> .iteP rfl (.iteP (by simp only[aA,az]; omega) (.again ?_));simp only;rw[eX (n:=k+1) (by omega) (by omega)];exact⟨⟨c1,rfl,h1,by omega,by omega,by simp only[aA,az]; omega⟩,by omega⟩) (s:=(((),(),0,()),(()),[c],([]:List Int),())) ⟨c,rfl,h,bP _,by simp,by simp⟩
 rw[h1];exact⟨c2,_,rfl,h2,h3⟩
theorem Nh {c:fT} (h:fF c):Dn (fun y:List dY×Unit=>y.1.length<=6) (vt [c]):=by
 unfold vt;refine .bind (mH h (by decide)) fun c0 y0 hc0 hy0=> .iteP rfl ?_;unfold DP
 obtain⟨⟨_,_,l,ps,_⟩,h1,c2,rfl,h2,h3⟩:=Fl (B:=sJ) (I:=fun s=> ∃c,s.2.2.1= [c] /\fF c/\0<=s.1.2.2.2.1/\s.2.2.2.1.length+s.1.2.2.2.1.toNat<=6) (E:=fun e=> ∃c,e.2.2.1= [c] /\fF c/\e.2.2.2.1.length<=6) (fun s=>s.1.2.2.2.1.toNat) (by
  rintro⟨⟨_,_,g,k,_⟩,_,l,ps,_⟩ ⟨c,rfl,hc,h0,h1⟩
  simp only at h0 h1;unfold sJ;refine .br (fun hk=> ?_) fun hk=> .done ⟨c,rfl,hc,by show ps.length<=6; omega⟩;have hk:k>0:=of_decide_eq_true hk;have e:IntKind.wrap .i64 (k-1)=k-1:=eX (by omega) (by omega);refine .draw (kt hc _) fun c1 _ h1 _=> .iteP rfl (.br (fun _=> .draw (Hl h1) fun c2 _ h2 _=> .iteP rfl (.iteP (by simp only[aA,az]; omega) (.again ?_))) fun _=> .draw (Hl h1) fun c2 _ h2 _=> .iteP rfl (.iteP (by simp only[aA,az]; omega) (.again ?_)))
  all_goals
   simp only[e];exact⟨⟨c2,rfl,h2,by omega,by simp only[aA,az]; omega⟩,by omega⟩) (s:=(((),(),1,y0.1,()),(()),[c0],([]:List dY),())) ⟨c0,rfl,hc0,hy0.1,by have:=hy0.2; simp; omega⟩
 rw[h1];exact⟨c2,_,rfl,h2,h3⟩
theorem Ni {c:fT} (h:fF c):Dn (fun _:Op×Unit=>True) (xK [c]):=by
 unfold xK;refine .bind (Hl h) fun _ _ _ _=> ?_
 repeat first |exact .ret (by assumption) trivial|refine .iteP rfl ?_|refine .br (fun _=> ?_) fun _=> ?_|refine .bind (fV (by assumption) _) fun _ _ _ _=> ?_|refine .bind (kt (by assumption) _) fun _ _ _ _=> ?_|refine .bind (ir (by assumption) (by simp)) fun _ _ _ _=> ?_
theorem Lc {c:fT} (h:fF c):Dn (fun y:List dY×Unit=>y.1.length<=17) (xL [c]):=by
 unfold xL;refine .bind (Nh h) fun c1 y h1 hy=> .iteP rfl (.bind (fV h1 _) fun c2 _ h2 _=> .iteP rfl (.br (fun _=> ?_) fun _=> .br (fun _=> ?_) fun _=> .ret h2 (by show y.1.length<=17; omega)))
 ·refine .bind (ir h2 (by simp)) fun c3 _ h3 _=> .iteP rfl (.bind (Ni h3) fun c4 z h4 _=> .iteP rfl ?_);have e: ∀x:dY,(y.1++ [x]).length<=17:=fun x=>by simp only[aA,az]; omega
  exact .iteP (aO (bo _ (e _)) (by decide)) (.ret h4 (e _))
 ·unfold DR
  obtain⟨⟨_,_,l,ps,_⟩,h1,c2,rfl,h2,h3⟩:=Fl (B:=qj) (I:=fun s=> ∃c,s.2.2.1= [c] /\fF c/\s.2.2.2.1.length<=17) (E:=fun e=> ∃c,e.2.2.1= [c] /\fF c/\e.2.2.2.1.length<=17) (fun s=>17-s.2.2.2.1.length) (by
   rintro⟨⟨_,_,_⟩,_,l,ps,_⟩ ⟨c,rfl,hc,h0⟩
   simp only at h0;unfold qj;refine .br (fun hk=> ?_) fun hk=> .done ⟨c,rfl,hc,h0⟩;have hk: (ps.length:Int)<17:=of_decide_eq_true hk;refine .draw (Hl hc) fun c1 _ h1 _=> .iteP rfl (.iteP (by simp only[aA,az]; omega) (.again ?_));exact⟨⟨c1,rfl,h1,by simp only[aA,az]; omega⟩,by simp only[aA,az]; omega⟩) (s:=(((),(),()),(()),[c2],y.1,())) ⟨c2,rfl,h2,by show y.1.length<=17; omega⟩
  show Dn _ ((gV qj (((),(),()),(()),[_],y.1,())).bind _);rw[h1];exact⟨c2,_,rfl,h2,h3⟩
end
end Go.Proofs.YtadabkgmdllbfaaGreat.En
namespace Go.Proofs.YtadabkgmdllbfaaGreat.En
open Go
def iJ (M:Nat) (c:dR):Prop:=c.replicas.length<=M/\c.witnesses.length<=M
def gf (M:Nat) (s:dQ):Prop:=iJ M s.config/\s.log.length<=M/\s.learned.length<=M
def rh (M:Nat) (m:dW):Prop:=m.configs.length<=M/\ ∀c∈m.configs,iJ M c
def fk (M:Nat) (c:dN):Prop:=(c.servers.length<=M/\ ∀s∈c.servers,gf M s)/\c.sides.length<=M/\rh M c.master/\c.places.length<=M
theorem eD {n:Nat} (h:n<=1048576):n<=maxLen:=by unfold maxLen; omega
end Go.Proofs.YtadabkgmdllbfaaGreat.En
namespace Go.Proofs.YtadabkgmdllbfaaGreat.En
open Go
theorem wQ {ρ:Type} (a b:Int) (x y:ρ):br (a==b) x y=if a=b then x else y:=by rw[QI];by_cases h:a=b<;>simp[h]
theorem dS {ρ:Type} (b:Bool) (x y:ρ):br (!b) x y=br b y x:=by cases b<;>rfl
def kK (x a b:Int):Bool:=decide (a<=x)&&decide (x<=b)
theorem gr (x a b:Int):ek x a b=some (kK x a b,()):=by unfold ek kK;rw[ed];split<;>rename_i h<;>simp[h]
theorem qc (x a b:Int):eA x a b=some (kK x a b,()):=by unfold eA kK;rw[ed];split<;>rename_i h<;>simp[h]
theorem eG {x a b:Int}:kK x a b=true↔a<=x/\x<=b:=by simp[kK]
def rz (l:List Int):Prop:= ∀k (h:k<l.length),(0<=l[k] /\l[k] <=4)/\ ∀_:0<k,l[k-1]'(by omega)<l[k]
theorem tD (l:List Int) (hl:l.length<=maxLen): (fZ l=some (true,())/\iC l=some (true,())/\rz l)\/(fZ l=some (false,())/\iC l=some (false,())):=by
 have gi:=nC (B1:=gG) (B2:=gO) l.length (fun k=>((l,(k:Int),()),(),())) (fun k=>((l,l,(l.length:Int),(k:Int),()),(),())) (.inr (((),()),(),())) (.inr (((),()),(),())) (fun _=> .inl ((false,()),(),())) (fun _=> .inl ((false,()),(),()))
  (fun k=> ∀h:k<l.length,(0<=l[k] /\l[k] <=4)/\ ∀_:0<k,l[k-1]'(by omega)<l[k]) (fun _=>True)
  (by simp only[gG]; rw[ed,if_neg (by omega)])
  (by simp only[gO]; rw[ed,if_neg (by omega)])
  (fun k hk=>by
    have c1: (k:Int)< (l.length:Int):=by omega
    have c2: (0:Int)<=(k:Int):=by omega
    have e1:l[k]? =some l[k] :=ah hk;simp only[gG,gO,ed,eh,if_pos c1,if_pos c2,aB,e1,ae,gr,qc];cases hw:kK l[k] 0 4 with
    |false=>exact .inr ⟨rfl,rfl,trivial⟩
    |true=>
     simp only[cg,fC];have hw:=eG.1 hw;by_cases h0:0<k
     ·have c3: (k:Int)>0:=by omega
      have c4: (0:Int)<=((k-1:Nat):Int):=by omega
      have e2:l[k-1]? =some l[k-1] :=ah (by omega);simp only[if_pos c3,ov h0 (by omega),if_pos c4,aB,e2,ae];by_cases hlt:l[k-1]<l[k]
      ·rw[if_neg (by omega),if_neg (by omega),dV hl hk];exact .inl ⟨rfl,rfl,fun _=>⟨hw,fun _=>hlt⟩⟩
      ·rw[if_pos (by omega),if_pos (by omega)];exact .inr ⟨rfl,rfl,trivial⟩
     ·rw[if_neg (by omega),if_neg (by omega),dV hl hk];exact .inl ⟨rfl,rfl,fun _=>⟨hw,fun h=>absurd h h0⟩⟩)
 unfold fZ iC;rcases gi with ⟨k1,k2,k3⟩| ⟨k,_,k1,k2,_⟩
 ·rw[show nF ((l,0,()),(),())=_ from k1,show oa ((l,l,(l.length:Int),0,()),(),())=_ from k2];exact .inl ⟨rfl,rfl,fun k hk=>k3 k hk hk⟩
 ·rw[show nF ((l,0,()),(),())=_ from k1,show oa ((l,l,(l.length:Int),0,()),(),())=_ from k2];exact .inr ⟨rfl,rfl⟩
theorem rz.lt {l:List Int} (h:rz l): ∀ (d i:Nat) (h2:i+d+1<l.length),l[i]'(by omega)<l[i+d+1] :=by
 intro d
 induction d with
 |zero=>intro i h2;exact (h (i+1) h2).2 (by omega)
 |succ d ih=>intro i h2;have h1:=ih i (by omega);have h3:=(h (i+d+1+1) h2).2 (by omega);exact Int.lt_trans h1 h3
theorem rz.pair {l:List Int} (h:rz l):l.Pairwise (· < ·):=by rw[bW];intro i j hi hj hij;have:=h.lt (j-i-1) i (by omega);simpa [show i+(j-i-1)+1=j by omega] using this
theorem rz.len {l:List Int} (h:rz l):l.length<=5:=by
 have ge: ∀k (hk:k<l.length),(k:Int)<=l[k] :=by
  intro k
  induction k with
  |zero=>intro hk; exact (h 0 hk).1.1
  |succ k ih=>intro hk;have h1:=ih (by omega);have h2:=(h (k+1) hk).2 (by omega);simp only[bS] at h2;omega
 rcases cM 5 l.length with hlt|hge
 ·have h1:=ge 5 hlt;have h2:=(h 5 hlt).1.2;omega
 ·exact hge
theorem gb (l:List Int) (x:Int) (hl:l.length<=maxLen):fb l x=some (decide (x∈l),())/\kb l x=some (decide (x∈l),()):=by
 have gi:=nC (B1:=kN) (B2:=jW) l.length (fun k=>((l,x,(k:Int),()),(),())) (fun k=>((l,x,(l.length:Int),(k:Int),()),(),())) (.inr (((),()),(),())) (.inr (((),()),(),())) (fun _=> .inl ((true,()),(),())) (fun k=> .inl (((k:Int),()),(),()))
  (fun k=>l[k]? ≠some x) (fun k=>l[k]? =some x)
  (by simp only[kN]; rw[ed,if_neg (by omega)])
  (by simp only[jW]; rw[ed,if_neg (by omega)])
  (fun k hk=>by
    have c1: (k:Int)< (l.length:Int):=by omega
    have c2: (0:Int)<=(k:Int):=by omega
    have e1:l[k]? =some l[k] :=ah hk;simp only[kN,jW,ed,eh,if_pos c1,if_pos c2,aB,e1,ae,dV hl hk,wQ];by_cases he:l[k] =x
    ·rw[if_pos he,if_pos he.symm,he];exact .inr ⟨rfl,rfl,rfl⟩
    ·rw[if_neg he,if_neg (fun h=>he h.symm)];exact .inl ⟨rfl,rfl,fun h=>he (Option.some.inj h)⟩)
 unfold fb kb mG p9;rcases gi with ⟨k1,k2,k3⟩| ⟨k,hk,k1,k2,k3⟩
 ·rw[show rK ((l,x,0,()),(),())=_ from k1,show qX ((l,x,(l.length:Int),0,()),(),())=_ from k2]
  have hn:x∉l:=fun h=>by obtain⟨k,hk,he⟩:=aP h;exact k3 k hk (by rw[ah hk,he])
  rw[decide_eq_false hn];exact⟨rfl,rfl⟩
 ·rw[show rK ((l,x,0,()),(),())=_ from k1,show qX ((l,x,(l.length:Int),0,()),(),())=_ from k2];rw[decide_eq_true (au k3)];refine⟨rfl,?_⟩;simp only[ae,cU];rw[decide_eq_true (by omega)]
end Go.Proofs.YtadabkgmdllbfaaGreat.En
namespace Go.Proofs.YtadabkgmdllbfaaGreat.En
open Go
theorem lY {n:Nat} (h:n<=1048576):n*8<=2 ^ 40:=by
 have : (2:Nat) ^ 40=1099511627776:=by decide
 omega
theorem Fm (l:List Int) (x:Int) (hl:l.length<=1000) (h: ∀y∈l,y<x):jK l x=some (l++ [x],()):=by
 have hm:l.length<=maxLen:=by unfold maxLen; omega
 have gi:=ma (B:=lO) l (fun k (_:Unit)=>((l,x,(k:Int),()),(),())) (fun _ _=>True) (fun k r _=>((l,x,((k+r.length:Nat):Int),()),(),()))
  (fun b hb=>by simp only[lO];rw[ed,if_neg (by omega)];rfl)
  (fun k b y hy hb=>by
    have hk:=jM hy;have c1: (k:Int)< (l.length:Int):=by omega
    have c2: (0:Int)<=(k:Int):=by omega
    refine .inl ⟨(),?_,trivial,?_⟩
    ·simp only[lO,ed,eh,if_pos c1,if_pos c2,aB,hy,ae,if_pos (h y (au hy)),dV hm hk]
    ·rw[bz,show k+((l.drop (k+1)).length+1)=k+1+(l.drop (k+1)).length by omega])
  0 () (ay _) trivial
 unfold jK;rw[show yI ((l,x,0,()),(),())=_ from gi];simp only[ae,bK,aR];have c0: ¬ ((l.length:Int)< (l.length:Int)):=by omega
 have d1: (0:Int)<=0/\(0:Int)<=(l.length:Int)/\(l.length:Int)<=(l.length:Int):=by omega
 have d2: (0:Int)<=(l.length:Int)/\(l.length:Int)<=(l.length:Int)/\(l.length:Int)<=(l.length:Int):=by omega
 simp only[ed,if_neg c0,eh,if_pos d1,if_pos d2,aB,Int.toNat_zero,bK,cT,cR,cQ,b7,bU,aY];rw[if_pos (lY (by omega)),if_pos (lY (by simp; omega))];exact if_pos (lY (by simp; omega))
theorem xT (a b:List Int) (ha:rz a) (hb:b.length<=maxLen):it a b=some (a.filter fun x=>decide (x∈b),()):=by
 have hl:=ha.len;have hm:a.length<=maxLen:=by unfold maxLen; omega
 have hp:=ha.pair
 have gi:=ma (B:=im) a (fun k (out:List Int)=>((a,b,(),(k:Int),()),(),(out,()))) (fun k out=>out=(a.take k).filter fun x=>decide (x∈b)) (fun k r out=>(((),()),(),(out++r.filter fun x=>decide (x∈b),())))
  (fun out hb=>by simp only[im];rw[ed,if_neg (by omega)];simp)
  (fun k out x hx hout=>by
    have hk:=jM hx;have c1: (k:Int)< (a.length:Int):=by omega
    have c2: (0:Int)<=(k:Int):=by omega
    have hxe:a[k] =x:=by rw[ah hk] at hx; exact Option.some.inj hx
    simp only[im,ed,eh,if_pos c1,if_pos c2,aB,hx,ae,(gb b x hb).1,dV hm hk];by_cases hin:x∈b
    ·have hlt: ∀y∈out,y<x:=by
      intro y hy;rw[hout,cF] at hy;obtain⟨i,hi,he⟩:=aP hy.1;have hi':i<k:=by simp at hi; omega
      rw[dk] at he;rw[<-he,<-hxe];exact bW.1 hp i k (by omega) hk hi'
     have hol:out.length<=1000:=by rw[hout];have:=cX (fun x=>decide (x∈b)) (a.take k);simp at this;omega
     simp only[if_pos hin,Fm out x hol hlt,ae];refine .inl ⟨out++ [x],rfl,?_,?_⟩
     ·rw[hout,bM,hx,ca];simp[hin]
     ·simp[hin]
    ·simp only[if_neg hin];refine .inl ⟨out,rfl,?_,?_⟩
     ·rw[hout,bM,hx,ca];simp[hin]
     ·simp[hin])
  0 [] (ay _) rfl
 unfold it;rw[show rv ((a,b,(),0,()),(),([],()))=_ from gi];rfl
theorem IX {n:Nat} (hn:n<=5): ∃m,xN (IntKind.wrap .u64 (n:Int))=some (m,()):=by
 have :n=0\/n=1\/n=2\/n=3\/n=4\/n=5:=by omega
 rcases this with rfl|rfl|rfl|rfl|rfl|rfl
 ·exact⟨0,by kernel_rfl⟩
 ·exact⟨1,by kernel_rfl⟩
 ·exact⟨2,by kernel_rfl⟩
 ·exact⟨2,by kernel_rfl⟩
 ·exact⟨3,by kernel_rfl⟩
 ·exact⟨3,by kernel_rfl⟩
theorem Ld (l:List Int) (ha:rz l):fq l 0 (l.length:Int)=some (l,()):=by
 have hl:=ha.len;have hm:l.length<=maxLen:=by unfold maxLen; omega
 have inner: ∀k (hk:k<l.length),0<k->jx (((),0,(l.length:Int),(k:Int),(k:Int),()),(),(l,()))=some (((),0,(l.length:Int),(k:Int),()),(),(l,())):=by
  intro k hk h0;refine ll ?_;have c1: (k:Int)>0:=by omega
  have c2: (0:Int)<=(k:Int)/\(k:Int)< (l.length:Int):=by omega
  have c3: (0:Int)<=((k-1:Nat):Int)/\((k-1:Nat):Int)< (l.length:Int):=by omega
  have e1:l[k]? =some l[k] :=ah hk;have e2:l[k-1]? =some l[k-1] :=ah (by omega);have hlt:=(ha k hk).2 h0
  have less:ob l[k] l[k-1] =some (false,()):=by unfold ob mn;simp only[beq_self_eq_true,cg,ae,fC];rw[decide_eq_false (by omega)]
  simp only[fO,ed,eh,if_pos c1,if_pos c2,ov h0 (by omega),if_pos c3,aB,e1,e2,ae,less,fC]
 have outer:=xm (B:=eL) (fun s=> ∃k:Nat,0<k/\s=(((),0,(l.length:Int),(k:Int),()),(),(l,()))) (fun s=>l.length-s.1.2.2.2.1.toNat) (fun e=>e=((()),(),(l,())))
  (fun s hs=>by
    obtain⟨k,h0,rfl⟩:=hs;by_cases hk:k<l.length
    ·have c1: (k:Int)< (l.length:Int):=by omega
     refine .inl ⟨(((),0,(l.length:Int),((k+1:Nat):Int),()),(),(l,())),?_,⟨k+1,by omega,rfl⟩,?_⟩
     ·simp only[eL,ed,if_pos c1,inner k hk h0,ae,dV hm hk]
     ·simp only[aB];omega
    ·have c1: ¬ (k:Int)< (l.length:Int):=by omega
     exact .inr ⟨_,by simp only[eL,ed,if_neg c1],rfl⟩)
  (s:=(((),0,(l.length:Int),((1:Nat):Int),()),(),(l,()))) ⟨1,by omega,rfl⟩
 obtain⟨e,h1,rfl⟩:=outer;unfold fq;rw[show IntKind.wrap .i64 ((0:Int)+1)=((1:Nat):Int) from by rw[eX (by omega) (by omega)]; rfl,show jz (((),0,(l.length:Int),((1:Nat):Int),()),(),(l,()))=_ from h1];rfl
theorem Nj (l:List Int) (ha:rz l):lF l=some (l,()):=by
 have hl:=ha.len;obtain⟨m,hm⟩:=IX hl
 have hp:gn l 0 (l.length:Int) m=some (l,()):=by
  unfold gn
  have :lE (((),0,(l.length:Int),m,true,true,()),(),(l,()))=some ((()),(),(l,())):=by refine ll ?_;simp only[gP];rw[eX (by omega) (by omega),ed,if_pos (by omega),Ld l ha,ae,hQ rfl]
  rw[this];rfl
 unfold lF;simp only[hm,ae,hp];exact hQ trivial _ _
theorem Hn (l:List Int) (ha:rz l):jA l=some (l,()):=by
 have hl:=ha.len;have hm:l.length<=maxLen:=by unfold maxLen; omega
 unfold jA;rw[ed];split
 ·rfl
 ·have gi:=xm (B:=gT) (fun s=> ∃k:Nat,0<k/\k<=l.length/\s=(((),(k:Int),()),(),(l,()))) (fun s=>l.length-s.1.2.1.toNat) (fun e=>e= .inr (((),(),()),(),(l,())))
   (fun s hs=>by
     obtain⟨k,h0,hkl,rfl⟩:=hs;by_cases hk:k<l.length
     ·have c1: (k:Int)< (l.length:Int):=by omega
      have c2: (0:Int)<=(k:Int)/\(k:Int)< (l.length:Int):=by omega
      have c3: (0:Int)<=((k-1:Nat):Int)/\((k-1:Nat):Int)< (l.length:Int):=by omega
      have e1:l[k]? =some l[k] :=ah hk;have e2:l[k-1]? =some l[k-1] :=ah (by omega);have hlt:=(ha k hk).2 h0;refine .inl ⟨(((),((k+1:Nat):Int),()),(),(l,())),?_,⟨k+1,by omega,by omega,rfl⟩,?_⟩
      ·simp only[gT,ed,eh,if_pos c1,if_pos c2,ov h0 (by omega),if_pos c3,aB,e1,e2,ae,wQ,dV hm hk];rw[if_neg (by omega)]
      ·simp only[aB];omega
     ·have c1: ¬ (k:Int)< (l.length:Int):=by omega
      exact .inr ⟨_,by simp only[gT,ed,if_neg c1],rfl⟩)
   (s:=(((),((1:Nat):Int),()),(),(l,()))) ⟨1,by omega,by omega,rfl⟩
  obtain⟨e,h1,rfl⟩:=gi;rw[show pN (((),1,()),(),(l,()))=_ from h1];rfl
theorem Le (l:List Int) (ha:rz l):pp l=some (l,()):=by have hl:=ha.len;unfold pp kp;rw[hQ (lY (by omega)),ae,Nj l ha,ae,hQ rfl,Hn l ha];rfl
end Go.Proofs.YtadabkgmdllbfaaGreat.En
namespace Go.Proofs.YtadabkgmdllbfaaGreat.En
open Go
theorem uW {σ ε:Type} {B:σ->Option (σ⊕ε)} (n:Nat) (m:Nat->σ) (t:ε) (f:Nat->ε) (p:Nat->Bool) (h0:B (m n)=some (.inr t)) (h: ∀k,k<n->B (m k)=some (if p k=true then .inr (f k) else .inl (m (k+1)))):
  (gV B (m 0)=some t/\ ∀k,k<n->p k=false)\/ ∃k,k<n/\gV B (m 0)=some (f k)/\p k=true/\ ∀j,j<k->p j=false:=by
 have gi: ∀d j,j+d=n->(gV B (m j)=some t/\ ∀k,j<=k->k<n->p k=false)\/ ∃k,k<n/\gV B (m j)=some (f k)/\p k=true/\ ∀i,j<=i->i<k->p i=false:=by
  intro d
  induction d with
  |zero=>
   intro j hj;have :j=n:=by omega
   subst this;exact .inl ⟨ll h0,fun k a b=>by omega⟩
  |succ d ih=>
   intro j hj;have h1:=h j (by omega);cases hp:p j with
   |true=>rw[hp,if_pos rfl] at h1;exact .inr ⟨j,by omega,ll h1,hp,fun i a b=>by omega⟩
   |false=>
    rw[hp,if_neg (by simp)] at h1;rw[sa h1];rcases ih (j+1) (by omega) with ⟨k1,k2⟩| ⟨k,k0,k1,k2,k3⟩
    ·refine .inl ⟨k1,fun k a b=> ?_⟩;rcases dM a with rfl|a
     ·exact hp
     ·exact k2 k a b
    ·refine .inr ⟨k,k0,k1,k2,fun i a b=> ?_⟩;rcases dM a with rfl|a
     ·exact hp
     ·exact k3 i a b
 rcases gi n 0 (by omega) with ⟨a,b⟩| ⟨k,a,b,c,d⟩
 ·exact .inl ⟨a,fun k hk=>b k (ay _) hk⟩
 ·exact .inr ⟨k,a,b,c,fun j hj=>d j (ay _) hj⟩
theorem Po {σ1 ε1 σ2 ε2 β:Type} {B1:σ1->Option (σ1⊕ε1)} {B2:σ2->Option (σ2⊕ε2)} (n:Nat) (m1:Nat->β->σ1) (m2:Nat->β->σ2) (J:Nat->β->Prop) (E1:β->ε1) (E2:β->ε2)
  (h0: ∀b,J n b->B1 (m1 n b)=some (.inr (E1 b))/\B2 (m2 n b)=some (.inr (E2 b)))
  (h1: ∀k b,k<n->J k b-> ∃b',B1 (m1 k b)=some (.inl (m1 (k+1) b'))/\B2 (m2 k b)=some (.inl (m2 (k+1) b'))/\J (k+1) b')
  (b:β) (hb:J 0 b): ∃b',J n b'/\gV B1 (m1 0 b)=some (E1 b')/\gV B2 (m2 0 b)=some (E2 b'):=by
 have go: ∀ (d k:Nat) (b:β),k+d=n->J k b-> ∃b',J n b'/\gV B1 (m1 k b)=some (E1 b')/\gV B2 (m2 k b)=some (E2 b'):=by
  intro d
  induction d with
  |zero=>
   intro k b hk hj;have :k=n:=by omega
   subst this;exact⟨b,hj,ll (h0 b hj).1,ll (h0 b hj).2⟩
  |succ d ih=>intro k b hk hj;obtain⟨b',p1,p2,p3⟩:=h1 k b (by omega) hj;obtain⟨c,q1,q2,q3⟩:=ih (k+1) b' (by omega) p3;exact⟨c,q1,by rw[sa p1]; exact q2,by rw[sa p2]; exact q3⟩
 exact go n 0 b (by omega) hb
theorem zN {l:List Int} {p:Int->Bool} (h: ∀x∈l,p x=true):l.filter p=l:=List.filter_eq_self.2 h
theorem IY (a b:List Int) (ha:a.length<=1000) (hb:b.length<=maxLen):eJ a b=some (a.filter fun x=> !decide (x∈b),()):=by
 have hm:a.length<=maxLen:=by unfold maxLen; omega
 have hm':a.length<=9223372036854775807:=hm
 have has: ∀x,gU x b=some (decide (x∈b),()):=by intro x;unfold gU;rw[(gb b x hb).2];rfl
 have find:=uW (B:=eF) a.length (fun k=>((a,(b,()),(a.length:Int),(k:Int),()),(),())) (.inr (((),()),(),())) (fun k=> .inl (((k:Int),()),(),())) (fun k=>match a[k]? with |some x=>decide (x∈b)|none=>false)
  (by simp only[eF]; rw[ed,if_neg (by omega)])
  (fun k hk=>by
    have c1: (k:Int)< (a.length:Int):=by omega
    have c2: (0:Int)<=(k:Int):=by omega
    simp only[eF,ed,eh,if_pos c1,if_pos c2,aB,ah hk,ae,has,dV hm hk];by_cases hin:a[k] ∈b<;>simp[hin])
 unfold eJ fu;rcases find with ⟨k1,k2⟩| ⟨i,hi,k1,k2,k3⟩
 ·rw[show ga ((a,(b,()),(a.length:Int),0,()),(),())=_ from k1];simp only[ae,cO,beq_self_eq_true,ef];rw[zN fun x hx=> ?_];obtain⟨k,hk,rfl⟩:=aP hx;have:=k2 k hk;rw[ah hk] at this;simpa using this
 ·rw[show ga ((a,(b,()),(a.length:Int),0,()),(),())=_ from k1]
  have hne: ((i:Int)== -1)=false:=by simp only[beq_eq_false_iff_ne,ne_eq];omega
  simp only[ae,cU,hne,fC,dV hm hi];rw[ah hi] at k2
  have loop:=xm (B:=ez) (fun s=> ∃ (i j:Nat) (v:List Int),s=(((),(b,()),(i:Int),(j:Int),()),(),(v,()))/\i<=j/\j<=a.length/\v.length=a.length/\v.take i=(a.take j).filter (fun x=> !decide (x∈b))/\v.drop j=a.drop j) (fun s=>a.length-s.1.2.2.2.1.toNat)
   (fun e=> ∃ (i:Nat) (v:List Int),e=(((),(i:Int),()),(),(v,()))/\i<=a.length/\v.length=a.length/\v.take i=a.filter (fun x=> !decide (x∈b)))
   (fun s hs=>by
     obtain⟨i,j,v,rfl,hij,hj,hv,ht,hd⟩:=hs;by_cases hlt:j<a.length
     ·have c1: (j:Int)< (v.length:Int):=by omega
      have c2: (0:Int)<=(j:Int)/\(j:Int)< (v.length:Int):=by omega
      have c3: (0:Int)<=(i:Int)/\(i:Int)< (v.length:Int):=by omega
      have e1:v[j]? =some a[j] :=by have:=congrArg (fun l:List Int=>l[0]?) hd;simpa [bB,ah hlt] using this
      have e2:v[i]? =some (v[i]'(by omega)):=ah _;have hta:a.take (j+1)=a.take j++ [a[j]] :=by rw[bM,ah hlt]; rfl
      have hdd:v.drop (j+1)=a.drop (j+1):=by have:=congrArg (List.drop 1) hd;simpa [cu,cf] using this
      left;simp only[ez,ed,eh,if_pos c1,if_pos c2,aB,e1,ae,has,if_pos c3,e2,dV hm hlt,dS,dV hm (show i<a.length by omega)];by_cases hin:a[j] ∈b
      ·rw[if_pos hin];refine⟨_,rfl,⟨i,j+1,v,rfl,by omega,by omega,hv,?_,hdd⟩,?_⟩
       ·rw[ht,hta,ca];simp[hin]
       ·simp only[aB];omega
      ·rw[if_neg hin];refine⟨_,rfl,⟨i+1,j+1,v.set i a[j],rfl,by omega,by omega,by simp[hv],?_,?_⟩,?_⟩
       ·rw[CP _ (by omega),ht,hta,ca];simp[hin]
       ·rw[dG (by omega),hdd]
       ·simp only[aB];omega
     ·have :j=a.length:=by omega
      subst this;right;refine⟨_,by simp only[ez]; rw[ed,if_neg (by omega)],⟨i,v,rfl,hij,hv,?_⟩⟩;rw[ht,bU])
   (s:=(((),(b,()),(i:Int),((i+1:Nat):Int),()),(),(a,()))) ⟨i,i+1,a,rfl,by omega,by omega,rfl,by
     have hta:a.take (i+1)=a.take i++ [a[i]] :=by rw[bM,ah hi]; rfl
     rw[hta,ca,zN (l:=a.take i) fun x hx=> ?_]
     ·simp only[decide_eq_true_eq] at k2;simp[k2]
     ·obtain⟨j,hj,rfl⟩:=aP hx;have hj':j<i:=by simp at hj; omega
      have:=k3 j hj';rw[ah (by omega)] at this;rw[dk];simpa using this,rfl⟩
  obtain⟨e,h1,i',v,rfl,h2,h3,h4⟩:=loop;rw[show gY (((),(b,()),(i:Int),((i+1:Nat):Int),()),(),(a,()))=_ from h1];have d1: (0:Int)<=(i':Int)/\(i':Int)<=(v.length:Int)/\(v.length:Int)<=((v.length:Nat):Int):=by omega
  have d2:i'+(v.length-i')<=v.length:=by omega
  have d3: (0:Int)<=0/\(0:Int)<=(i':Int)/\(i':Int)<=((v.length:Nat):Int):=by omega
  simp only[ae,aB,Int.toNat_zero,aR,cT,eh,if_pos d1,if_pos d2,if_pos d3];rw[if_pos ⟨trivial,by simp; omega⟩];rw[bD,List.take_append_of_le_length (by simp; omega),List.take_take,Nat.min_self,h4]
theorem Ho (a b:List Int) (ha:rz a) (hb:b.length<=maxLen):iR a b=some (a.filter fun x=> !decide (x∈b),()):=by have hl:=ha.len;unfold iR;rw[Le a ha,ae,IY a b (by omega) hb];rfl
theorem Pp (a b:List Int) (ha:rz a) (hb:b.length<=maxLen):kI a b=some (a.filter fun x=>decide (x∈b),()):=by
 have hl:=ha.len;unfold kI;rw[Ho a b ha hb];simp only[ae]
 rw[Ho a (a.filter fun x=> !decide (x∈b)) ha (by have:=cX (fun x=> !decide (x∈b)) a;unfold maxLen;omega)]
 simp only[ae]
 congr 2
 apply List.filter_congr;intro x hx;simp[cF,hx]
theorem pq (c:dR) (h:iJ maxLen c):xn (ey c) (jj c):=by
 unfold ey jj;simp only[gr,qc,ae];cases kK c.epoch 1 20 with
 |false=>exact⟨_,rfl,rfl⟩
 |true=>
  rcases tD c.replicas h.1 with ⟨a1,a2,a3⟩| ⟨a1,a2⟩
  ·rcases tD c.witnesses h.2 with ⟨b1,b2,b3⟩| ⟨b1,b2⟩
   ·simp only[a1,a2,b1,b2,ae,ef,(gb c.replicas c.primary h.1).1,(gb c.replicas c.primary h.1).2,xT _ _ a3 h.2,Pp _ _ a3 h.2];cases decide (c.primary∈c.replicas)<;>exact⟨_,rfl,rfl⟩
   ·simp only[a1,a2,b1,b2,ae,ef,fC];exact⟨_,rfl,rfl⟩
  ·simp only[a1,a2,ae,ef,fC];exact⟨_,rfl,rfl⟩
end Go.Proofs.YtadabkgmdllbfaaGreat.En
namespace Go.Proofs.YtadabkgmdllbfaaGreat.En
open Go
theorem sP (l:List Int) (hl:l.length<=maxLen):xn (iX l) (mU l):=by
 have gi:=nC (B1:=lN) (B2:=eN) l.length (fun k=>((l,(k:Int),()),(),())) (fun k=>((l,(),(l.length:Int),(k:Int),()),(),())) (.inr ((l,(),()),(),())) (.inr (((),()),(),())) (fun _=> .inl ((l,false,()),(),())) (fun k=> .inl (((k:Int),()),(),()))
  (fun _=>True) (fun _=>True)
  (by simp only[lN]; rw[ed,if_neg (by omega)])
  (by simp only[eN]; rw[ed,if_neg (by omega)])
  (fun k hk=>by
    have c1: (k:Int)< (l.length:Int):=by omega
    have c2: (0:Int)<=(k:Int):=by omega
    simp only[lN,eN,ed,eh,if_pos c1,if_pos c2,aB,ah hk,ae,o0,gr,qc,dV hl hk];cases kK l[k] 0 3 with
    |false=>exact .inr ⟨rfl,rfl,trivial⟩
    |true=>exact .inl ⟨rfl,rfl,trivial⟩)
 unfold iX mU fM gg;rcases gi with ⟨k1,k2,_⟩| ⟨k,_,k1,k2,_⟩
 ·rw[show tj ((l,0,()),(),())=_ from k1,show hO ((l,(),(l.length:Int),0,()),(),())=_ from k2];simp only[ae,cO];cases ((l.length:Int)==5)<;>exact⟨_,rfl,rfl⟩
 ·rw[show tj ((l,0,()),(),())=_ from k1,show hO ((l,(),(l.length:Int),0,()),(),())=_ from k2];simp only[ae,cU];rw[decide_eq_true (by omega)];cases ((l.length:Int)==5)<;>exact⟨_,rfl,rfl⟩
theorem masterLog (m:dW) (h:rh maxLen m): ∃b,ft m=some (b,())/\kT m=some (b,()):=by
 obtain⟨hl,hc⟩:=h
 have gi:=nC (B1:=fp) (B2:=jk) m.configs.length (fun k=>(((),(k:Int),()),((m.configs,m.activated,()),()),())) (fun k=>(((),m.configs,(m.configs.length:Int),(k:Int),()),((m.configs,m.activated,()),()),())) (.inr (((),(),()),((m.configs,m.activated,()),()),())) (.inr (((),(),()),((m.configs,m.activated,()),()),())) (fun _=> .inl (((),false,()),((m.configs,m.activated,()),()),())) (fun _=> .inl (((),false,()),((m.configs,m.activated,()),()),()))
  (fun _=>True) (fun _=>True)
  (by simp only[fp]; rw[ed,if_neg (by omega)])
  (by simp only[jk]; rw[ed,if_neg (by omega)])
  (fun k hk=>by
    have c1: (k:Int)< (m.configs.length:Int):=by omega
    have c2: (0:Int)<=(k:Int):=by omega
    obtain⟨b,v1,v2⟩:=pq m.configs[k] (hc _ (bw hk));simp only[fp,jk,ed,eh,if_pos c1,if_pos c2,aB,ah hk,ae,v1,v2,dV hl hk,dS];cases b with
    |false=>exact .inr ⟨rfl,rfl,trivial⟩
    |true=>
     cases (m.configs[k].epoch==((k+1:Nat):Int)) with
     |false=>exact .inr ⟨rfl,rfl,trivial⟩
     |true=>exact .inl ⟨rfl,rfl,trivial⟩)
 unfold ft kT;rcases gi with ⟨k1,k2,_⟩| ⟨k,_,k1,k2,_⟩
 ·rw[show kC (((),0,()),((m.configs,m.activated,()),()),())=_ from k1,show pE (((),m.configs,(m.configs.length:Int),0,()),((m.configs,m.activated,()),()),())=_ from k2];simp only[ae,cO,gr,qc];exact⟨_,rfl,rfl⟩
 ·rw[show kC (((),0,()),((m.configs,m.activated,()),()),())=_ from k1,show pE (((),m.configs,(m.configs.length:Int),0,()),((m.configs,m.activated,()),()),())=_ from k2];exact⟨_,rfl,rfl⟩
theorem tE (x:eZ):xn (jO x) (kU x):=by unfold jO kU;simp only[gr,qc,ae];cases ((x.epoch==0)&&((x.holder==0)&&((x.ends==0)&&true)))<;>cases kK x.epoch 1 20<;>cases kK x.holder 0 4<;>exact⟨_,rfl,rfl⟩
theorem qm (l:List eE) (hl:l.length<=maxLen):xn (fo l) (nj l):=by
 have gi:=nC (B1:=jD) (B2:=eI) l.length (fun k=>((l,(k:Int),()),(),())) (fun k=>((l,(),(l.length:Int),(k:Int),()),(),())) (.inr ((l,(),()),(),())) (.inr (((),()),(),())) (fun _=> .inl ((l,false,()),(),())) (fun k=> .inl (((k:Int),()),(),()))
  (fun _=>True) (fun _=>True)
  (by simp only[jD]; rw[ed,if_neg (by omega)])
  (by simp only[eI]; rw[ed,if_neg (by omega)])
  (fun k hk=>by
    have c1: (k:Int)< (l.length:Int):=by omega
    have c2: (0:Int)<=(k:Int):=by omega
    simp only[jD,eI,ed,eh,if_pos c1,if_pos c2,aB,ah hk,ae,oe,gr,qc,dV hl hk];cases kK l[k].rack 0 9 with
    |false=>exact .inr ⟨rfl,rfl,trivial⟩
    |true=>
     cases kK l[k].capacity 0 9 with
     |false=>exact .inr ⟨rfl,rfl,trivial⟩
     |true=>
      cases kK l[k].load 0 99 with
      |false=>exact .inr ⟨rfl,rfl,trivial⟩
      |true=>exact .inl ⟨rfl,rfl,trivial⟩)
 unfold fo nj fv fP;rcases gi with ⟨k1,k2,_⟩| ⟨k,_,k1,k2,_⟩
 ·rw[show rI ((l,0,()),(),())=_ from k1,show gy ((l,(),(l.length:Int),0,()),(),())=_ from k2];simp only[ae,cO];cases ((l.length:Int)==5)<;>exact⟨_,rfl,rfl⟩
 ·rw[show rI ((l,0,()),(),())=_ from k1,show gy ((l,(),(l.length:Int),0,()),(),())=_ from k2];simp only[ae,cU];rw[decide_eq_true (by omega)];cases ((l.length:Int)==5)<;>exact⟨_,rfl,rfl⟩
theorem J3 (x:Op):xn (fe x) (nk x):=by unfold fe nk;simp only[gr,qc,ae];cases kK x.client 0 2<;>cases kK x.seq 1 99<;>cases kK x.object 0 2<;>cases kK x.value 0 9<;>cases (x.kind==1)<;>cases (x.kind==2)<;>cases (x.old==0)<;>exact⟨_,rfl,rfl⟩
theorem Hp (l:List dY) (hl:l.length<=maxLen): (gJ l=some (true,())/\ry l=some (true,())/\l.length<=16)\/(gJ l=some (false,())/\ry l=some (false,())):=by
 have gi:=nC (B1:=lP) (B2:=qk) l.length (fun k=>((l,(k:Int),()),(),())) (fun k=>((l,l,(l.length:Int),(k:Int),()),(),())) (.inr ((l,(),()),(),())) (.inr ((l,(),()),(),())) (fun _=> .inl ((l,false,()),(),())) (fun _=> .inl ((l,false,()),(),()))
  (fun _=>True) (fun _=>True)
  (by simp only[lP]; rw[ed,if_neg (by omega)])
  (by simp only[qk]; rw[ed,if_neg (by omega)])
  (fun k hk=>by
    have c1: (k:Int)< (l.length:Int):=by omega
    have c2: (0:Int)<=(k:Int):=by omega
    obtain⟨b,v1,v2⟩:=J3 l[k].op;simp only[lP,qk,ed,eh,if_pos c1,if_pos c2,aB,ah hk,ae,v1,v2,gr,qc,dV hl hk,dS];cases kK l[k].epoch 1 20 with
    |false=>exact .inr ⟨rfl,rfl,trivial⟩
    |true=>
     simp only[ef];by_cases h0:0<k
     ·have c3: (k:Int)>0:=by omega
      have c4: (0:Int)<=((k-1:Nat):Int):=by omega
      have e2:l[k-1]? =some l[k-1] :=ah (by omega);simp only[if_pos c3,ov h0 (by omega),if_pos c4,aB,e2,ae];by_cases hlt:l[k].epoch<l[k-1].epoch
      ·rw[if_pos hlt,if_pos (show l[k-1].epoch>l[k].epoch from hlt)];cases b<;>exact .inr ⟨rfl,rfl,trivial⟩
      ·rw[if_neg hlt,if_neg (show ¬l[k-1].epoch>l[k].epoch from hlt)];cases b with
       |false=>exact .inr ⟨rfl,rfl,trivial⟩
       |true=>exact .inl ⟨rfl,rfl,trivial⟩
     ·have c3: ¬ (k:Int)>0:=by omega
      simp only[if_neg c3];cases b with
      |false=>exact .inr ⟨rfl,rfl,trivial⟩
      |true=>exact .inl ⟨rfl,rfl,trivial⟩)
 unfold gJ ry;rcases gi with ⟨k1,k2,_⟩| ⟨k,_,k1,k2,_⟩
 ·rw[show sg ((l,0,()),(),())=_ from k1,show yU ((l,l,(l.length:Int),0,()),(),())=_ from k2];simp only[ae,cO];by_cases h: (l.length:Int)<=16
  ·rw[decide_eq_true h];exact .inl ⟨rfl,rfl,by omega⟩
  ·rw[decide_eq_false h];exact .inr ⟨rfl,rfl⟩
 ·rw[show sg ((l,0,()),(),())=_ from k1,show yU ((l,l,(l.length:Int),0,()),(),())=_ from k2];exact .inr ⟨rfl,rfl⟩
theorem qd (a b:List Int) (ha:a.length<=maxLen):jP a b=some (decide (a=b),())/\jX a b=some (decide (a=b),()):=by
 unfold jP jX kr;by_cases hlen:a.length=b.length
 ·have hbe: (!((a.length:Int)==(b.length:Int)))=false:=by simp[hlen]
  have gi:=nC (B1:=iL) (B2:=i7) a.length (fun k=>((a,b,(k:Int),()),(),())) (fun k=>((a,b,(a.length:Int),(k:Int),()),(),())) (.inr (((),()),(),())) (.inr (((),()),(),())) (fun _=> .inl ((false,()),(),())) (fun _=> .inl ((false,()),(),()))
   (fun k=>a[k]? =b[k]?) (fun k=>a[k]? ≠b[k]?)
   (by simp only[iL]; rw[ed,if_neg (by omega)])
   (by simp only[i7]; rw[ed,if_neg (by omega)])
   (fun k hk=>by
     have c1: (k:Int)< (a.length:Int):=by omega
     have c2: (0:Int)<=(k:Int):=by omega
     simp only[iL,i7,ed,eh,if_pos c1,if_pos c2,aB,ah hk,ah (show k<b.length by omega),ae,dV ha hk,dS,wQ];by_cases he:a[k] =b[k]'(by omega)
     ·simp only[if_pos he];exact .inl ⟨trivial,trivial,by rw[he]⟩
     ·simp only[if_neg he];exact .inr ⟨trivial,trivial,fun h=>he (Option.some.inj h)⟩)
  rw[hbe,fC,fC];rcases gi with ⟨k1,k2,k3⟩| ⟨k,hk,k1,k2,k3⟩
  ·rw[show oz ((a,b,0,()),(),())=_ from k1,show qZ ((a,b,(a.length:Int),0,()),(),())=_ from k2]
   have :a=b:=bA fun k=>by
    rcases cM k a.length with h|h
    ·exact k3 k h
    ·rw[b6 h,b6 (by omega)]
   rw[decide_eq_true this];exact⟨rfl,rfl⟩
  ·rw[show oz ((a,b,0,()),(),())=_ from k1,show qZ ((a,b,(a.length:Int),0,()),(),())=_ from k2];have :a≠b:=fun h=>k3 (by rw[h]);rw[decide_eq_false this];exact⟨rfl,rfl⟩
 ·have hbe: (!((a.length:Int)==(b.length:Int)))=true:=by
   simp only[bZ,beq_eq_false_iff_ne,ne_eq];omega
  rw[hbe,ef,ef,decide_eq_false (fun h=>hlen (by rw[h]))];exact⟨rfl,rfl⟩
theorem gR (a b:dR) (ha:iJ maxLen a):gK a b=some (decide (a=b),())/\gQ a b=some (decide (a=b),()):=by unfold gK gQ;simp only[(qd a.replicas b.replicas ha.1).1,(qd a.replicas b.replicas ha.1).2,(qd a.witnesses b.witnesses ha.2).1,(qd a.witnesses b.witnesses ha.2).2,ae,wQ,ed];obtain⟨a1,a2,a3,a4⟩:=a;obtain⟨b1,b2,b3,b4⟩:=b;simp only[dR.mk.injEq];by_cases h1:a1=b1<;>by_cases h2:a2=b2<;>by_cases h3:a3=b3<;>by_cases h4:a4=b4<;>simp[h1,h2,h3,h4]
theorem sQ (l:List dY) (hl:l.length<=maxLen): ∃n,ne l=some (n,())/\nn l=some (n,()):=by
 unfold ne nn;rcases be l.length with h|h
 ·have : ((l.length:Int)==0)=true:=by simp[h]
  rw[this];exact⟨_,rfl,rfl⟩
 ·have : ((l.length:Int)==0)=false:=by
   simp only[beq_eq_false_iff_ne,ne_eq];omega
  rw[this,fC,ov h hl,hQ (by omega),aB,ah (show l.length-1<l.length by omega)];exact⟨_,rfl,rfl⟩
theorem wR (c:dR) (x:Int) (h:iJ maxLen c): ∃n,kD c x=some (n,())/\sL c x=some (n,())/\(n=0\/n=1\/n=2\/n=3):=by unfold kD sL;obtain⟨b,v1,v2⟩:=pq c h;simp only[v1,v2,ae,(gb c.replicas x h.1).1,(gb c.replicas x h.1).2,(gb c.witnesses x h.2).1,(gb c.witnesses x h.2).2];cases b<;>cases (x==c.primary)<;>cases decide (x∈c.replicas)<;>cases decide (x∈c.witnesses)<;>exact⟨_,rfl,rfl,by decide⟩
end Go.Proofs.YtadabkgmdllbfaaGreat.En
namespace Go.Proofs.YtadabkgmdllbfaaGreat.En
open Go
theorem eO {c:dR} (h:iJ 1048576 c):iJ maxLen c:=⟨eD h.1,eD h.2⟩
theorem kV {m:dW} (h:rh 1048576 m):rh maxLen m:=⟨eD h.1,fun c hc=>eO (h.2 c hc)⟩
theorem vu (c:dR) (h:iJ maxLen c):kO c=some (decide (c=⟨0,0,[],[]⟩),()):=by unfold kO;rw[(gR c _ h).1];rfl
theorem rA (s:dQ) (id:Int) (h:gf 1048576 s):xn (eS s id) (jl s id):=by
 have hc:=eO h.1;unfold eS jl;simp only[gr,qc,ae,dS];cases kK s.version 1 2 with
 |false=>exact⟨_,rfl,rfl⟩
 |true=>
 cases kK s.epoch 0 20 with
 |false=>exact⟨_,rfl,rfl⟩
 |true=>
 rcases Hp s.log (eD h.2.1) with ⟨a1,a2,a3⟩| ⟨a1,a2⟩
 case inr=>simp only[a1,a2,ae,ef,fC]; exact⟨_,rfl,rfl⟩
 rcases Hp s.learned (eD h.2.2) with ⟨b1,b2,b3⟩| ⟨b1,b2⟩
 case inr=>simp only[a1,a2,b1,b2,ae,ef,fC]; exact⟨_,rfl,rfl⟩
 simp only[a1,a2,b1,b2,ae,ef];cases hw:kK s.first 0 16 with
 |false=>exact⟨_,rfl,rfl⟩
 |true=>
 have hf:=eG.1 hw;rw[eX (n:=s.first+(s.log.length:Int)) (by omega) (by omega)];by_cases h16:s.first+(s.log.length:Int)<=16
 case neg=>
  have e1:kK (s.first+(s.log.length:Int)) 0 16=false:=by unfold kK; simp; omega
  simp only[e1,ef,fC,ed,if_pos (show s.first+(s.log.length:Int)>16 by omega)];exact⟨_,rfl,rfl⟩
 have e1:kK (s.first+(s.log.length:Int)) 0 16=true:=eG.2 ⟨by omega,h16⟩;simp only[e1,ef,ed,if_neg (show ¬s.first+(s.log.length:Int)>16 by omega),vu s.config hc,(gR s.config ⟨0,0,[],[]⟩ hc).2,ae];cases kK s.commit 0 (s.first+(s.log.length:Int)) with
 |false=>exact⟨_,rfl,rfl⟩
 |true=>
 simp only[ef];by_cases hz:s.config=⟨0,0,[],[]⟩
 ·simp only[if_pos hz];cases (s.first==0)<;>cases (s.commit==0)<;>cases ((s.log.length:Int)==0)<;>exact⟨_,rfl,rfl⟩
 ·simp only[if_neg hz];cases s.intact with
  |false=>exact⟨_,rfl,rfl⟩
  |true=>
  simp only[ef];by_cases he:s.epoch<s.config.epoch
  ·simp only[if_pos he];exact⟨_,rfl,rfl⟩
  ·simp only[if_neg he];obtain⟨n,n1,n2⟩:=sQ s.log (eD h.2.1);simp only[n1,n2,ae];by_cases hn:n>s.config.epoch
   ·simp only[if_pos hn];exact⟨_,rfl,rfl⟩
   ·simp only[if_neg hn];obtain⟨r,r1,r2,r3⟩:=wR s.config id hc;simp only[r1,r2,ae];rcases r3 with rfl|rfl|rfl|rfl
    ·exact⟨_,rfl,rfl⟩
    ·exact⟨_,rfl,rfl⟩
    ·exact⟨_,rfl,rfl⟩
    ·have ht:uV s.first s.log=some (decide ((s.log.length:Int)<=3)&&((s.first==0)||((s.log.length:Int)==3)),()):=by
      unfold uV;simp only[a2,qc,ae,ef,ed];rw[eX (by omega) (by omega),show kK s.first 0 (16-(s.log.length:Int))=true from eG.2 ⟨by omega,by omega⟩];by_cases h3: (s.log.length:Int)<=3
      ·rw[if_pos h3,decide_eq_true h3];cases (s.first==0)<;>cases ((s.log.length:Int)==3)<;>rfl
      ·rw[if_neg h3,decide_eq_false h3];rfl
     rw[ht];by_cases h3: (s.log.length:Int)<=3
     ·rw[if_pos h3,decide_eq_true h3];cases (s.first==0)<;>cases ((s.log.length:Int)==3)<;>exact⟨_,rfl,rfl⟩
     ·rw[if_neg h3,decide_eq_false h3];exact⟨_,rfl,rfl⟩
theorem xU (m:dW) (e:Int) (h:rh 1048576 m): ∃c b,iY m e=some (c,b,())/\mX m e=some (c,b,())/\iJ maxLen c:=by
 obtain⟨b,m1,m2⟩:=masterLog m (kV h);have zero:iJ maxLen ⟨0,0,[],[]⟩:=⟨ay _,ay _⟩
 have hl:=h.1;unfold iY mX;simp only[m1,m2,gr,qc,ae,dS];cases b with
 |false=>exact⟨_,_,rfl,rfl,zero⟩
 |true=>
  cases hw:kK e 1 (m.configs.length:Int) with
  |false=>exact⟨_,_,rfl,rfl,zero⟩
  |true=>
   have hw:=eG.1 hw;simp only[ef];rw[eX (n:=e-1) (by omega) (by omega)];have hlt: (e-1).toNat<m.configs.length:=by omega
   have hk:=h.2 _ (bw hlt)
   have copy: ∀c:dR,iJ 1048576 c->jN c=some (c,())/\gM c=some (c,()):=by intro c hc;unfold jN gM;simp only[aY];rw[hQ (lY hc.1),hQ (lY hc.2)];exact⟨rfl,rfl⟩
   rw[hQ (by omega),hQ (by omega),ah hlt];simp only[ae,(copy _ hk).1,(copy _ hk).2];exact⟨_,_,rfl,rfl,eO hk⟩
theorem gt (x:dN) (h:fk 1048576 x):xn (dT x) (gC x):=by
 obtain⟨⟨hs1,hs2⟩,hsd,hml,hpl⟩:=h;have hm:=eD hs1
 have gi:=nC (B1:=ei) (B2:=ic) x.servers.length (fun k=>(((),(k:Int),()),((x.now,x.servers,x.sides,x.master.configs,x.master.activated,x.masterUp,x.lease.epoch,x.lease.holder,x.lease.ends,x.places,()),()),())) (fun k=>(((),x.servers,(x.servers.length:Int),(k:Int),()),((x.now,x.servers,x.sides,x.master.configs,x.master.activated,x.masterUp,x.lease.epoch,x.lease.holder,x.lease.ends,x.places,()),()),())) (.inr (((),()),(),())) (.inr (((),()),(),())) (fun _=> .inl ((false,()),(),())) (fun _=> .inl ((false,()),(),()))
  (fun _=>True) (fun _=>True)
  (by simp only[ei]; rw[ed,if_neg (by omega)])
  (by simp only[ic]; rw[ed,if_neg (by omega)])
  (fun k hk=>by
    have c1: (k:Int)< (x.servers.length:Int):=by omega
    have c2: (0:Int)<=(k:Int):=by omega
    have hsk:=hs2 _ (bw hk);obtain⟨b,v1,v2⟩:=rA x.servers[k] (k:Int) hsk;obtain⟨n,n1,n2⟩:=sQ x.servers[k].learned (eD hsk.2.2);obtain⟨c,d,d1,d2,d3⟩:=xU x.master x.servers[k].config.epoch hml;have hcfg:=eO hsk.1
    simp only[ei,ic,ed,eh,if_pos c1,if_pos c2,aB,ah hk,ae,v1,v2,n1,n2,dV hm hk,dS,
     show (⟨x.master.configs,x.master.activated⟩:dW)=x.master from rfl,d1,d2,vu _ hcfg,(gR _ (⟨0,0,[],[]⟩:dR) hcfg).2,(gR c x.servers[k].config d3).1,(gR c x.servers[k].config d3).2]
    cases b with
    |false=>exact .inr ⟨rfl,rfl,trivial⟩
    |true=>
     simp only[ef];by_cases h1:x.servers[k].epoch>(x.master.configs.length:Int)
     ·simp only[if_pos h1];exact .inr ⟨trivial,trivial,trivial⟩
     ·simp only[if_neg h1];by_cases h2:n>x.master.activated
      ·simp only[if_pos h2];exact .inr ⟨trivial,trivial,trivial⟩
      ·simp only[if_neg h2];by_cases h3:x.servers[k].config=⟨0,0,[],[]⟩
       ·simp only[if_pos h3];exact .inl ⟨trivial,trivial,trivial⟩
       ·simp only[if_neg h3];cases d with
        |false=>exact .inr ⟨rfl,rfl,trivial⟩
        |true=>
         simp only[ef];by_cases h4:c=x.servers[k].config
         ·simp only[if_pos h4];by_cases h5:x.servers[k].config.epoch>x.master.activated
          ·simp only[if_pos h5];exact .inr ⟨trivial,trivial,trivial⟩
          ·simp only[if_neg h5];exact .inl ⟨trivial,trivial,trivial⟩
         ·simp only[if_neg h4];exact .inr ⟨trivial,trivial,trivial⟩)
 unfold dT gC;obtain⟨b1,a1,a2⟩:=sP x.sides (eD hsd);obtain⟨b2,m1,m2⟩:=masterLog x.master (kV hml);obtain⟨b3,l1,l2⟩:=tE x.lease;obtain⟨b4,p1,p2⟩:=qm x.places (eD hpl);simp only[gr,qc,a1,a2,m1,m2,l1,l2,p1,p2,ae,dS,ed];cases kK x.now 0 999 with
 |false=>exact⟨_,rfl,rfl⟩
 |true=>
 cases ((x.servers.length:Int)==5) with
 |false=>exact⟨_,rfl,rfl⟩
 |true=>
 cases b1 with
 |false=>exact⟨_,rfl,rfl⟩
 |true=>
 cases b2 with
 |false=>exact⟨_,rfl,rfl⟩
 |true=>
 cases kK x.masterUp 0 3 with
 |false=>cases b3<;>cases b4<;>exact⟨_,rfl,rfl⟩
 |true=>
 cases b3 with
 |false=>exact⟨_,rfl,rfl⟩
 |true=>
 cases b4 with
 |false=>exact⟨_,rfl,rfl⟩
 |true=>
 simp only[ef];by_cases h1:x.lease.epoch>x.master.activated
 ·simp only[if_pos h1];exact⟨_,rfl,rfl⟩
 ·simp only[if_neg h1];rcases gi with ⟨k1,k2,_⟩| ⟨k,_,k1,k2,_⟩
  ·rw[show hZ (((),0,()),((x.now,x.servers,x.sides,x.master.configs,x.master.activated,x.masterUp,x.lease.epoch,x.lease.holder,x.lease.ends,x.places,()),()),())=_ from k1,show mY (((),x.servers,(x.servers.length:Int),0,()),((x.now,x.servers,x.sides,x.master.configs,x.master.activated,x.masterUp,x.lease.epoch,x.lease.holder,x.lease.ends,x.places,()),()),())=_ from k2];exact⟨_,rfl,rfl⟩
  ·rw[show hZ (((),0,()),((x.now,x.servers,x.sides,x.master.configs,x.master.activated,x.masterUp,x.lease.epoch,x.lease.holder,x.lease.ends,x.places,()),()),())=_ from k1,show mY (((),x.servers,(x.servers.length:Int),0,()),((x.now,x.servers,x.sides,x.master.configs,x.master.activated,x.masterUp,x.lease.epoch,x.lease.holder,x.lease.ends,x.places,()),()),())=_ from k2];exact⟨_,rfl,rfl⟩
end Go.Proofs.YtadabkgmdllbfaaGreat.En
namespace Go.Proofs.YtadabkgmdllbfaaGreat.En
open Go
theorem xV {c:dR} (h:iJ maxLen c) (hv:ey c=some (true,())):rz c.replicas/\rz c.witnesses/\c.primary∈c.replicas/\1<=c.epoch/\c.epoch<=20/\ ∀x∈c.replicas,x∉c.witnesses:=by
 unfold ey at hv;simp only[gr,ae] at hv;cases hw:kK c.epoch 1 20 with
 |false=>rw[hw] at hv; cases hv
 |true=>
  rw[hw] at hv;rcases tD c.replicas h.1 with ⟨a1,a2,a3⟩| ⟨a1,a2⟩
  ·rcases tD c.witnesses h.2 with ⟨b1,b2,b3⟩| ⟨b1,b2⟩
   ·simp only[a1,b1,ae,ef,(gb c.replicas c.primary h.1).1,xT _ _ a3 h.2,ed] at hv;by_cases hp:c.primary∈c.replicas
    ·rw[if_pos hp] at hv;refine⟨a3,b3,hp,(eG.1 hw).1,(eG.1 hw).2,fun x hx hxw=> ?_⟩
     have hz: ((((c.replicas.filter fun x=>decide (x∈c.witnesses)).length:Nat):Int)==0)=true:=by simpa using hv
     have hz: (c.replicas.filter fun x=>decide (x∈c.witnesses)).length=0:=by simp only[beq_iff_eq] at hz;omega
     have:=bq hz;have hm:x∈c.replicas.filter fun x=>decide (x∈c.witnesses):=by simp[cF,hx,hxw]
     rw[this] at hm;cases hm
    ·rw[if_neg hp] at hv; cases hv
   ·simp only[a1,b1,ae,ef,fC] at hv; cases hv
  ·simp only[a1,ae,ef,fC] at hv; cases hv
theorem Fn {m:dW} (h:rh maxLen m) (hv:ft m=some (true,())): (∀k (hk:k<m.configs.length),ey m.configs[k] =some (true,())/\m.configs[k].epoch=(k:Int)+1)/\0<=m.activated/\m.activated<=(m.configs.length:Int):=by
 obtain⟨hl,hc⟩:=h
 have gi:=nC (B1:=fp) (B2:=fp) m.configs.length (fun k=>(((),(k:Int),()),((m.configs,m.activated,()),()),())) (fun k=>(((),(k:Int),()),((m.configs,m.activated,()),()),())) (.inr (((),(),()),((m.configs,m.activated,()),()),())) (.inr (((),(),()),((m.configs,m.activated,()),()),())) (fun _=> .inl (((),false,()),((m.configs,m.activated,()),()),())) (fun _=> .inl (((),false,()),((m.configs,m.activated,()),()),()))
  (fun k=> ∀hk:k<m.configs.length,ey m.configs[k] =some (true,())/\m.configs[k].epoch=(k:Int)+1) (fun _=>True)
  (by simp only[fp]; rw[ed,if_neg (by omega)])
  (by simp only[fp]; rw[ed,if_neg (by omega)])
  (fun k hk=>by
    have c1: (k:Int)< (m.configs.length:Int):=by omega
    have c2: (0:Int)<=(k:Int):=by omega
    obtain⟨b,v1,v2⟩:=pq m.configs[k] (hc _ (bw hk))
    have step:fp (((),(k:Int),()),((m.configs,m.activated,()),()),())=br b (br (m.configs[k].epoch==((k+1:Nat):Int)) (some (.inl (((),((k+1:Nat):Int),()),((m.configs,m.activated,()),()),()))) (some (.inr (.inl (((),false,()),((m.configs,m.activated,()),()),()))))) (some (.inr (.inl (((),false,()),((m.configs,m.activated,()),()),())))):=by simp only[fp,ed,eh,if_pos c1,if_pos c2,aB,ah hk,ae,v1,dV hl hk,dS]
    rw[step];cases b with
    |false=>exact .inr ⟨rfl,rfl,trivial⟩
    |true=>
     rw[ef,wQ];by_cases he:m.configs[k].epoch=((k+1:Nat):Int)
     ·rw[if_pos he];exact .inl ⟨rfl,rfl,fun _=>⟨v1,by omega⟩⟩
     ·rw[if_neg he];exact .inr ⟨rfl,rfl,trivial⟩)
 unfold ft at hv;rcases gi with ⟨k1,_,k3⟩| ⟨k,_,k1,_,_⟩
 ·rw[show kC (((),0,()),((m.configs,m.activated,()),()),())=_ from k1] at hv;simp only[ae,cO,gr,af,an,and_true] at hv;exact⟨fun k hk=>k3 k hk hk,(eG.1 hv).1,(eG.1 hv).2⟩
 ·rw[show kC (((),0,()),((m.configs,m.activated,()),()),())=_ from k1] at hv;cases hv
theorem Hq {s:dQ} {id:Int} (h:gf 1048576 s) (hv:eS s id=some (true,())):0<=s.first/\s.first<=16/\s.log.length<=16/\0<=s.commit/\s.commit<=s.first+(s.log.length:Int)/\gJ s.log=some (true,())/\gJ s.learned=some (true,())/\0<=s.epoch/\s.epoch<=20:=by
 unfold eS at hv;simp only[gr,ae,dS] at hv;cases h1:kK s.version 1 2 with
 |false=>rw[h1] at hv; cases hv
 |true=>
 cases h2:kK s.epoch 0 20 with
 |false=>rw[h1,h2] at hv; cases hv
 |true=>
 rw[h1,h2] at hv;rcases Hp s.log (eD h.2.1) with ⟨a1,a2,a3⟩| ⟨a1,a2⟩
 case inr=>simp only[a1,ae,ef,fC] at hv; cases hv
 rcases Hp s.learned (eD h.2.2) with ⟨b1,b2,b3⟩| ⟨b1,b2⟩
 case inr=>simp only[a1,b1,ae,ef,fC] at hv; cases hv
 simp only[a1,b1,ae,ef] at hv;cases hw:kK s.first 0 16 with
 |false=>rw[hw] at hv; cases hv
 |true=>
 have hf:=eG.1 hw;rw[hw,eX (n:=s.first+(s.log.length:Int)) (by omega) (by omega)] at hv;simp only[ef] at hv;cases h3:kK (s.first+(s.log.length:Int)) 0 16 with
 |false=>rw[h3] at hv; cases hv
 |true=>
 cases h4:kK s.commit 0 (s.first+(s.log.length:Int)) with
 |false=>rw[h3,h4] at hv; cases hv
 |true=>
 exact⟨hf.1,hf.2,a3,(eG.1 h4).1,(eG.1 h4).2,a1,b1,(eG.1 h2).1,(eG.1 h2).2⟩
structure VC (x:dN):Prop where
 len:x.servers.length=5
 ml:ft x.master=some (true,())
 sides:iX x.sides=some (true,())
 places:fo x.places=some (true,())
 lease:jO x.lease=some (true,())
 now:0<=x.now/\x.now<=999
 up:0<=x.masterUp/\x.masterUp<=3
 srv: ∀k (hk:k<x.servers.length),eS x.servers[k] (k:Int)=some (true,())
theorem i8 {x:dN} (h:fk 1048576 x) (hv:dT x=some (true,())):VC x:=by
 obtain⟨⟨hs1,hs2⟩,hsd,hml,hpl⟩:=h;have hm:=eD hs1
 have gi:=nC (B1:=ei) (B2:=ei) x.servers.length (fun k=>(((),(k:Int),()),((x.now,x.servers,x.sides,x.master.configs,x.master.activated,x.masterUp,x.lease.epoch,x.lease.holder,x.lease.ends,x.places,()),()),())) (fun k=>(((),(k:Int),()),((x.now,x.servers,x.sides,x.master.configs,x.master.activated,x.masterUp,x.lease.epoch,x.lease.holder,x.lease.ends,x.places,()),()),())) (.inr (((),()),(),())) (.inr (((),()),(),())) (fun _=> .inl ((false,()),(),())) (fun _=> .inl ((false,()),(),()))
  (fun k=> ∀hk:k<x.servers.length,eS x.servers[k] (k:Int)=some (true,())) (fun _=>True)
  (by simp only[ei]; rw[ed,if_neg (by omega)])
  (by simp only[ei]; rw[ed,if_neg (by omega)])
  (fun k hk=>by
    have c1: (k:Int)< (x.servers.length:Int):=by omega
    have c2: (0:Int)<=(k:Int):=by omega
    have hsk:=hs2 _ (bw hk);obtain⟨b,v1,v2⟩:=rA x.servers[k] (k:Int) hsk;obtain⟨n,n1,n2⟩:=sQ x.servers[k].learned (eD hsk.2.2);obtain⟨c,d,d1,d2,d3⟩:=xU x.master x.servers[k].config.epoch hml;have hcfg:=eO hsk.1
    have step:ei (((),(k:Int),()),((x.now,x.servers,x.sides,x.master.configs,x.master.activated,x.masterUp,x.lease.epoch,x.lease.holder,x.lease.ends,x.places,()),()),())=some (.inr (.inl ((false,()),(),())))\/(b=true/\ei (((),(k:Int),()),((x.now,x.servers,x.sides,x.master.configs,x.master.activated,x.masterUp,x.lease.epoch,x.lease.holder,x.lease.ends,x.places,()),()),())=some (.inl (((),((k+1:Nat):Int),()),((x.now,x.servers,x.sides,x.master.configs,x.master.activated,x.masterUp,x.lease.epoch,x.lease.holder,x.lease.ends,x.places,()),()),()))):=by
     simp only[ei,ed,eh,if_pos c1,if_pos c2,aB,ah hk,ae,v1,n1,dV hm hk,dS,
      show (⟨x.master.configs,x.master.activated⟩:dW)=x.master from rfl,d1,vu _ hcfg,(gR c x.servers[k].config d3).1]
     cases b with
     |false=>exact .inl rfl
     |true=>
      simp only[ef]
      repeat' split
      all_goals first |exact .inl trivial|exact .inr ⟨trivial,trivial⟩| (cases d<;>first |exact .inl rfl| (simp only[ef]; repeat' split)<;>first |exact .inl trivial|exact .inr ⟨trivial,trivial⟩)
    rcases step with h1| ⟨rfl,h1⟩
    ·rw[h1]; exact .inr ⟨rfl,rfl,trivial⟩
    ·rw[h1]; exact .inl ⟨rfl,rfl,fun _=>v1⟩)
 unfold dT at hv;obtain⟨b1,a1,a2⟩:=sP x.sides (eD hsd);obtain⟨b2,m1,m2⟩:=masterLog x.master (kV hml);obtain⟨b3,l1,l2⟩:=tE x.lease;obtain⟨b4,p1,p2⟩:=qm x.places (eD hpl);simp only[gr,a1,m1,l1,p1,ae,dS,ed] at hv;cases h1:kK x.now 0 999 with
 |false=>rw[h1] at hv; cases hv
 |true=>
 cases h2: ((x.servers.length:Int)==5) with
 |false=>rw[h1,h2] at hv; cases hv
 |true=>
 cases b1 with
 |false=>rw[h1,h2] at hv; cases hv
 |true=>
 cases b2 with
 |false=>rw[h1,h2] at hv; cases hv
 |true=>
 cases h3:kK x.masterUp 0 3 with
 |false=>rw[h1,h2,h3] at hv; cases hv
 |true=>
 cases b3 with
 |false=>rw[h1,h2,h3] at hv; cases hv
 |true=>
 cases b4 with
 |false=>rw[h1,h2,h3] at hv; cases hv
 |true=>
 rw[h1,h2,h3] at hv;simp only[ef] at hv;by_cases h4:x.lease.epoch>x.master.activated
 ·rw[if_pos h4] at hv; cases hv
 ·rw[if_neg h4] at hv;rcases gi with ⟨k1,_,k3⟩| ⟨k,_,k1,_,_⟩
  ·refine⟨?_,m1,a1,p1,l1,eG.1 h1,eG.1 h3,fun k hk=>k3 k hk hk⟩;simp only[beq_iff_eq] at h2;omega
  ·rw[show hZ (((),0,()),((x.now,x.servers,x.sides,x.master.configs,x.master.activated,x.masterUp,x.lease.epoch,x.lease.holder,x.lease.ends,x.places,()),()),())=_ from k1] at hv;cases hv
end Go.Proofs.YtadabkgmdllbfaaGreat.En
namespace Go.Proofs.YtadabkgmdllbfaaGreat.En
open Go
end Go.Proofs.YtadabkgmdllbfaaGreat.En
namespace Go.Proofs.YtadabkgmdllbfaaGreat.En
open Go
section
variable {α:Type}
end
end Go.Proofs.YtadabkgmdllbfaaGreat.En
namespace Go.Proofs.YtadabkgmdllbfaaGreat.En
open Go
end Go.Proofs.YtadabkgmdllbfaaGreat.En
namespace Go.Proofs.YtadabkgmdllbfaaGreat.En
open Go
theorem Co {n c:Nat} (h:n<=1048577) (hc:c<=1000):n*c<=2 ^ 40:=by
 have h1:n*c<=1048577*1000:=Nat.mul_le_mul h hc;have h2: (2:Nat) ^ 40=1099511627776:=by decide
 omega
theorem vv (c:dR) (h:iJ 1048576 c):jN c=some (c,())/\gM c=some (c,()):=by have a:=h.1;have b:=h.2;unfold jN gM;simp only[aY,eh,if_pos (Co (ck a) (show 8<=1000 by decide)),if_pos (Co (ck b) (show 8<=1000 by decide))];exact⟨trivial,trivial⟩
theorem vw (l:List dY) (h:l.length<=1048576):ij l=some (l,())/\lC l=some (l,()):=by unfold ij lC;simp only[aY,eh,if_pos (Co (ck h) (show 56<=1000 by decide))];exact⟨trivial,trivial⟩
theorem J4 (l:List Int) (h:l.length<=1048576):kp l=some (l,()):=by unfold kp;simp only[eh,if_pos (Co (ck h) (show 8<=1000 by decide))]
theorem IZ (l:List eE) (h:l.length<=1048576):n8 l=some (l,()):=by unfold n8;simp only[eh,if_pos (Co (ck h) (show 24<=1000 by decide))]
theorem Ax (s:dQ) (h:gf 1048576 s):je s=some (s,())/\n6 s=some (s,()):=by unfold je n6;simp only[(vv _ h.1).1,(vv _ h.1).2,(vw _ h.2.1).1,(vw _ h.2.1).2,(vw _ h.2.2).1,(vw _ h.2.2).2,ae];exact⟨trivial,trivial⟩
theorem o4 {α:Type} {l:List α} {k:Nat} {x:α} (h:l[k]? =some x):l.take (k+1)=l.take k++ [x] :=by rw[bM,h]; rfl
theorem qe {α:Type} (l:List α) (k:Nat) (x:α) (h:l.length<=1048576): (l.take k++ [x]).length<=1048577:=by rw[aA,aZ,az];omega
theorem Fo (m:dW) (h:rh 1048576 m):oy m=some (m,())/\n7 m=some (m,()):=by
 obtain⟨hl,hc⟩:=h
 have k1:=ma (B:=na) m.configs (fun k (b:List dR)=>(((),(),(),(k:Int),()),((m.configs,m.activated,()),((),0,()),((),m.activated,()),()),(b,()))) (fun k b=>b=m.configs.take k) (fun _ _ _=>(((),(),()),(((),0,()),((),m.activated,()),()),(m.configs,())))
  (fun b hb=>by simp only[na];rw[ed,if_neg (by omega),hb,bU])
  (fun k b c hx hb=>by
    have hk:=jM hx;have c1: (k:Int)< (m.configs.length:Int):=by omega
    have c2: (0:Int)<=(k:Int):=by omega
    subst hb;refine .inl ⟨m.configs.take (k+1),?_,rfl,rfl⟩;simp only[na,ed,eh,if_pos c1,if_pos c2,aB,hx,ae,(vv c (hc c (au hx))).1,dV (eD hl) hk,if_pos (Co (qe m.configs k c hl) (show 64<=1000 by decide)),o4 hx])
  0 [] (ay _) rfl
 have k2:=ma (B:=jV) m.configs (fun k (b:List dR)=>(((),(),m.configs,(m.configs.length:Int),(k:Int),()),(((),0,()),((),m.activated,()),()),(b,()))) (fun k b=>b=m.configs.take k) (fun _ _ _=>(((),(),()),(((),0,()),((),m.activated,()),()),(m.configs,())))
  (fun b hb=>by simp only[jV];rw[ed,if_neg (by omega),hb,bU])
  (fun k b c hx hb=>by
    have hk:=jM hx;have c1: (k:Int)< (m.configs.length:Int):=by omega
    have c2: (0:Int)<=(k:Int):=by omega
    subst hb;refine .inl ⟨m.configs.take (k+1),?_,rfl,rfl⟩;simp only[jV,ed,eh,if_pos c1,if_pos c2,aB,hx,ae,(vv c (hc c (au hx))).2,dV (eD hl) hk,if_pos (Co (qe m.configs k c hl) (show 64<=1000 by decide)),o4 hx])
  0 [] (ay _) rfl
 unfold oy n7;rw[show zE (((),(),(),0,()),((m.configs,m.activated,()),((),0,()),((),m.activated,()),()),(([]:List dR),()))=_ from k1,show uQ (((),(),m.configs,(m.configs.length:Int),0,()),(((),0,()),((),m.activated,()),()),(([]:List dR),()))=_ from k2];exact⟨rfl,rfl⟩
theorem gp (x:dN) (ok:fk 1048576 x):eR x=some (x,())/\gD x=some (x,()):=by
 obtain⟨⟨hl,hs⟩,hsd,hml,hpl⟩:=ok
 have k1:=ma (B:=nc) x.servers (fun k (b:List dQ)=>(((),(),(),(k:Int),()),((x.now,x.servers,x.sides,x.master.configs,x.master.activated,x.masterUp,x.lease.epoch,x.lease.holder,x.lease.ends,x.places,()),(0,(),(),(),0,0,0,0,0,(),()),(x.now,(),x.sides,x.master.configs,x.master.activated,x.masterUp,x.lease.epoch,x.lease.holder,x.lease.ends,x.places,()),()),(b,()))) (fun k b=>b=x.servers.take k) (fun _ _ _=>(((),(),(),()),((x.now,x.servers,x.sides,x.master.configs,x.master.activated,x.masterUp,x.lease.epoch,x.lease.holder,x.lease.ends,x.places,()),(0,(),(),(),0,0,0,0,0,(),()),(x.now,(),x.sides,x.master.configs,x.master.activated,x.masterUp,x.lease.epoch,x.lease.holder,x.lease.ends,x.places,()),()),(x.servers,())))
  (fun b hb=>by simp only[nc];rw[ed,if_neg (by omega),hb,bU])
  (fun k b c hx hb=>by
    have hk:=jM hx;have c1: (k:Int)< (x.servers.length:Int):=by omega
    have c2: (0:Int)<=(k:Int):=by omega
    subst hb;refine .inl ⟨x.servers.take (k+1),?_,rfl,rfl⟩;simp only[nc,ed,eh,if_pos c1,if_pos c2,aB,hx,ae,(Ax c (hs c (au hx))).1,dV (eD hl) hk,if_pos (Co (qe x.servers k c hl) (show 152<=1000 by decide)),o4 hx])
  0 [] (ay _) rfl
 have k2:=ma (B:=ji) x.servers (fun k (b:List dQ)=>(((),(),(),x.servers,(x.servers.length:Int),(k:Int),()),((x.now,x.servers,x.sides,x.master.configs,x.master.activated,x.masterUp,x.lease.epoch,x.lease.holder,x.lease.ends,x.places,()),(0,(),(),(),0,0,0,0,0,(),()),(x.now,(),x.sides,x.master.configs,x.master.activated,x.masterUp,x.lease.epoch,x.lease.holder,x.lease.ends,x.places,()),()),(b,()))) (fun k b=>b=x.servers.take k) (fun _ _ _=>(((),(),(),()),((x.now,x.servers,x.sides,x.master.configs,x.master.activated,x.masterUp,x.lease.epoch,x.lease.holder,x.lease.ends,x.places,()),(0,(),(),(),0,0,0,0,0,(),()),(x.now,(),x.sides,x.master.configs,x.master.activated,x.masterUp,x.lease.epoch,x.lease.holder,x.lease.ends,x.places,()),()),(x.servers,())))
  (fun b hb=>by simp only[ji];rw[ed,if_neg (by omega),hb,bU])
  (fun k b c hx hb=>by
    have hk:=jM hx;have c1: (k:Int)< (x.servers.length:Int):=by omega
    have c2: (0:Int)<=(k:Int):=by omega
    subst hb;refine .inl ⟨x.servers.take (k+1),?_,rfl,rfl⟩;simp only[ji,ed,eh,if_pos c1,if_pos c2,aB,hx,ae,(Ax c (hs c (au hx))).2,dV (eD hl) hk,if_pos (Co (qe x.servers k c hl) (show 152<=1000 by decide)),o4 hx])
  0 [] (ay _) rfl
 unfold eR gD
 rw[show zG (((),(),(),0,()),((x.now,x.servers,x.sides,x.master.configs,x.master.activated,x.masterUp,x.lease.epoch,x.lease.holder,x.lease.ends,x.places,()),(0,(),(),(),0,0,0,0,0,(),()),(x.now,(),x.sides,x.master.configs,x.master.activated,x.masterUp,x.lease.epoch,x.lease.holder,x.lease.ends,x.places,()),()),(([]:List dQ),()))=_ from k1,
  show tX (((),(),(),x.servers,(x.servers.length:Int),0,()),((x.now,x.servers,x.sides,x.master.configs,x.master.activated,x.masterUp,x.lease.epoch,x.lease.holder,x.lease.ends,x.places,()),(0,(),(),(),0,0,0,0,0,(),()),(x.now,(),x.sides,x.master.configs,x.master.activated,x.masterUp,x.lease.epoch,x.lease.holder,x.lease.ends,x.places,()),()),(([]:List dQ),()))=_ from k2]
 have em: (⟨x.master.configs,x.master.activated⟩:dW)=x.master:=rfl;simp only[ae,aY,em,(Fo _ hml).1,(Fo _ hml).2,J4 _ hsd,IZ _ hpl,eh,if_pos (Co (ck hsd) (show 8<=1000 by decide)),if_pos (Co (ck hpl) (show 24<=1000 by decide))];exact⟨trivial,trivial⟩
theorem za (x:dN) (id:Int) (ok:fk 1048576 x): ∃b,kR x id=some (b,())/\fW x id=some (b,())/\(b=true->dT x=some (true,())/\0<=id/\id<5):=by
 obtain⟨v,v1,v2⟩:=gt x ok;unfold kR fW;simp only[v1,v2,ae,gr,qc];cases v with
 |false=>exact⟨false,rfl,rfl,nofun⟩
 |true=>refine⟨kK id 0 4,rfl,rfl,fun h=>⟨rfl,?_⟩⟩;have:=eG.1 h;omega
end Go.Proofs.YtadabkgmdllbfaaGreat.En
namespace Go.Proofs.YtadabkgmdllbfaaGreat.En
open Go
end Go.Proofs.YtadabkgmdllbfaaGreat.En
namespace Go.Proofs.YtadabkgmdllbfaaGreat.En
open Go
def SS (l:List Int):Prop:=l.Pairwise (· < ·)
theorem Nk {A B:List Int} {x:Int} (h:SS (A++B)) (ha: ∀y∈A,y<x) (hb: ∀y∈B,x<y):SS (A++ [x] ++B):=by
 obtain⟨h1,h2,h3⟩:=da.1 h;refine da.2 ⟨da.2 ⟨h1,dh _ _,fun a h b hb'=> ?_⟩,h2,fun a h b hb'=> ?_⟩
 ·rw[aE.1 hb'];exact ha a h
 ·rcases bf.1 h with h|h
  ·exact h3 a h b hb'
  ·rw[aE.1 h];exact hb b hb'
theorem Pq (l:List Int) (x:Int) (hl:l.length<=1000) (hs:SS l): ∃r,jK l x=some (r,())/\SS r/\(∀y,y∈r↔y=x\/y∈l)/\r.length<=l.length+1/\(x∉l->r.length=l.length+1):=by
 have hm:l.length<=maxLen:=by unfold maxLen; omega
 rcases uW (B:=lO) l.length (fun k=>((l,x,(k:Int),()),(),())) ((l,x,(l.length:Int),()),(),()) (fun k=>((l,x,(k:Int),()),(),())) (fun k=>match l[k]? with |some y=> !decide (y<x)|none=>false)
  (by simp only[lO]; rw[ed,if_neg (by omega)])
  (fun k hk=>by
    have c1: (k:Int)< (l.length:Int):=by omega
    have c2: (0:Int)<=(k:Int):=by omega
    simp only[lO,ed,eh,if_pos c1,if_pos c2,aB,ah hk,ae,dV hm hk];by_cases h:l[k]<x<;>simp[h]) with ⟨k1,k2⟩| ⟨i,hi,k1,k2,k3⟩
 ·have all: ∀y∈l,y<x:=by
   intro y hy;obtain⟨k,hk,rfl⟩:=aP hy;have:=k2 k hk;rw[ah hk] at this;simpa using this
  refine⟨l++ [x],Fm l x hl all,?_,?_,?_,fun _=>by simp⟩
  ·have:=Nk (A:=l) (B:= []) (x:=x) (by simpa using hs) all (by simp);simpa using this
  ·intro y;simp[or_comm]
  ·simp
 ·rw[ah hi] at k2;simp only[bZ,decide_eq_false_iff_not,Int.not_lt] at k2
  have lt: ∀y∈l.take i,y<x:=by
   intro y hy;obtain⟨j,hj,rfl⟩:=aP hy;have hj':j<i:=by simp at hj; omega
   have:=k3 j hj';rw[ah (by omega)] at this;rw[dk];simpa using this
  have hd:l.drop i=l[i]::l.drop (i+1):=bV hi;have hsp:l.take i++l.drop i=l:=dw i l
  have ge: ∀y∈l.drop i,l[i] <=y:=by
   intro y hy;rw[hd] at hy;rcases bc.1 hy with rfl|hy
   ·exact bP _
   ·have h2:SS (l.drop i):=List.Pairwise.sublist (List.drop_sublist i l) hs;rw[hd] at h2;exact Int.le_of_lt ((List.pairwise_cons.1 h2).1 y hy)
  unfold jK;rw[show yI ((l,x,0,()),(),())=_ from k1];have c1: (i:Int)< (l.length:Int):=by omega
  have c2: (0:Int)<=(i:Int):=by omega
  simp only[ae,ed,wQ,eh,if_pos c1,if_pos c2,aB,ah hi,aY];by_cases he:l[i] =x
  ·simp only[if_pos he,if_pos (lY (show l.length<=1048576 by omega))];refine⟨l,rfl,hs,fun y=>⟨.inr,?_⟩,by omega,fun h=>absurd (by rw[<-he]; exact bw hi) h⟩
   rintro (rfl|h)
   ·rw[<-he];exact bw hi
   ·exact h
  ·have d1: (0:Int)<=0/\(0:Int)<=(i:Int)/\(i:Int)<=(l.length:Int):=by omega
   have d2: (0:Int)<=(i:Int)/\(i:Int)<=(l.length:Int)/\(l.length:Int)<=(l.length:Int):=by omega
   have e1: (l.drop i).take (l.length-i)=l.drop i:=bJ (by simp);simp only[if_neg he,if_pos d1,if_pos d2,Int.toNat_zero,bK,cT,e1];rw[if_pos (lY (by simp; omega)),if_pos (lY (by simp; omega)),if_pos (lY (by simp; omega))];refine⟨_,rfl,Nk (by rw[hsp]; exact hs) lt (fun y hy=> ?_),fun y=> ?_,by simp; omega,fun _=>by simp; omega⟩
   ·have:=ge y hy;omega
   ·conv=>rhs; rw[<-hsp]
    simp only[bf,aE];constructor
    ·rintro ((h|h)|h)
     ·exact .inr (.inl h)
     ·exact .inl h
     ·exact .inr (.inr h)
    ·rintro (h|h|h)
     ·exact .inl (.inr h)
     ·exact .inl (.inl h)
     ·exact .inr h
theorem PY {β:Type} (l:List Int) (hl:l.length<=500) {mk:Nat->List Int->β} {ε:Type} {B:β->Option (β⊕ε)} {E:List Int->ε}
  (h0: ∀v,B (mk l.length v)=some (.inr (E v)))
  (h1: ∀k v x,l[k]? =some x->B (mk k v)=(jK v x).bind fun y=>some (.inl (mk (k+1) y.1)))
  (v:List Int) (hv:SS v) (hvl:v.length<=500): ∃r,gV B (mk 0 v)=some (E r)/\SS r/\(∀y,y∈r↔y∈v\/y∈l)/\r.length<=v.length+l.length:=by
 have go: ∀ (n k:Nat) (v:List Int),k+n=l.length->SS v->v.length+n<=1000-> ∃r,gV B (mk k v)=some (E r)/\SS r/\(∀y,y∈r↔y∈v\/y∈l.drop k)/\r.length<=v.length+n:=by
  intro n
  induction n with
  |zero=>
   intro k v hk hv _;have :k=l.length:=by omega
   subst this;exact⟨v,ll (h0 v),hv,by simp,by omega⟩
  |succ n ih=>
   intro k v hk hv hn;have hlt:k<l.length:=by omega
   obtain⟨r,r1,r2,r3,r4,_⟩:=Pq v l[k] (by omega) hv;obtain⟨s,s1,s2,s3,s4⟩:=ih (k+1) r (by omega) r2 (by omega);refine⟨s,?_,s2,fun y=> ?_,by omega⟩
   ·rw[sa (by rw[h1 k v _ (ah hlt),r1]; rfl)];exact s1
   ·rw[s3,r3,bV hlt,bc];constructor
    ·rintro ((h|h)|h)
     ·exact .inr (.inl h)
     ·exact .inl h
     ·exact .inr (.inr h)
    ·rintro (h|h|h)
     ·exact .inl (.inr h)
     ·exact .inl (.inl h)
     ·exact .inr h
 obtain⟨r,h1,h2,h3,h4⟩:=go l.length 0 v (by omega) hv (by omega);rw[bK] at h3;exact⟨r,h1,h2,h3,h4⟩
theorem Nl (a b:List Int) (ha:a.length<=100) (hb:b.length<=100): ∃r,lx a b=some (r,())/\SS r/\(∀y,y∈r↔y∈a\/y∈b)/\r.length<=a.length+b.length:=by
 have am:a.length<=maxLen:=by unfold maxLen; omega
 have bm:b.length<=maxLen:=by unfold maxLen; omega
 obtain⟨r,r1,r2,r3,r4⟩:=PY (B:=iO) (mk:=fun k v=>((a,b,(),(k:Int),()),(),(v,()))) (E:=fun v=>((b,(),()),(),(v,()))) a (by omega)
  (fun v=>by simp only[iO]; rw[ed,if_neg (by omega)])
  (fun k v x hx=>by
    have hk:=jM hx;have c1: (k:Int)< (a.length:Int):=by omega
    have c2: (0:Int)<=(k:Int):=by omega
    simp only[iO,ed,eh,if_pos c1,if_pos c2,aB,hx,ae,dV am hk])
  [] List.Pairwise.nil (ay _)
 obtain⟨s,s1,s2,s3,s4⟩:=PY (B:=iP) (mk:=fun k v=>((b,(),(k:Int),()),(),(v,()))) (E:=fun v=>(((),()),(),(v,()))) b (by omega)
  (fun v=>by simp only[iP]; rw[ed,if_neg (by omega)])
  (fun k v x hx=>by
    have hk:=jM hx;have c1: (k:Int)< (b.length:Int):=by omega
    have c2: (0:Int)<=(k:Int):=by omega
    simp only[iP,ed,eh,if_pos c1,if_pos c2,aB,hx,ae,dV bm hk])
  r r2 (by simp at r4; omega)
 unfold lx;rw[show sr ((a,b,(),0,()),(),([],()))=_ from r1];simp only[ae];rw[show sy ((b,(),0,()),(),(r,()))=_ from s1];refine⟨s,rfl,s2,fun y=> ?_,by simp at r4; omega⟩;rw[s3,r3];simp
end Go.Proofs.YtadabkgmdllbfaaGreat.En
namespace Go.Proofs.YtadabkgmdllbfaaGreat.En
open Go
theorem Cp (m:dW) (e:Int) (h:rh 1048576 m) (hv:ft m=some (true,())): ∃c b,iY m e=some (c,b,())/\mX m e=some (c,b,())/\iJ maxLen c/\(b=kK e 1 (m.configs.length:Int))/\(b=true->ey c=some (true,())/\c.epoch=e)/\(b=false->c=⟨0,0,[],[]⟩):=by
 obtain⟨b,m1,m2⟩:=masterLog m (kV h);rw[hv] at m1;simp only[af,an,and_true] at m1;subst m1;obtain⟨f1,_,_⟩:=Fn (kV h) hv;have zero:iJ maxLen ⟨0,0,[],[]⟩:=⟨ay _,ay _⟩
 have hl:=h.1;unfold iY mX;simp only[hv,m2,gr,qc,ae,dS,ef];cases hw:kK e 1 (m.configs.length:Int) with
 |false=>exact⟨_,_,rfl,rfl,zero,rfl,nofun,fun _=>rfl⟩
 |true=>
  have hw:=eG.1 hw;simp only[ef];rw[eX (n:=e-1) (by omega) (by omega)];have hlt: (e-1).toNat<m.configs.length:=by omega
  have hk:=h.2 _ (bw hlt)
  have copy: ∀c:dR,iJ 1048576 c->jN c=some (c,())/\gM c=some (c,()):=by intro c hc;unfold jN gM;simp only[aY];rw[hQ (lY hc.1),hQ (lY hc.2)];exact⟨rfl,rfl⟩
  rw[hQ (by omega),hQ (by omega),ah hlt];simp only[ae,(copy _ hk).1,(copy _ hk).2];refine⟨_,_,rfl,rfl,eO hk,rfl,fun _=>⟨(f1 _ hlt).1,?_⟩,nofun⟩;rw[(f1 _ hlt).2];omega
end Go.Proofs.YtadabkgmdllbfaaGreat.En
namespace Go.Proofs.YtadabkgmdllbfaaGreat.En
open Go
def xW (p:Nat->Bool) (n:Nat):List Int:=((List.range n).filter p).map fun (k:Nat)=>(k:Int)
theorem Hr (p:Nat->Bool) (n:Nat):xW p (n+1)=xW p n++if p n=true then [(n:Int)] else [] :=by
 unfold xW;rw[List.range_succ,ca,bT]
 congr 1
 cases h:p n<;>simp[h]
theorem Fp (p:Nat->Bool) (n:Nat) (x:Int):x∈xW p n↔ ∃k:Nat,k<n/\p k=true/\x=(k:Int):=by
 unfold xW;simp only[aJ,cF,bH];constructor
 ·rintro⟨k,⟨h1,h2⟩,rfl⟩; exact⟨k,h1,h2,rfl⟩
 ·rintro⟨k,h1,h2,rfl⟩; exact⟨k,⟨h1,h2⟩,rfl⟩
theorem J5 (p:Nat->Bool) (n:Nat): (xW p n).length<=n:=by unfold xW;rw[aK];exact aO (cX _ _) (by simp)
theorem J6 (p:Nat->Bool) {n:Nat} (hn:n<=5):rz (xW p n):=by
 have hp: (xW p n).Pairwise (· < ·):=by unfold xW;rw[List.pairwise_map];exact (List.Pairwise.filter _ List.pairwise_lt_range).imp fun h=>by omega
 intro k hk;have hm: (xW p n)[k] ∈xW p n:=bw hk;obtain⟨j,h1,_,h2⟩:=(Fp p n _).1 hm;exact⟨⟨by omega,by omega⟩,fun h0=>bW.1 hp (k-1) k (by omega) hk (by omega)⟩
theorem Pr (p q:Nat->Bool) (n:Nat): (xW p n).filter (fun x=>decide (x∈xW q n))=xW (fun k=>p k&&q k) n:=by
 unfold xW;rw[List.filter_map,List.filter_filter]
 congr 1
 apply List.filter_congr;intro k hk;have hk:=bH.1 hk
 have : (((fun x=>decide (x∈xW q n))∘fun (k:Nat)=>(k:Int)) k)=q k:=by
  show decide ((k:Int)∈xW q n)=q k;cases hq:q k with
  |true=>exact decide_eq_true ((Fp q n _).2 ⟨k,hk,hq,rfl⟩)
  |false=>
   refine decide_eq_false fun h=> ?_;obtain⟨j,_,h1,h2⟩:=(Fp q n _).1 h;have :j=k:=by omega
   subst this;rw[hq] at h1;cases h1
 have e:decide ((k:Int)∈List.map (fun (k:Nat)=>(k:Int)) (List.filter q (List.range n)))=q k:=this;simp only[Function.comp,e,Bool.and_comm]
def Hs (x:dN) (k:Nat):Bool:=match x.servers[k]? with |some s=>s.up|none=>false
def uX (l:List Int) (k:Nat):Bool:=match l[k]? with |some s=>s==0|none=>false
theorem PZ {p:Nat->Bool} {k:Nat} (h:k<=1000) (y:Int): (xW p k++ [y]).length*8<=2 ^ 40:=by have:=J5 p k;refine lY ?_;rw[aA,az];omega
theorem Lf (x:dN) (hl:x.servers.length=5) (hv:dT x=some (true,())):pf x=some (xW (Hs x) 5,()):=by
 have ex: (⟨x.now,x.servers,x.sides,⟨x.master.configs,x.master.activated⟩,x.masterUp,⟨x.lease.epoch,x.lease.holder,x.lease.ends⟩,x.places⟩:dN)=x:=rfl
 have gi:=ma (B:=kQ) x.servers (fun k (b:List Int)=>(((),(),(k:Int),()),((x.now,x.servers,x.sides,x.master.configs,x.master.activated,x.masterUp,x.lease.epoch,x.lease.holder,x.lease.ends,x.places,()),()),(b,()))) (fun k b=>b=xW (Hs x) k) (fun _ _ _=>(((),()),(),(xW (Hs x) 5,())))
  (fun b hb=>by simp only[kQ];rw[ed,if_neg (by omega),hb,hl])
  (fun k b s hs hb=>by
    have hk:=jM hs;have c1: (k:Int)< (x.servers.length:Int):=by omega
    have c2: (0:Int)<=(k:Int):=by omega
    have hup:Hs x k=s.up:=by unfold Hs; rw[hs]
    subst hb;simp only[kQ,ed,eh,if_pos c1,if_pos c2,aB,hs,ae,ex,hv,ef,dV (n:=5) (by decide) (by omega:k<5),if_pos (PZ (p:=Hs x) (k:=k) (by omega) (k:Int))];refine .inl ⟨xW (Hs x) (k+1),?_,rfl,trivial⟩;rw[Hr,hup];cases s.up
    ·simp;rfl
    ·rfl)
  0 [] (ay _) rfl
 unfold pf;rw[show vS (((),(),0,()),((x.now,x.servers,x.sides,x.master.configs,x.master.activated,x.masterUp,x.lease.epoch,x.lease.holder,x.lease.ends,x.places,()),()),([],()))=_ from gi];rfl
theorem pu {l:List Int} (hl:l.length<=maxLen) (hv:iX l=some (true,())):l.length=5:=by
 obtain⟨b,h1,h2⟩:=sP l hl;rw[hv] at h1;simp only[af,an,and_true] at h1;subst h1;unfold mU at h2;cases h: ((l.length:Int)==5) with
 |false=>rw[h] at h2; cases h2
 |true=>simp only[beq_iff_eq] at h; omega
theorem I0 (l:List Int) (hl:l.length=5) (hv:iX l=some (true,())):nL l=some (xW (uX l) 5,()):=by
 have gi:=ma (B:=jR) l (fun k (b:List Int)=>((l,(),(k:Int),()),(),(b,()))) (fun k b=>b=xW (uX l) k) (fun _ _ _=>(((),()),(),(xW (uX l) 5,())))
  (fun b hb=>by simp only[jR];rw[ed,if_neg (by omega),hb,hl])
  (fun k b s hs hb=>by
    have hk:=jM hs;have c1: (k:Int)< (l.length:Int):=by omega
    have c2: (0:Int)<=(k:Int):=by omega
    have hup:uX l k=(s==0):=by unfold uX; rw[hs]
    subst hb;simp only[jR,ed,eh,if_pos c1,if_pos c2,aB,hs,ae,hv,ef,dV (n:=5) (by decide) (by omega:k<5),if_pos (PZ (p:=uX l) (k:=k) (by omega) (k:Int))];refine .inl ⟨xW (uX l) (k+1),?_,rfl,trivial⟩;rw[Hr,hup];cases (s==0)
    ·simp;rfl
    ·rfl)
  0 [] (ay _) rfl
 unfold nL;rw[show uB ((l,(),0,()),(),([],()))=_ from gi];rfl
def Fq (x:dN) (k:Nat):Bool:=Hs x k&&uX x.sides k
theorem R4 (x:dN) (ok:fk 1048576 x) (hv:dT x=some (true,())):qK x=some (xW (Fq x) 5,()):=by have vc:=i8 ok hv;have hsl:=pu (eD ok.2.1) vc.sides;unfold qK;rw[Lf x vc.len hv,I0 x.sides hsl vc.sides];simp only[ae];rw[xT _ _ (J6 _ (aq 5)) (aO (J5 _ _) (by decide)),Pr];rfl
end Go.Proofs.YtadabkgmdllbfaaGreat.En
namespace Go.Proofs.YtadabkgmdllbfaaGreat.En
open Go
def I1 (x:dN) (a:Int):Int:=(x.sides[a.toNat]?).getD 0
theorem zO {x:dN} (ok:fk 1048576 x) (vc:VC x) {a:Int} (ha:0<=a/\a<5): ∃s,x.servers[a.toNat]? =some s/\gf 1048576 s/\eS s a=some (true,()):=by
 have hlt:a.toNat<x.servers.length:=by rw[vc.len]; omega
 refine⟨_,ah hlt,ok.1.2 _ (bw hlt),?_⟩;have:=vc.srv _ hlt
 rwa [Int.toNat_of_nonneg ha.1] at this
theorem rf (s:dQ) (id:Int) (h:gf 1048576 s): ∃b,gm s id=some (b,())/\rd s id=some (b,()):=by obtain⟨v,v1,v2⟩:=rA s id h;obtain⟨n,n1,n2,_⟩:=wR s.config id (eO h.1);unfold gm rd;simp only[v1,v2,n1,n2,ae];cases v<;>cases s.up<;>cases (n==1)<;>exact⟨_,rfl,rfl⟩
end Go.Proofs.YtadabkgmdllbfaaGreat.En
namespace Go.Proofs.YtadabkgmdllbfaaGreat.En
open Go
end Go.Proofs.YtadabkgmdllbfaaGreat.En
namespace Go.Proofs.YtadabkgmdllbfaaGreat.En
open Go
end Go.Proofs.YtadabkgmdllbfaaGreat.En
namespace Go.Proofs.YtadabkgmdllbfaaGreat.En
open Go
theorem P0 (x y:dY): ((x.epoch==y.epoch)&&((x.op.client==y.op.client)&&((x.op.seq==y.op.seq)&&((x.op.kind==y.op.kind)&&((x.op.object==y.op.object)&&((x.op.old==y.op.old)&&((x.op.value==y.op.value)&&true)))))))=decide (x=y):=by obtain⟨a,b,c,d,e,f,g⟩:=x;obtain⟨a',b',c',d',e',f',g'⟩:=y;rw[b8];simp[and_assoc]
theorem Nm (a b:List dY) (ha:a.length<=maxLen):jY a b=some (decide (a=b),()):=by
 unfold jY;rw[dS,wQ];split
 ·rename_i hl;have hl:a.length=b.length:=by omega
  rcases uW (B:=iT) a.length (fun k=>((a,b,(a.length:Int),(k:Int),()),(),())) (.inr (((),()),(),())) (fun _=> .inl ((false,()),(),())) (fun k=>decide (a[k]? ≠b[k]?))
   (by simp only[iT]; rw[ed,if_neg (by omega)])
   (fun k hk=>by
     have c1: (k:Int)< (a.length:Int):=by omega
     have c2: (0:Int)<=(k:Int):=by omega
     have hk':k<b.length:=by omega
     simp only[iT,P0,dS,ed,eh,if_pos c1,if_pos c2,aB,ah hk,ah hk',ae,dV ha hk];by_cases h:a[k] =b[k]<;>simp[h]) with ⟨k1,k2⟩| ⟨i,hi,k1,k2,_⟩
  ·rw[show oK ((a,b,(a.length:Int),0,()),(),())=_ from k1]
   have :a=b:=List.ext_getElem hl fun k h1 h2=>by have:=k2 k h1;rw[ah h1,ah h2] at this;simpa using this
   rw[decide_eq_true this];rfl
  ·rw[show oK ((a,b,(a.length:Int),0,()),(),())=_ from k1]
   have :a≠b:=fun h=>by rw[h] at k2;simp at k2
   rw[decide_eq_false this];rfl
 ·rename_i hl;have :a≠b:=fun h=>hl (by rw[h]);rw[decide_eq_false this]
theorem Fr (a b:List dY) (ha:a.length<=maxLen): ∃n:Nat,jS a b=some ((n:Int),())/\n<=a.length/\n<=b.length/\a.take n=b.take n/\(n<a.length->n<b.length->a[n]? ≠b[n]?):=by
 rcases uW (B:=ib) a.length (fun k=>((a,b,(k:Int),()),(),())) ((((a.length:Nat):Int),()),(),()) (fun k=>(((k:Int),()),(),())) (fun k=>decide (a[k]? ≠b[k]?))
  (by simp only[ib]; rw[ed,if_neg (by omega)])
  (fun k hk=>by
    have c1: (k:Int)< (a.length:Int):=by omega
    have c2: (0:Int)<=(k:Int):=by omega
    by_cases hk':k<b.length
    ·have c3: (k:Int)< (b.length:Int):=by omega
     simp only[ib,P0,ed,eh,if_pos c1,if_pos c2,if_pos c3,aB,ah hk,ah hk',ae,dV ha hk];by_cases h:a[k] =b[k]<;>simp[h]
    ·have c3: ¬ (k:Int)< (b.length:Int):=by omega
     simp only[ib,ed,if_pos c1,if_neg c3,ah hk,b6 (show b.length<=k by omega)];simp) with ⟨k1,k2⟩| ⟨i,hi,k1,k2,k3⟩
 ·have eq: ∀k,k<a.length->a[k]? =b[k]? :=fun k hk=>by simpa using k2 k hk
  have hl:a.length<=b.length:=by
   rcases be a.length with h|h
   ·omega
   ·have:=eq (a.length-1) (by omega);rw[ah (by omega)] at this;have:=jM this.symm;omega
  refine⟨a.length,?_,aq _,hl,?_,fun h=>absurd h (db _)⟩
  ·unfold jS;rw[show oH ((a,b,0,()),(),())=_ from k1];rfl
  ·refine bA fun k=> ?_;rw[bh,bh];split
   ·exact eq k (by assumption)
   ·rfl
 ·have eq: ∀k,k<i->a[k]? =b[k]? :=fun k hk=>by simpa using k3 k hk
  have hl:i<=b.length:=by
   rcases be i with h|h
   ·omega
   ·have:=eq (i-1) (by omega);rw[ah (by omega)] at this;have:=jM this.symm;omega
  refine⟨i,?_,by omega,hl,?_,fun _ _=>by simpa using k2⟩
  ·unfold jS;rw[show oH ((a,b,0,()),(),())=_ from k1];rfl
  ·refine bA fun k=> ?_;rw[bh,bh];split
   ·exact eq k (by assumption)
   ·rfl
end Go.Proofs.YtadabkgmdllbfaaGreat.En
namespace Go.Proofs.YtadabkgmdllbfaaGreat.En
open Go
theorem Ht (x:eZ):xn (oF x) (wP x):=by
 obtain⟨b,h1,h2⟩:=tE x;unfold oF wP;simp only[h1,h2,ae];cases b with
 |false=>simp only[Bool.not_false,ef];cases ((x.epoch==0)&&((x.holder==0)&&((x.ends==0)&&true)))<;>exact⟨_,rfl,rfl⟩
 |true=>
  simp only[cg,fC];cases he:x.ends==0 with
  |true=>
   cases hz: ((x.epoch==0)&&((x.holder==0)&&(true&&true))) with
   |true=>exact⟨_,rfl,rfl⟩
   |false=>
    exfalso;unfold kU at h2;rw[he,hz] at h2;simp only[fC,qc,ae] at h2
    have hw:kK x.ends 1 1049=false:=by rw[Bool.eq_false_iff];intro hw;have:=eG.1 hw;simp only[beq_iff_eq] at he;omega
    rw[hw] at h2;revert h2;cases kK x.epoch 1 20<;>cases kK x.holder 0 4<;>intro h2<;>cases h2
  |false=>
   have hz: ((x.epoch==0)&&((x.holder==0)&&(false&&true)))=false:=by cases x.epoch==0<;>cases x.holder==0<;>rfl
   rw[hz];exact⟨_,rfl,rfl⟩
theorem zP (x:eZ) (n:Int):xn (jE x n) (o3 x n):=by obtain⟨b,h1,h2⟩:=tE x;obtain⟨t,t1,t2⟩:=Ht x;unfold jE o3;simp only[h1,h2,t1,t2,gr,qc,ae];cases b<;>cases kK n 0 999<;>exact⟨_,rfl,rfl⟩
end Go.Proofs.YtadabkgmdllbfaaGreat.En
namespace Go.Proofs.YtadabkgmdllbfaaGreat.En
open Go
theorem zb {l:List eE} (hl:l.length<=maxLen) (hv:fo l=some (true,())):l.length=5:=by
 obtain⟨b,h1,h2⟩:=qm l hl;rw[hv] at h1;simp only[af,an,and_true] at h1;subst h1;unfold nj at h2;cases h: ((l.length:Int)==5) with
 |false=>rw[h] at h2; cases h2
 |true=>simp only[beq_iff_eq] at h; omega
end Go.Proofs.YtadabkgmdllbfaaGreat.En
namespace Go.Proofs.YtadabkgmdllbfaaGreat.En
open Go
theorem Cq (a b:List Int) (ha:rz a) (hb:b.length<=maxLen):fJ a b=some (a.filter fun x=> !decide (x∈b),()):=by
 have hl:=ha.len;have hm:a.length<=maxLen:=by unfold maxLen; omega
 have hp:=ha.pair
 have gi:=ma (B:=ia) a (fun k (out:List Int)=>((a,b,(),(k:Int),()),(),(out,()))) (fun k out=>out=(a.take k).filter fun x=> !decide (x∈b)) (fun k r out=>(((),()),(),(out++r.filter fun x=> !decide (x∈b),())))
  (fun out hb=>by simp only[ia];rw[ed,if_neg (by omega)];simp)
  (fun k out x hx hout=>by
    have hk:=jM hx;have c1: (k:Int)< (a.length:Int):=by omega
    have c2: (0:Int)<=(k:Int):=by omega
    have hxe:a[k] =x:=by rw[ah hk] at hx; exact Option.some.inj hx
    simp only[ia,dS,ed,eh,if_pos c1,if_pos c2,aB,hx,ae,(gb b x hb).1,dV hm hk];by_cases hin:x∈b
    ·simp only[if_pos hin];refine .inl ⟨out,rfl,?_,?_⟩
     ·rw[hout,bM,hx,ca];simp[hin]
     ·simp[hin]
    ·have hlt: ∀y∈out,y<x:=by
      intro y hy;rw[hout,cF] at hy;obtain⟨i,hi,he⟩:=aP hy.1;have hi':i<k:=by simp at hi; omega
      rw[dk] at he;rw[<-he,<-hxe];exact bW.1 hp i k (by omega) hk hi'
     have hol:out.length<=1000:=by rw[hout];have:=cX (fun x=> !decide (x∈b)) (a.take k);simp only[aZ] at this;omega
     simp only[if_neg hin,Fm out x hol hlt,ae];refine .inl ⟨out++ [x],rfl,?_,?_⟩
     ·rw[hout,bM,hx,ca];simp[hin]
     ·simp[hin])
  0 [] (ay _) rfl
 unfold fJ;rw[show qM ((a,b,(),0,()),(),([],()))=_ from gi];rfl
end Go.Proofs.YtadabkgmdllbfaaGreat.En
namespace Go.Proofs.YtadabkgmdllbfaaGreat.En
open Go
theorem uY {l:List Int} (h:SS l) (hr: ∀y∈l,0<=y/\y<5):rz l:=by intro k hk;have:=hr _ (bw hk);exact⟨by omega,fun h0=>bW.1 h _ _ (by omega) hk (by omega)⟩
theorem vx {l:List Int} (h:rz l):fZ l=some (true,())/\iC l=some (true,()):=by
 have hl:=h.len;have hm:l.length<=maxLen:=by unfold maxLen; omega
 obtain⟨_,_,h1,h2⟩:=Po (B1:=gG) (B2:=gO) l.length (fun k (_:Unit)=>((l,(k:Int),()),(),())) (fun k _=>((l,l,(l.length:Int),(k:Int),()),(),())) (fun _ _=>True) (fun _=> .inr (((),()),(),())) (fun _=> .inr (((),()),(),()))
  (fun _ _=>by simp only[gG,gO,ed];exact⟨if_neg (by omega),if_neg (by omega)⟩)
  (fun k _ hk _=>by
    have c1: (k:Int)< (l.length:Int):=by omega
    have c2: (0:Int)<=(k:Int):=by omega
    obtain⟨r1,r2⟩:=h k hk;have w:kK l[k] 0 4=true:=eG.2 r1;refine⟨(),?_⟩;simp only[gG,gO,ed,eh,if_pos c1,if_pos c2,aB,ah hk,ae,gr,qc,w,cg,fC,dV hm hk];by_cases h0:0<k
    ·have c3: (k:Int)>0:=by omega
     have c4: (0:Int)<=((k-1:Nat):Int):=by omega
     have e2:l[k-1]? =some l[k-1] :=ah (by omega);have:=r2 h0;simp only[if_pos c3,ov h0 (by omega),if_pos c4,aB,e2,ae,if_neg (show ¬l[k-1] ≥l[k] by omega),if_neg (show ¬l[k] <=l[k-1] by omega),and_self]
    ·simp only[if_neg (show ¬ (k:Int)>0 by omega),and_self])
  () trivial
 unfold fZ iC;rw[show nF ((l,0,()),(),())=_ from h1,show oa ((l,l,(l.length:Int),0,()),(),())=_ from h2];exact⟨rfl,rfl⟩
end Go.Proofs.YtadabkgmdllbfaaGreat.En
namespace Go.Proofs.YtadabkgmdllbfaaGreat.En
open Go
end Go.Proofs.YtadabkgmdllbfaaGreat.En
namespace Go.Proofs.YtadabkgmdllbfaaGreat.En
open Go
theorem R5 {m:dW} (h:rh 1048576 m) (hv:ft m=some (true,())):m.configs.length<=20:=by
 obtain⟨f,_,_⟩:=Fn (kV h) hv;rcases be m.configs.length with h0|h0
 ·omega
 ·have hk:m.configs.length-1<m.configs.length:=by omega
  obtain⟨f1,f2⟩:=f _ hk;have:=(xV (eO (h.2 _ (bw hk))) f1).2.2.2.2.1;omega
def pv (l:List dY):Nat:=l.length-3
theorem Nn (l:List dY) (hl:l.length<=1048576): (if IntKind.wrap .i64 ((l.length:Int)-3)>0 then IntKind.wrap .i64 ((l.length:Int)-3) else 0)=((pv l:Nat):Int):=by rw[eX (by omega) (by omega)];unfold pv;split<;>omega
end Go.Proofs.YtadabkgmdllbfaaGreat.En
namespace Go.Proofs.YtadabkgmdllbfaaGreat.En
open Go
end Go.Proofs.YtadabkgmdllbfaaGreat.En
namespace Go.Proofs.YtadabkgmdllbfaaGreat.En
open Go
end Go.Proofs.YtadabkgmdllbfaaGreat.En
namespace Go.Proofs.YtadabkgmdllbfaaGreat.En
open Go
end Go.Proofs.YtadabkgmdllbfaaGreat.En
namespace Go.Proofs.YtadabkgmdllbfaaGreat.En
open Go
end Go.Proofs.YtadabkgmdllbfaaGreat.En
namespace Go.Proofs.YtadabkgmdllbfaaGreat.En
open Go
abbrev fx (x:dN):Int×List dQ×List Int×List dR×Int×Int×Int×Int×Int×List eE×Unit:=(x.now,x.servers,x.sides,x.master.configs,x.master.activated,x.masterUp,x.lease.epoch,x.lease.holder,x.lease.ends,x.places,())
abbrev S8 (s:dQ):Bool×Bool×Int×Int×Int×Int×List Int×List Int×Int×List dY×Int×List dY×Unit:=(s.up,s.intact,s.version,s.epoch,s.config.epoch,s.config.primary,s.config.replicas,s.config.witnesses,s.first,s.log,s.commit,s.learned,())
structure R6 (x x':dN):Prop where
 sides:x'.sides=x.sides
 master:x'.master=x.master
 srv: ∀ (k:Nat) (s:dQ),x.servers[k]? =some s-> ∃e,x'.servers[k]? =some (⟨s.up,s.intact,s.version,e,s.config,s.first,s.log,s.commit,s.learned⟩:dQ)
theorem R6.refl (x:dN):R6 x x:=⟨rfl,rfl,fun _ s h=>⟨s.epoch,h⟩⟩
theorem R6.side {x x':dN} (h:R6 x x') (a:Int):I1 x' a=I1 x a:=by unfold I1; rw[h.sides]
section
variable {x x':dN} (ok:fk 1048576 x) (ok':fk 1048576 x') (hv:dT x=some (true,())) (hv':dT x'=some (true,())) (se:R6 x x') {id:Int} (hid:0<=id/\id<5)
include ok ok' hv hv' se hid
omit ok hv se in
theorem QU:fW x' id=some (true,()):=by obtain⟨v,w1,w2⟩:=gt x' ok';rw[hv'] at w1;simp only[af,an,and_true] at w1;subst w1;unfold fW;simp only[w2,ae,qc,eG.2 (show 0<=id/\id<=4 by omega),ef]
end
end Go.Proofs.YtadabkgmdllbfaaGreat.En
namespace Go.Proofs.YtadabkgmdllbfaaGreat.En
open Go
structure SV (m:dW) (s:dQ) (k:Int):Prop where
 val:eS s k=some (true,())
 ep:s.epoch<=(m.configs.length:Int)
 lrn: ∃e,ne s.learned=some (e,())/\e<=m.activated
 cfg:s.config=⟨0,0,[],[]⟩\/(iY m s.config.epoch=some (s.config,true,())/\s.config.epoch<=m.activated)
theorem QV (x:dN) (ok:fk 1048576 x) (k:Nat) (hk:k<x.servers.length):
  (SV x.master x.servers[k] (k:Int)/\ei (((),(k:Int),()),((x.now,x.servers,x.sides,x.master.configs,x.master.activated,x.masterUp,x.lease.epoch,x.lease.holder,x.lease.ends,x.places,()),()),())=some (.inl (((),((k+1:Nat):Int),()),((x.now,x.servers,x.sides,x.master.configs,x.master.activated,x.masterUp,x.lease.epoch,x.lease.holder,x.lease.ends,x.places,()),()),())))\/
  (¬SV x.master x.servers[k] (k:Int)/\ei (((),(k:Int),()),((x.now,x.servers,x.sides,x.master.configs,x.master.activated,x.masterUp,x.lease.epoch,x.lease.holder,x.lease.ends,x.places,()),()),())=some (.inr (.inl ((false,()),(),())))):=by
 obtain⟨⟨hs1,hs2⟩,hsd,hml,hpl⟩:=ok;have hm:=eD hs1;have c1: (k:Int)< (x.servers.length:Int):=by omega
 have c2: (0:Int)<=(k:Int):=by omega
 have hsk:=hs2 _ (bw hk);obtain⟨b,v1,v2⟩:=rA x.servers[k] (k:Int) hsk;obtain⟨n,n1,n2⟩:=sQ x.servers[k].learned (eD hsk.2.2);obtain⟨c,d,d1,d2,d3⟩:=xU x.master x.servers[k].config.epoch hml;have hcfg:=eO hsk.1
 simp only[ei,ed,eh,if_pos c1,if_pos c2,aB,ah hk,ae,v1,n1,dV hm hk,dS,
  show (⟨x.master.configs,x.master.activated⟩:dW)=x.master from rfl,d1,vu _ hcfg,(gR c x.servers[k].config d3).1]
 cases b with
 |false=>exact .inr ⟨(fun h=>(by have h:=v1.symm.trans h.val; cases h)),rfl⟩
 |true=>
  simp only[ef];by_cases h1:x.servers[k].epoch>(x.master.configs.length:Int)
  ·simp only[if_pos h1];exact .inr ⟨fun h=>by have:=h.ep; omega,trivial⟩
  ·simp only[if_neg h1];by_cases h2:n>x.master.activated
   ·simp only[if_pos h2];refine .inr ⟨fun h=> ?_,trivial⟩;obtain⟨e,e1,e2⟩:=h.lrn;rw[n1] at e1;simp only[af,an,and_true] at e1;omega
   ·simp only[if_neg h2];by_cases h3:x.servers[k].config=⟨0,0,[],[]⟩
    ·simp only[if_pos h3];exact .inl ⟨⟨v1,by omega,⟨n,n1,by omega⟩, .inl h3⟩,trivial⟩
    ·simp only[if_neg h3];cases d with
     |false=>
      refine .inr ⟨fun h=> ?_,rfl⟩;rcases h.cfg with h| ⟨h,_⟩
      ·exact h3 h
      ·rw[d1] at h;cases h
     |true=>
      simp only[ef];by_cases h4:c=x.servers[k].config
      ·simp only[if_pos h4];by_cases h5:x.servers[k].config.epoch>x.master.activated
       ·simp only[if_pos h5];refine .inr ⟨fun h=> ?_,trivial⟩;rcases h.cfg with h| ⟨_,h⟩
        ·exact h3 h
        ·omega
       ·simp only[if_neg h5];exact .inl ⟨⟨v1,by omega,⟨n,n1,by omega⟩, .inr ⟨by rw[d1,h4],by omega⟩⟩,trivial⟩
      ·simp only[if_neg h4];refine .inr ⟨fun h=> ?_,trivial⟩;rcases h.cfg with h| ⟨h,_⟩
       ·exact h3 h
       ·rw[d1] at h;simp only[af,an,and_true] at h;exact h4 h
theorem I2 (x:dN) (ok:fk 1048576 x):
  ((∀k (hk:k<x.servers.length),SV x.master x.servers[k] (k:Int))/\hZ (((),0,()),((x.now,x.servers,x.sides,x.master.configs,x.master.activated,x.masterUp,x.lease.epoch,x.lease.holder,x.lease.ends,x.places,()),()),())=some (.inr (((),()),(),())))\/
  ((∃k,∃hk:k<x.servers.length,¬SV x.master x.servers[k] (k:Int))/\hZ (((),0,()),((x.now,x.servers,x.sides,x.master.configs,x.master.activated,x.masterUp,x.lease.epoch,x.lease.holder,x.lease.ends,x.places,()),()),())=some (.inl ((false,()),(),()))):=by
 have gi:=nC (B1:=ei) (B2:=ei) x.servers.length (fun k=>(((),(k:Int),()),((x.now,x.servers,x.sides,x.master.configs,x.master.activated,x.masterUp,x.lease.epoch,x.lease.holder,x.lease.ends,x.places,()),()),())) (fun k=>(((),(k:Int),()),((x.now,x.servers,x.sides,x.master.configs,x.master.activated,x.masterUp,x.lease.epoch,x.lease.holder,x.lease.ends,x.places,()),()),())) (.inr (((),()),(),())) (.inr (((),()),(),())) (fun _=> .inl ((false,()),(),())) (fun _=> .inl ((false,()),(),()))
  (fun k=> ∀hk:k<x.servers.length,SV x.master x.servers[k] (k:Int)) (fun k=> ∃hk:k<x.servers.length,¬SV x.master x.servers[k] (k:Int))
  (by simp only[ei]; rw[ed,if_neg (by omega)])
  (by simp only[ei]; rw[ed,if_neg (by omega)])
  (fun k hk=>by
    rcases QV x ok k hk with ⟨h1,h2⟩| ⟨h1,h2⟩
    ·exact .inl ⟨h2,h2,fun _=>h1⟩
    ·exact .inr ⟨h2,h2,hk,h1⟩)
 rcases gi with ⟨k1,_,k3⟩| ⟨k,hk,k1,_,k3⟩
 ·exact .inl ⟨fun k hk=>k3 k hk hk,k1⟩
 ·exact .inr ⟨⟨k,k3⟩,k1⟩
theorem P1 {x:dN} (ok:fk 1048576 x) (hv:dT x=some (true,())): ∀k (hk:k<x.servers.length),SV x.master x.servers[k] (k:Int):=by
 rcases I2 x ok with ⟨h,_⟩| ⟨_,h⟩
 ·exact h
 ·exfalso;obtain⟨b1,a1,_⟩:=sP x.sides (eD ok.2.1);obtain⟨b2,m1,_⟩:=masterLog x.master (kV ok.2.2.1);obtain⟨b3,l1,_⟩:=tE x.lease;obtain⟨b4,p1,_⟩:=qm x.places (eD ok.2.2.2);unfold dT at hv;simp only[gr,a1,m1,l1,p1,ae,h,cU] at hv;revert hv;cases kK x.now 0 999<;>cases ((x.servers.length:Int)==5)<;>cases b1<;>cases b2<;>cases kK x.masterUp 0 3<;>cases b3<;>cases b4<;>cases decide (x.lease.epoch>x.master.activated)<;>intro hv<;>cases hv
theorem QW {x:dN} (ok:fk 1048576 x) (hv:dT x=some (true,())) (S:List dQ) (hl:S.length=x.servers.length) (hok: ∀s∈S,gf 1048576 s) (hS: ∀k (hk:k<S.length),SV x.master S[k] (k:Int)):
  fk 1048576 ⟨x.now,S,x.sides,x.master,x.masterUp,x.lease,x.places⟩/\dT ⟨x.now,S,x.sides,x.master,x.masterUp,x.lease,x.places⟩=some (true,()):=by
 have ok2:fk 1048576 ⟨x.now,S,x.sides,x.master,x.masterUp,x.lease,x.places⟩:=⟨⟨by show S.length<=_; rw[hl]; exact ok.1.1,hok⟩,ok.2.1,ok.2.2.1,ok.2.2.2⟩
 refine⟨ok2,?_⟩;rcases I2 x ok with ⟨_,h1⟩| ⟨⟨k,hk,h0⟩,_⟩
 ·rcases I2 ⟨x.now,S,x.sides,x.master,x.masterUp,x.lease,x.places⟩ ok2 with ⟨_,h2⟩| ⟨⟨k,hk,h0⟩,_⟩
  ·have hv':=hv;unfold dT at hv' ⊢;rw[h1] at hv';rw[h2];simp only[hl];exact hv'
  ·exact absurd (hS k hk) h0
 ·exact absurd (P1 ok hv k hk) h0
theorem SV.old {m:dW} {s:dQ} {k:Int} (h:SV m s k) (hm:rh 1048576 m) (hv:ft m=some (true,())):s.config.epoch<=(m.configs.length:Int):=by
 obtain⟨_,f2,f3⟩:=Fn (kV hm) hv;rcases h.cfg with h| ⟨_,h⟩
 ·rw[h];show (0:Int)<=_;omega
 ·omega
end Go.Proofs.YtadabkgmdllbfaaGreat.En
namespace Go.Proofs.YtadabkgmdllbfaaGreat.En
open Go
abbrev P2 (x:dN) (S:List dQ):dN:=⟨x.now,S,x.sides,x.master,x.masterUp,x.lease,x.places⟩
end Go.Proofs.YtadabkgmdllbfaaGreat.En
namespace Go.Proofs.YtadabkgmdllbfaaGreat.En
open Go
end Go.Proofs.YtadabkgmdllbfaaGreat.En
namespace Go.Proofs.YtadabkgmdllbfaaGreat.En
open Go
theorem rz.filter {l:List Int} (h:rz l) (p:Int->Bool):rz (l.filter p):=by refine uY (h.pair.filter p) fun y hy=> ?_;obtain⟨k,hk,rfl⟩:=aP (cF.1 hy).1;have:=(h k hk).1;omega
theorem J7:rz [0,1,2,3,4] :=by refine uY (by simp[SS]) fun y hy=> ?_;simp at hy;omega
end Go.Proofs.YtadabkgmdllbfaaGreat.En
namespace Go.Proofs.YtadabkgmdllbfaaGreat.En
open Go
theorem I3 (l:eZ) (e h n t:Int): ∃r b,nK l e h n t=some (r,b,())/\xR l e h n t=some (r,b,()):=by obtain⟨b,h1,h2⟩:=tE l;obtain⟨q,q1,q2⟩:=zP l n;unfold nK xR;simp only[h1,h2,q1,q2,gr,qc,ae];cases (l.epoch==e)<;>cases b<;>cases kK e 1 20<;>cases kK h 0 4<;>cases kK n 0 999<;>cases kK t 1 50<;>cases (l.holder==h)<;>cases q<;>exact⟨_,_,rfl,rfl⟩
end Go.Proofs.YtadabkgmdllbfaaGreat.En
namespace Go.Proofs.YtadabkgmdllbfaaGreat.En
open Go
def wS:List ej->Int->Nat
 | [],_=>0
 |x::l,c=>if x.client<c then wS l c+1 else 0
theorem Ps (l:List ej) (c:Int):wS l c<=l.length:=by
 induction l with
 |nil=>exact aq _
 |cons x l ih=>
  unfold wS;split
  ·simp only[bz]; omega
  ·exact ay _
theorem Pt {l:List ej} {c:Int} (h: ∃x∈l,x.client=c):wS l c<l.length:=by
 induction l with
 |nil=>obtain⟨x,hx,_⟩:=h; cases hx
 |cons y l ih=>
  unfold wS;split
  ·rename_i hy;obtain⟨x,hx,hc⟩:=h;rcases bc.1 hx with rfl|hx
   ·omega
   ·have:=ih ⟨x,hx,hc⟩;simp only[bz]; omega
  ·simp
theorem S9 (b d:Bool) (v:Int) (o:Op) (objs:List Int) (l:List ej) (hl:l.length<=1000):pW (((),(),(),(),b,(),0,()),((o.client,o.seq,o.kind,o.object,o.old,o.value,()),((),(),()),(false,0,()),((),(),()),(d,v,()),()),objs,l,())=
  some (((),(),(),(),b,(),((wS l o.client:Nat):Int),()),((o.client,o.seq,o.kind,o.object,o.old,o.value,()),((),(),()),(false,0,()),((),(),()),(d,v,()),()),objs,l,()):=by
 have ml:l.length<=maxLen:=by unfold maxLen; omega
 have gi:=ma (B:=lQ) l (fun k (_:Unit)=>(((),(),(),(),b,(),(k:Int),()),((o.client,o.seq,o.kind,o.object,o.old,o.value,()),((),(),()),(false,0,()),((),(),()),(d,v,()),()),objs,l,())) (fun _ _=>True)
  (fun k r _=>(((),(),(),(),b,(),((k+wS r o.client:Nat):Int),()),((o.client,o.seq,o.kind,o.object,o.old,o.value,()),((),(),()),(false,0,()),((),(),()),(d,v,()),()),objs,l,()))
  (fun _ _=>by simp only[lQ]; rw[ed,if_neg (by omega)]; rfl)
  (fun k _ x hx _=>by
    have hk:=jM hx;have c1: (k:Int)< (l.length:Int):=by omega
    have c2: (0:Int)<=(k:Int)/\(k:Int)< (l.length:Int):=by omega
    simp only[lQ,ed,eh,if_pos c1,if_pos c2,aB,hx,ae,dV ml hk];by_cases h:x.client<o.client
    ·rw[if_pos h];refine .inl ⟨(),rfl,trivial,?_⟩;rw[wS,if_pos h,show k+(wS (l.drop (k+1)) o.client+1)=k+1+wS (l.drop (k+1)) o.client by omega]
    ·rw[if_neg h];refine .inr ?_;rw[wS,if_neg h];rfl) 0 () (ay _) trivial
 simp only[aR,bK] at gi;exact gi
theorem J8 {o:Op} (h:fe o=some (true,())):0<=o.object/\o.object<=2:=by
 unfold fe at h;simp only[gr,ae] at h;cases h1:kK o.client 0 2 with
 |false=>rw[h1] at h; cases h
 |true=>
  cases h2:kK o.seq 1 99 with
  |false=>rw[h1,h2] at h; cases h
  |true=>
   cases h3:kK o.object 0 2 with
   |false=>rw[h1,h2,h3] at h; cases h
   |true=>exact eG.1 h3
def QX (o:Op):Bool:=match fe o with |some (b,_)=>b|none=>false
theorem tF (o:Op):fe o=some (QX o,()):=by obtain⟨b,h,_⟩:=J3 o;unfold QX;rw[h]
def Pu (l:List dY) (k:Nat):Bool:=match l[k]? with
 |some e=>kK e.epoch 1 20&&(QX e.op&&(decide (k=0)||match l[k-1]? with |some d=> !decide (d.epoch>e.epoch)|none=>false))
 |none=>false
theorem Np (l:List dY) (hl:l.length<=maxLen):gJ l=some (true,())↔l.length<=16/\ ∀k,k<l.length->Pu l k=true:=by
 have gi:=uW (B:=lP) l.length (fun k=>((l,(k:Int),()),(),())) (.inr ((l,(),()),(),())) (fun _=> .inl ((l,false,()),(),())) (fun k=> !Pu l k)
  (by simp only[lP]; rw[ed,if_neg (by omega)])
  (fun k hk=>by
    have c1: (k:Int)< (l.length:Int):=by omega
    have c2: (0:Int)<=(k:Int):=by omega
    simp only[lP,ed,eh,if_pos c1,if_pos c2,aB,ah hk,ae,tF,gr,dV hl hk,dS,Pu];cases kK l[k].epoch 1 20 with
    |false=>rfl
    |true=>
     cases QX l[k].op with
     |false=>rfl
     |true=>
      by_cases h0:0<k
      ·have c3: (k:Int)>0:=by omega
       have c4: (0:Int)<=((k-1:Nat):Int):=by omega
       have c5: ¬k=0:=by omega
       have e2:l[k-1]? =some l[k-1] :=ah (by omega);simp only[ef,if_pos c3,ov h0 (by omega),if_pos c4,aB,e2,ae,decide_eq_false c5,dq,ch,Bool.not_not];by_cases hlt:l[k-1].epoch>l[k].epoch
       ·rw[if_pos hlt,decide_eq_true hlt];rfl
       ·rw[if_neg hlt,decide_eq_false hlt];rfl
      ·have c3: ¬ (k:Int)>0:=by omega
       have c5:k=0:=by omega
       simp only[ef,if_neg c3,decide_eq_true c5];rfl)
 unfold gJ;rcases gi with ⟨k1,k2⟩| ⟨k,h0,k1,k2,_⟩
 ·rw[show sg ((l,0,()),(),())=_ from k1];simp only[ae,cO,af,an,and_true,decide_eq_true_eq];constructor
  ·intro h;exact⟨by omega,fun k hk=>by simpa using k2 k hk⟩
  ·intro h;omega
 ·rw[show sg ((l,0,()),(),())=_ from k1];simp only[ae,cU,af,an,and_true];constructor
  ·intro h;cases h
  ·rintro⟨_,h⟩
   have:=h k h0;rw[this] at k2;cases k2
structure VM (m:fG):Prop where
 vlen:m.objects.length=3
 vobj: ∀v∈m.objects,kK v 0 9=true
 vses: ∀x∈m.sessions,kK x.client 0 2=true/\kK x.seq 1 99=true/\kK x.result.value 0 9=true
 vasc:m.sessions.Pairwise fun x y=>x.client<y.client
theorem QY {o:Op} (h:QX o=true):kK o.client 0 2=true/\kK o.seq 1 99=true/\kK o.value 0 9=true:=by
 have h0:fe o=some (true,()):=by rw[tF,h]
 unfold fe at h0;simp only[gr,ae] at h0;cases h1:kK o.client 0 2 with
 |false=>rw[h1] at h0; cases h0
 |true=>
  cases h2:kK o.seq 1 99 with
  |false=>rw[h1,h2] at h0; cases h0
  |true=>
   cases h3:kK o.object 0 2 with
   |false=>rw[h1,h2,h3] at h0; cases h0
   |true=>
    cases h4:kK o.value 0 9 with
    |false=>rw[h1,h2,h3,h4] at h0; cases h0
    |true=>exact⟨rfl,rfl,rfl⟩
end Go.Proofs.YtadabkgmdllbfaaGreat.En
namespace Go.Proofs.YtadabkgmdllbfaaGreat.En
open Go
theorem vy (x:dN) (ok:fk 1048576 x) (id:Int): ∃b,ig x id=some (b,())/\o2 x id=some (b,())/\(b=true->dT x=some (true,())/\0<=id/\id<5/\ ∀s,x.servers[id.toNat]? =some s->gm s id=some (true,())):=by
 obtain⟨v,v1,v2⟩:=gt x ok;cases v with
 |false=>
  refine⟨false,?_,?_,nofun⟩
  ·unfold ig; simp only[v1,ae,fC]
  ·unfold o2 fW; simp only[v2,ae,fC]
 |true=>
  cases hw:kK id 0 4 with
  |false=>
   refine⟨false,?_,?_,nofun⟩
   ·unfold ig; simp only[v1,gr,hw,ae,ef,fC]
   ·unfold o2 fW; simp only[v2,qc,hw,ae,ef,fC]
  |true=>
   have hid:=eG.1 hw;obtain⟨s,s1,s2,s3⟩:=zO ok (i8 ok v1) (a:=id) (by omega);obtain⟨b,b1,b2⟩:=rf s id s2;refine⟨b,?_,?_,fun hb=>⟨v1,hid.1,by omega,fun s' hs=> ?_⟩⟩
   ·unfold ig; simp only[v1,gr,hw,ae,ef,eh,if_pos hid.1,s1,b1]
   ·unfold o2 fW; simp only[v2,qc,hw,ae,ef,eh,if_pos hid.1,s1,b2]
   ·rw[s1] at hs;obtain rfl:=Option.some.inj hs;rw[b1,hb]
theorem Nq (l:List dY) (hl:l.length<=1048576) (hv:gJ l=some (true,())):uz l=some (((pv l:Nat):Int),l.drop (pv l),()):=by
 unfold uz vp;have hc:pv l<=l.length:=by unfold pv; omega
 have c1: (0:Int)<=((pv l:Nat):Int)/\((pv l:Nat):Int)<=(l.length:Int)/\(l.length:Int)<=(l.length:Int):=by omega
 have ht: ((l.drop (pv l)).take (l.length-pv l))=l.drop (pv l):=bJ (by simp);simp only[hv,ae,cg,fC,Nn l hl,eh,if_pos c1,aB,ht,(vw (l.drop (pv l)) (by simp; omega)).1]
end Go.Proofs.YtadabkgmdllbfaaGreat.En
namespace Go.Proofs.YtadabkgmdllbfaaGreat.En
open Go
def Tt {α:Type} (Q:α->Prop) (r:Option α):Prop:= ∃a,r=some a/\Q a
section
variable {α β σ ε:Type} {Q:α->Prop} {Q':β->Prop}
theorem Tt.ret {a:α} (h:Q a):Tt Q (some a):=⟨a,rfl,h⟩
theorem Tt.bind {r:Option α} {k:α->Option β} (h:Tt Q r) (hk: ∀a,Q a->Tt Q' (k a)):Tt Q' (r.bind k):=by obtain⟨a,rfl,h⟩:=h;exact hk a h
theorem Tt.mono {Q2:α->Prop} {r:Option α} (h:Tt Q r) (hq: ∀a,Q a->Q2 a):Tt Q2 r:=h.imp fun _ h=>⟨h.1,hq _ h.2⟩
theorem Tt.ip {p:Prop} {d:Decidable p} {x y:Option α} (hp:p) (h:Tt Q x):Tt Q (@iteP _ p d x y):=by rw[hQ hp];exact h
theorem Tt.br {b:Bool} {x y:Option α} (h1:b=true->Tt Q x) (h2:b=false->Tt Q y):Tt Q (br b x y):=by
 cases b with
 |true=>exact h1 rfl
 |false=>exact h2 rfl
theorem Tt.get {γ:Type} {l:List γ} {i:Nat} {k:γ->Option α} (hi:i<l.length) (h: ∀x,l[i]? =some x->x∈l->Tt Q (k x)):Tt Q ((l[i]?).bind k):=by rw[ah hi];exact h _ (ah hi) (bw hi)
theorem Tt.loop {B:σ->Option (σ⊕ε)} {E:ε->Prop} (I:σ->Prop) (μ:σ->Nat) (h: ∀s,I s->Tt (Sum.elim (fun s'=>I s'/\μ s'<μ s) E) (B s)) {s:σ} (hs:I s):Tt E (gV B s):=
 xm I μ E (fun s hs=>by
  obtain⟨r,h1,h2⟩:=h s hs;cases r with
  |inl s'=>exact .inl ⟨s',h1,h2.1,h2.2⟩
  |inr e=>exact .inr ⟨e,h1,h2⟩) hs
theorem Tt.go {p:Prop} [Decidable p] {x y:Option α} (hp:p) (h:Tt Q x):Tt Q (Go.Proofs.YtadabkgmdllbfaaGreat.En.br (decide p) x y):=by rw[ed,if_pos hp];exact h
theorem Tt.end {p:Prop} [Decidable p] {x y:Option α} (hp: ¬p) (h:Tt Q y):Tt Q (Go.Proofs.YtadabkgmdllbfaaGreat.En.br (decide p) x y):=by rw[ed,if_neg hp];exact h
theorem Tt.count {B:σ->Option (σ⊕ε)} {E:ε->Prop} (n:Nat) (m:Nat->β->σ) (J:Nat->β->Prop) (h0: ∀b,J n b->Tt (Sum.elim (fun _=>False) E) (B (m n b)))
  (h1: ∀k b,k<n->J k b->Tt (Sum.elim (fun s=> ∃b',s=m (k+1) b'/\J (k+1) b') E) (B (m k b))) (b:β) (hb:J 0 b):Tt E (gV B (m 0 b)):=by
 have go: ∀ (d k:Nat) (b:β),k+d=n->J k b->Tt E (gV B (m k b)):=by
  intro d
  induction d with
  |zero=>
   intro k b hk hb;obtain rfl:k=n:=hk;obtain⟨r,e1,e2⟩:=h0 b hb;cases r with
   |inl s=>exact e2.elim
   |inr e=>exact⟨e,by rw[qA,e1]; rfl,e2⟩
  |succ d ih=>
   intro k b hk hb;obtain⟨r,e1,e2⟩:=h1 k b (by omega) hb;cases r with
   |inl s=>obtain⟨b',rfl,hb'⟩:=e2;rw[qA,e1];exact ih (k+1) b' (by omega) hb'
   |inr e=>exact⟨e,by rw[qA,e1]; rfl,e2⟩
 exact go n 0 b (aR n) hb
end
abbrev T1 {α:Type} (_:α):Prop:=True
theorem o5 {l:List Int} (ha:rz l): ∀y∈l,0<=y/\y<5:=by intro y hy;obtain⟨k,hk,rfl⟩:=aP hy;have:=(ha k hk).1;omega
theorem sR (c:dR) (h:iJ maxLen c):Tt (fun y=>y.1.length<=10/\ ∀z∈y.1,0<=z/\z<5) (gA c):=by obtain⟨v,v1,_⟩:=pq c h;unfold gA;rw[v1,ae,dS];refine .br (fun e=> ?_) fun _=> .ret ⟨ay _,nofun⟩;subst e;obtain⟨a1,a2,_⟩:=xV h v1;have l1:=a1.len;have l2:=a2.len;obtain⟨r,r1,_,r4,r5⟩:=Nl c.replicas c.witnesses (by omega) (by omega);rw[r1];exact .ret ⟨by show r.length<=10; omega,fun z hz=>((r4 z).1 hz).elim (o5 a1 z) (o5 a2 z)⟩
theorem Hu {x:dN} (ok:fk 1048576 x) (vc:VC x) (a b:Int):Tt T1 (iu x.sides a b):=by have h5:=pu (eD ok.2.1) vc.sides;unfold iu;simp only[vc.sides,gr,ae,ef];refine .br (fun ha=> .br (fun hb=> ?_) fun _=> .ret trivial) fun _=> .ret trivial;have ha:=eG.1 ha;have hb:=eG.1 hb;exact .ip ha.1 (.get (by omega) fun _ _ _=> .ip hb.1 (.get (by omega) fun _ _ _=> .ret trivial))
theorem Tt.srv {α:Type} {Q:α->Prop} {x:dN} (ok:fk 1048576 x) (vc:VC x) {a:Int} (ha:0<=a/\a<5) {k:dQ->Option α} (h: ∀s,x.servers[a.toNat]? =some s->gf 1048576 s->eS s a=some (true,())->Tt Q (k s)):Tt Q (iteP (0<=a) ((x.servers[a.toNat]?).bind k) none):=by obtain⟨s,s1,s2,s3⟩:=zO ok vc ha;refine .ip ha.1 ?_;rw[s1];exact h s s1 s2 s3
theorem Nr {x:dN} (ok:fk 1048576 x) (vc:VC x) {a b:Int} (ha:0<=a/\a<5) (hb:0<=b/\b<5):Tt T1 (oD x a b):=by unfold oD;refine .srv ok vc hb fun m m1 m2 _=> .bind (Hu ok vc a b) fun _ _=> .br (fun _=> .br (fun _=> .srv ok vc ha fun p p1 p2 _=> .br (fun _=> .srv ok vc ha fun _ _ _ _=> .br (fun _=> .srv ok vc ha fun q _ _ _=> ?_) fun _=> .ret trivial) fun _=> .ret trivial) fun _=> .ret trivial) fun _=> .ret trivial;rw[(gR m.config q.config (eO m2.1)).1];exact .ret trivial
theorem uZ {l:List dY} (h:l.length<=maxLen): ∃b,gJ l=some (b,())/\(b=true->l.length<=16):=by
 rcases Hp l h with ⟨h1,_,h2⟩| ⟨h1,_⟩
 ·exact⟨true,h1,fun _=>h2⟩
 ·exact⟨false,h1,nofun⟩
theorem xX {l:List dY} (h:l.length<=1048576):ij l=some (l,()):=(vw l h).1
theorem P3 (l:List dY) (c q:Int) (hl:l.length<=maxLen):Tt (fun y=>y.1= -1\/0<=y.1/\y.1< (l.length:Int)) (sn l c q):=by
 unfold sn;refine .bind (.count (B:=oA) (E:=Sum.elim (fun y=>0<=y.1.1/\y.1.1< (l.length:Int)) fun _=>True) l.length (fun k (_:Unit)=>((l,c,q,(k:Int),()),(),())) (fun _ _=>True) (fun _ _=> ?_) (fun k _ hk _=> ?_) () trivial) fun y hy=> ?_
 ·unfold oA;simp only[ed];rw[if_neg (by omega)];exact .ret trivial
 ·unfold oA;simp only[ed];rw[if_pos (by omega)];refine .ip (by omega) (.get (by omega) fun _ _ _=> .br (fun _=> .ip (by omega) (.get (by omega) fun _ _ _=> .br (fun _=> .ret ?_) fun _=> .ret ⟨(),by rw[dV hl hk],trivial⟩)) fun _=> .ret ⟨(),by rw[dV hl hk],trivial⟩);exact⟨by show (0:Int)<=k; omega,by show (k:Int)<_; omega⟩
 ·cases y with
  |inl y=>exact .ret (.inr hy)
  |inr y=>exact .ret (.inl rfl)
end Go.Proofs.YtadabkgmdllbfaaGreat.En
namespace Go.Proofs.YtadabkgmdllbfaaGreat.En
open Go
theorem u3 {l:List dQ} (h:l.length<=1048576/\ ∀s∈l,gf 1048576 s) {s:dQ} (hs:gf 1048576 s) (i:Nat): (l.set i s).length<=1048576/\ ∀s'∈l.set i s,gf 1048576 s':=
 ⟨by rw[bg]; exact h.1,fun s' hm=>(cd hm).elim (h.2 s') fun e=>e ▸ hs⟩
theorem QZ (x:dN) (ok:fk 1048576 x) (id:Int): ∃y n,iH x id=some (y,n,())/\fk 1048576 y/\y.servers.length=x.servers.length:=by
 obtain⟨b,b1,_,b2⟩:=za x id ok;unfold iH;simp only[(gp x ok).1,b1,ae,dS];cases b with
 |false=>exact⟨x,1,rfl,ok,rfl⟩
 |true=>
  obtain⟨hv,h0,h5⟩:=b2 rfl;obtain⟨s,s1,_⟩:=zO ok (i8 ok hv) ⟨h0,h5⟩;have hlt:=jM s1;have hs:=ok.1.2 s (au s1);simp only[ef,eh,if_pos h0,s1,ae];rw[if_pos ⟨h0,by omega⟩];cases s.up with
  |false=>exact⟨x,2,rfl,ok,rfl⟩
  |true=>exact⟨_,0,rfl,⟨u3 ok.1 (show gf 1048576 ⟨false,s.intact,s.version,s.epoch,s.config,s.first,s.log,s.commit,s.learned⟩ from hs) _,ok.2⟩,bg⟩
theorem Ns (x:dN) (ok:fk 1048576 x) (id:Int): ∃y n,kE x id=some (y,n,())/\fk 1048576 y/\y.servers.length=x.servers.length:=by
 obtain⟨b,b1,_,b2⟩:=za x id ok;unfold kE;simp only[(gp x ok).1,b1,ae,dS];cases b with
 |false=>exact⟨x,1,rfl,ok,rfl⟩
 |true=>
  obtain⟨hv,h0,h5⟩:=b2 rfl;obtain⟨s,s1,_⟩:=zO ok (i8 ok hv) ⟨h0,h5⟩;have hlt:=jM s1;have hs:=ok.1.2 s (au s1);simp only[ef,eh,if_pos h0,s1,ae];rw[if_pos ⟨h0,by omega⟩];cases s.up with
  |true=>exact⟨x,1,rfl,ok,rfl⟩
  |false=>exact⟨_,0,rfl,⟨u3 ok.1 (show gf 1048576 ⟨true,s.intact,s.version,s.epoch,s.config,s.first,s.log,s.commit,s.learned⟩ from hs) _,ok.2⟩,bg⟩
theorem R7 (x:dN) (ok:fk 1048576 x) (id:Int): ∃y n,lA x id=some (y,n,())/\fk 1048576 y/\y.servers.length=x.servers.length:=by
 obtain⟨b,b1,_,b2⟩:=za x id ok;unfold lA;simp only[(gp x ok).1,b1,ae,dS];cases b with
 |false=>exact⟨x,1,rfl,ok,rfl⟩
 |true=>obtain⟨hv,h0,h5⟩:=b2 rfl;obtain⟨s,s1,_⟩:=zO ok (i8 ok hv) ⟨h0,h5⟩;have hlt:=jM s1;simp only[ef,eh,if_pos h0,s1,ae,nU];rw[if_pos ⟨h0,by omega⟩];exact⟨_,0,rfl,⟨u3 ok.1 ⟨⟨ay _,ay _⟩,ay _,ay _⟩ _,ok.2⟩,bg⟩
theorem Nt (x:dN) (ok:fk 1048576 x) (n:Int): ∃y k,js x n=some (y,k,())/\fk 1048576 y/\y.servers.length=x.servers.length:=by
 obtain⟨v,v1,_⟩:=gt x ok;unfold js;simp only[(gp x ok).1,v1,gr,ae,dS];cases v with
 |false=>exact⟨x,1,rfl,ok,rfl⟩
 |true=>
  simp only[ef];cases kK n 0 3 with
  |false=>exact⟨x,1,rfl,ok,rfl⟩
  |true=>exact⟨_,0,rfl,ok,rfl⟩
theorem R8 (x:dN) (ok:fk 1048576 x) (a b:Int): ∃y k,jr x a b=some (y,k,())/\fk 1048576 y/\y.servers.length=x.servers.length:=by
 obtain⟨v,v1,_⟩:=gt x ok;obtain⟨u,u1,_⟩:=sP x.sides (eD ok.2.1)
 have hm: ∃l t,mS x.sides a b=some (l,t,())/\l.length=x.sides.length:=by
  unfold mS;simp only[aY,eh,u1,gr,ae,dS];rw[if_pos (show x.sides.length*8<=2 ^ 40 by have:=ok.2.1; omega)];cases u with
  |false=>exact⟨_,_,rfl,rfl⟩
  |true=>
   simp only[ef];cases hw:kK a 0 4 with
   |false=>exact⟨_,_,rfl,rfl⟩
   |true=>
    simp only[ef];cases kK b 0 3 with
    |false=>exact⟨_,_,rfl,rfl⟩
    |true=>have hw:=eG.1 hw;have hl:=pu (eD ok.2.1) u1;simp only[ef];rw[if_pos ⟨hw.1,by omega⟩,ah (by omega)];exact⟨_,_,rfl,bg⟩
 obtain⟨l,t,l1,l2⟩:=hm;unfold jr;simp only[(gp x ok).1,v1,l1,ae,dS];cases v with
 |false=>exact⟨x,1,rfl,ok,rfl⟩
 |true=>
  cases t with
  |false=>exact⟨x,1,rfl,ok,rfl⟩
  |true=>exact⟨_,0,rfl,⟨ok.1,by show l.length<=1048576; rw[l2]; exact ok.2.1,ok.2.2⟩,rfl⟩
theorem Hv (x:dN) (ok:fk 1048576 x) (id:Int): ∃n:Int,nf x id=some (n,())/\(n=0->dT x=some (true,())/\0<=id/\id<5):=by
 obtain⟨v,v1,_⟩:=gt x ok;unfold nf;simp only[v1,gr,ae,dS];cases v with
 |false=>exact⟨1,rfl,fun h=>absurd h (by decide)⟩
 |true=>
  simp only[ef];cases hw:kK id 0 4 with
  |false=>exact⟨1,rfl,fun h=>absurd h (by decide)⟩
  |true=>
   have hw:=eG.1 hw;obtain⟨s,s1,_⟩:=zO ok (i8 ok v1) ⟨hw.1,by omega⟩;simp only[ef,eh,if_pos hw.1,s1,ae];cases s.up with
   |false=>exact⟨2,rfl,fun h=>absurd h (by decide)⟩
   |true=>exact⟨0,rfl,fun _=>⟨trivial,hw.1,by omega⟩⟩
end Go.Proofs.YtadabkgmdllbfaaGreat.En
namespace Go.Proofs.YtadabkgmdllbfaaGreat.En
open Go
theorem tn {k n:Nat} (h:k<n): (k:Int).toNat<n:=h
theorem Hw (m:fG) (ho:m.objects.length<=1000) (hs:m.sessions.length<=1000):Tt (fun y=>y.1=true->m.objects.length=3) (iM m):=by
 have mo:m.objects.length<=maxLen:=by unfold maxLen; omega
 have ms:m.sessions.length<=maxLen:=by unfold maxLen; omega
 unfold iM;refine .bind (.count (B:=kh) (E:=Sum.elim (fun y=>y.1.2=(false,())) fun y=>y.2.1=((m.objects,m.sessions,()),())) m.objects.length (fun k (_:Unit)=>(((),(k:Int),()),((m.objects,m.sessions,()),()),())) (fun _ _=>True) (fun _ _=> .end (aW _) (.ret rfl)) (fun k _ hk _=> .go (aG.2 hk) (.ip (aw k) (.get (tn hk) fun x _ _=> ?_))) () trivial) fun y hy=> ?_
 ·rw[gr,ae,dS];exact .br (fun _=> .ret ⟨(),by rw[dV mo hk],trivial⟩) fun _=> .ret rfl
 cases y with
 |inl y=>exact .ret (by rw[show y.1.2=_ from hy]; nofun)
 |inr y=>
  show Tt _ ((qG (((),0,()),y.2.1,())).bind _);rw[show y.2.1=_ from hy];refine .bind (.count (B:=ki) (E:=Sum.elim (fun y=>y.1.2=(false,())) fun y=>y.2.1=((m.objects,m.sessions,()),())) m.sessions.length (fun k (_:Unit)=>(((),(k:Int),()),((m.objects,m.sessions,()),()),())) (fun _ _=>True) (fun _ _=> .end (aW _) (.ret rfl)) (fun k _ hk _=> .go (aG.2 hk) (.ip (aw k) (.get (tn hk) fun x _ _=> ?_))) () trivial) fun y hy=> ?_
  ·simp only[gr,ae,dS]
   have hw: (k:Int)>0->IntKind.wrap .i64 ((k:Int)-1)=(k:Int)-1:=fun h=>by unfold maxLen at ms;exact eX (by omega) (by omega)
   refine .br (fun _=> .br (fun _=> .br (fun _=> .br (fun h=> ?_) fun _=> .ret ⟨(),by rw[dV ms hk],trivial⟩) fun _=> .ret rfl) fun _=> .ret rfl) fun _=> .ret rfl;have h:=of_decide_eq_true h;rw[hw h];exact .ip (by omega) (.get (by omega) fun _ _ _=> .br (fun _=> .ret rfl) fun _=> .ret ⟨(),by rw[dV ms hk],trivial⟩)
  cases y with
  |inl y=>exact .ret (by rw[show y.1.2=_ from hy]; nofun)
  |inr y=>show Tt _ (some (((y.2.1.1.1.length:Int)==3),()));rw[show y.2.1=_ from hy];exact .ret fun h=>by have : (m.objects.length:Int)=3:=eq_of_beq h; omega
theorem Nu (m:fG) (c:Int) (hs:m.sessions.length<=1000):Tt (fun y=>y.2.1=true-> ∃x∈m.sessions,x.client=c) (pd m c):=by
 have ms:m.sessions.length<=maxLen:=by unfold maxLen; omega
 unfold pd;refine .bind (.count (B:=oQ) (E:=Sum.elim (fun y=> ∃x∈m.sessions,x.client=c) fun _=>True) m.sessions.length (fun k (_:Unit)=>((c,(),(),(k:Int),()),((m.objects,m.sessions,()),(0,0,false,0,()),()),())) (fun _ _=>True) (fun _ _=> .end (aW _) (.ret trivial)) (fun k _ hk _=> .go (aG.2 hk) (.ip (aw k) (.get (tn hk) fun x _ hx=> .br (fun e=> .ip (aw k) (.get (tn hk) fun _ _ _=> .ret ⟨x,hx,eq_of_beq e⟩)) fun _=> .ret ⟨(),by rw[dV ms hk],trivial⟩))) () trivial) fun y hy=> ?_;cases y with
 |inl y=>exact .ret fun _=>hy
 |inr y=>exact .ret nofun
theorem I4 (m:fG) (o:Op) (ho:m.objects.length<=1000) (hs:m.sessions.length<=900):Tt (fun y=>y.1.sessions.length<=m.sessions.length+1/\y.1.objects.length=m.objects.length) (oB m o):=by
 obtain⟨⟨b,_⟩,v1,v2⟩:=Hw m ho (by omega);unfold oB
 have cp:ux m=some (m,()):=by unfold ux;simp only[aY];rw[hQ (by omega),hQ (by omega)]
 rw[cp,ae,v1,ae,dS,tF];refine .br (fun e=> ?_) fun _=> .ret ⟨cc _,rfl⟩;have h3:=v2 e;rw[ae,dS];refine .br (fun eo=> .bind (Nu m o.client (by omega)) fun y hy=> ?_) fun _=> .ret ⟨cc _,rfl⟩;have hob:=J8 (show fe o=some (true,()) by rw[tF]; rw[show QX o=true from eo]);have hle:=Ps m.sessions o.client;have hlt:y.2.1=true->wS m.sessions o.client<m.sessions.length:=fun h=>Pt (hy h);have hw:IntKind.wrap .i64 (((wS m.sessions o.client:Nat):Int)+1)=((wS m.sessions o.client:Nat):Int)+1:=eX (by omega) (by omega);generalize hp:wS m.sessions o.client=p at hle hlt hw
 have ln: ∀ (k:Nat) (z:ej),k<=m.sessions.length+1->p<=k->(m.sessions.take p++ [z] ++(m.sessions.drop k).take (m.sessions.length-k)).length=p+1+(m.sessions.length-k):=fun k z h1 h2=>by simp only[aA,aZ,bk,az];omega
 have g0:0<=(p:Int):=aw p;have g1: (p:Int)<=(m.sessions.length:Int):=Int.ofNat_le.2 hle;have g3:0<=(p:Int)+1:=by omega
 have g2:y.2.1=true->(p:Int)+1<=(m.sessions.length:Int):=fun h=>by have:=hlt h; omega
 have l1: (m.sessions.take p).length<=900:=by rw[aZ]; omega
 extract_lets+lift j44 j45
 have h44:Tt (fun y=>y.1.sessions.length<=m.sessions.length+1/\y.1.objects.length=m.objects.length) j44:=by
  unfold j44;refine .ip hob.1 (.get (by show o.object.toNat<_; omega) fun x _ _=> .br (fun _=> .ip (by show 0<=o.object/\o.object< (m.objects.length:Int); omega) (.get (by show o.object.toNat<m.objects.length; omega) fun _ _ _=> ?_)) fun _=> .br (fun _=> .ip (by show 0<=o.object/\o.object< (m.objects.length:Int); omega) (.get (by show o.object.toNat<m.objects.length; omega) fun _ _ _=> ?_)) fun _=> ?_)
  all_goals
   show Tt _ ((pW (((),(),(),(),y.2.1,(),0,()),((o.client,o.seq,o.kind,o.object,o.old,o.value,()),((),(),()),(false,0,()),((),(),()),(_,_,()),()),_,m.sessions,())).bind _);rw[S9 _ _ _ _ _ _ (by omega),hp,ae];simp only[hw,aY,aR,bK,aB,show (0:Int).toNat=0 from rfl,cT,show ((p:Int)+1).toNat=p+1 from rfl];refine .ip ⟨g0,g1,bP _⟩ (.br (fun e=> ?_) fun _=> ?_)
   ·have:=hlt e;refine .ip ⟨g3,g2 e,bP _⟩ (.ip ⟨bP _,g0,g1⟩ (.ip hle (.ip (by omega) (.ip (by rw[aA,az]; omega) (.ip (by omega) (.ip (by rw[ln _ _ (by omega) (by omega)]; omega) (.ret ⟨?_,by first |rfl|exact bg⟩)))))));show List.length _<=_;rw[ln _ _ (by omega) (by omega)];omega
   ·refine .ip ⟨bP _,g0,g1⟩ (.ip hle (.ip (by omega) (.ip (by rw[aA,az]; omega) (.ip (by omega) (.ip (by rw[ln _ _ (by omega) (by omega)]; omega) (.ret ⟨?_,by first |rfl|exact bg⟩))))));show List.length _<=_;rw[ln _ _ (by omega) (by omega)];omega
 have h45:Tt (fun y=>y.1.sessions.length<=m.sessions.length+1/\y.1.objects.length=m.objects.length) j45:= .br (fun _=> .br (fun _=> .ret ⟨cc _,rfl⟩) fun _=>h44) fun _=>h44;exact .br (fun _=> .br (fun _=> .ret ⟨cc _,rfl⟩) fun _=>h45) fun _=>h45
theorem Fs (l:List dY) (hl:l.length<=maxLen):Tt (fun y=>y.1.objects.length<=3/\y.1.sessions.length<=16) (lw l):=by obtain⟨b,b1,b2⟩:=uZ hl;unfold lw pV;rw[ae,b1,ae,dS];refine .br (fun e=> ?_) fun _=> .ret ⟨ay _,ay _⟩;have h16:=b2 e;refine .bind (.count (B:=oS) (E:=fun y=>y.2.2.1.length<=3/\y.2.2.2.1.length<=16) l.length (fun k (b:List Int×List ej)=>((l,(),(),(k:Int),()),(((),(),()),((),(),()),()),b.1,b.2,())) (fun k b=>b.1.length<=3/\b.2.length<=k) (fun b hb=> .end (aW _) (.ret ⟨hb.1,aO hb.2 h16⟩)) (fun k b hk hb=> .go (aG.2 hk) (.ip (aw k) (.get (tn hk) fun x _ _=> .bind (I4 ⟨b.1,b.2⟩ x.op (aO hb.1 (by omega)) (aO hb.2 (by omega))) fun y hy=> .ret ⟨(y.1.objects,y.1.sessions),by rw[dV hl hk],by rw[hy.2]; exact hb.1,aO hy.1 (Nat.succ_le_succ hb.2)⟩))) ([0,0,0],[]) ⟨aq _,aq _⟩) fun y hy=> .ret hy
theorem J9 (l:List dY) (i:Int) (hl:l.length<=maxLen):Tt T1 (oE l i):=by obtain⟨b,b1,b2⟩:=uZ hl;unfold oE;rw[b1,ae,dS];refine .br (fun e=> ?_) fun _=> .ret trivial;have h16:=b2 e;rw[eX (n:=(l.length:Int)-1) (by omega) (by omega),gr,ae,dS];refine .br (fun h=> ?_) fun _=> .ret trivial;have h:=eG.1 h;refine .ip (by omega) (.bind (Fs _ ?_) fun y hy=> .ip h.1 (.get (by omega) fun x _ _=> .bind (I4 _ _ (by omega) (by omega)) fun z _=> .ret trivial));refine aO ?_ hl;rw[aZ,bk];omega
theorem wT (s:dQ) (h:gf 1048576 s) (hf:0<=s.first/\s.first<=16/\s.log.length<=16):Tt (fun y=>y.1.length<=16) (fD s):=by
 unfold fD;rw[eX (n:=s.first+(s.log.length:Int)) (by omega) (by omega)];simp only[gr,ae,dS];refine .br (fun h1=> ?_) fun _=> .ret (ay _);have h1:=eG.1 h1;refine .br (fun _=> .ret (ay _)) fun _=> ?_;rw[eX (n:=s.commit-s.first) (by omega) (by omega)]
 have hlen: ((s.log.drop (0:Int).toNat).take ((s.commit-s.first).toNat-(0:Int).toNat)).length<=16:=by rw[aZ,bk];omega
 refine .ip (by omega) ?_;rw[xX (by omega)];exact .ret hlen
theorem R9 (m:fG) (i:Int) (ho:m.objects.length<=1000) (hs:m.sessions.length<=1000):Tt T1 (nJ m i):=by obtain⟨⟨b,_⟩,b1,b2⟩:=Hw m ho hs;unfold nJ;rw[b1,ae,dS];refine .br (fun e=> ?_) fun _=> .ret trivial;have h3:=b2 e;rw[gr,ae,dS];refine .br (fun h=> ?_) fun _=> .ret trivial;have h:=eG.1 h;exact .ip h.1 (.get (by omega) fun _ _ _=> .ret trivial)
theorem Ft {s:dQ} {id:Int} (h:gf 1048576 s) (hv:eS s id=some (true,())):0<=s.first/\s.first<=16/\s.log.length<=16:=by obtain⟨h1,h2,h3,_⟩:=Hq h hv;exact⟨h1,h2,h3⟩
theorem Q0 (s:dQ) (i:Int) (h:gf 1048576 s) (hf:0<=s.first/\s.first<=16/\s.log.length<=16):Tt T1 (qJ s i):=by unfold qJ;exact .bind (wT s h hf) fun y hy=> .bind (Fs _ (by unfold maxLen; omega)) fun z hz=> .bind (R9 _ _ (by omega) (by omega)) fun _ _=> .ret trivial
theorem Q1 (l:eZ) (a b c:Int):Tt T1 (nI l a b c):=by obtain⟨v,v1,_⟩:=tE l;unfold nI;rw[v1,ae,gr,ae];exact .br (fun _=> .br (fun _=> .br (fun _=> .br (fun _=> .br (fun _=> .ret trivial) fun _=> .ret trivial) fun _=> .ret trivial) fun _=> .ret trivial) fun _=> .ret trivial) fun _=> .ret trivial
theorem Nv (x:dN) (ok:fk 1048576 x) (id:Int):Tt T1 (jQ x id):=by obtain⟨b,b1,_,b2⟩:=vy x ok id;unfold jQ;rw[b1,ae];refine .br (fun e=> ?_) fun _=> .ret trivial;obtain⟨hv,h0,h5,_⟩:=b2 e;exact .srv ok (i8 ok hv) ⟨h0,h5⟩ fun s _ _ _=> .bind (Q1 _ _ _ _) fun _ _=> .ret trivial
theorem I5 (x:dN) (ok:fk 1048576 x) (id i:Int):Tt T1 (pe x id i):=by obtain⟨n,n1,n2⟩:=Hv x ok id;unfold pe;rw[n1,ae,dS];refine .br (fun e=> ?_) fun _=> .ret trivial;obtain⟨hv,h0,h5⟩:=n2 (eq_of_beq e);have vc:=i8 ok hv;rw[gr,ae,dS];refine .br (fun _=> .srv ok vc ⟨h0,h5⟩ fun s _ s2 _=> ?_) fun _=> .ret trivial;obtain⟨b,b1,_⟩:=rf s id s2;rw[b1,ae,dS];refine .br (fun _=> .bind (Nv x ok id) fun y _=> ?_) fun _=> .ret trivial;rw[dS];exact .br (fun _=> .srv ok vc ⟨h0,h5⟩ fun s _ s2 s3=> .bind (Q0 s i s2 (Ft s2 s3)) fun _ _=> .ret trivial) fun _=> .ret trivial
end Go.Proofs.YtadabkgmdllbfaaGreat.En
namespace Go.Proofs.YtadabkgmdllbfaaGreat.En
open Go
def Kp (x y:dN):Prop:=fk 1048576 y/\y.servers.length=x.servers.length
theorem Kp.self {x:dN} (ok:fk 1048576 x):Kp x x:=⟨ok,rfl⟩
theorem Kp.trans {x y z:dN} (h:Kp x y) (k:Kp y z):Kp x z:=⟨k.1,k.2.trans h.2⟩
theorem Kp.srvs {x y:dN} (h:Kp x y) {S:List dQ} (hl:S.length=y.servers.length) (hs: ∀s∈S,gf 1048576 s):Kp x ⟨y.now,S,y.sides,y.master,y.masterUp,y.lease,y.places⟩:=
 ⟨⟨⟨by rw[hl]; exact h.1.1.1,hs⟩,h.1.2⟩,hl.trans h.2⟩
theorem Kp.set {x y:dN} (h:Kp x y) {s:dQ} (hs:gf 1048576 s) (i:Nat):Kp x ⟨y.now,y.servers.set i s,y.sides,y.master,y.masterUp,y.lease,y.places⟩:=
 h.srvs bg (u3 h.1.1 hs i).2
theorem Tt.at {α:Type} {Q:α->Prop} {l:List dQ} (h5:l.length=5) {a:Int} (ha:0<=a/\a<5) {k:dQ->Option α} (h: ∀s,l[a.toNat]? =some s->s∈l->Tt Q (k s)):Tt Q (iteP (0<=a/\a< (l.length:Int)) ((l[a.toNat]?).bind k) none):=
 .ip (by rw[h5]; exact ha) (.get (by omega) h)
theorem Q3 (x:dN) (ok:fk 1048576 x) (id:Int):Tt T1 (me x id):=by obtain⟨b,b1,_,b2⟩:=vy x ok id;unfold me;rw[b1,ae,dS];refine .br (fun e=> ?_) fun _=> .ret trivial;obtain⟨hv,h0,h5,_⟩:=b2 e;have vc:=i8 ok hv;refine .srv ok vc ⟨h0,h5⟩ fun s _ s2 _=> .bind (sR _ (eO s2.1)) fun y hy=> .bind (.count (B:=mA) (E:=fun _=>True) y.1.length (fun k (b:Int)=>(((),b,(),(k:Int),()),(fx x,()),y.1,())) (fun _ _=>True) (fun _ _=> .end (aW _) (.ret trivial)) (fun k b hk _=> .go (aG.2 hk) (.ip ⟨aw k,aG.2 hk⟩ (.get (tn hk) fun z _ hz=> .srv ok vc (hy.2 z hz) fun t _ _ _=> .ret ⟨_,by rw[dV (by have:=hy.1; unfold maxLen; omega) hk],trivial⟩))) 2 trivial) fun _ _=> .ret trivial
theorem Pv (x:dN) (ok:fk 1048576 x) (id:Int) (o:Op):Tt (fun y=>Kp x y.1/\(y.2.1=0->y.1.servers.length=5/\0<=id/\id<5)) (jo x id o):=by
 obtain⟨v,v1,_⟩:=gt x ok;unfold jo;rw[(gp x ok).1,ae,v1,ae,dS];have bad: ∀n:Int,n≠0->Tt (fun y:dN×Int×Unit=>Kp x y.1/\(y.2.1=0->y.1.servers.length=5/\0<=id/\id<5)) (some (x,n,())):=fun n hn=> .ret ⟨.self ok,fun h=>absurd h hn⟩;refine .br (fun e=> ?_) fun _=>bad 1 (by decide);subst e;have vc:=i8 ok v1;rw[gr,ae,dS];refine .br (fun h=> ?_) fun _=>bad 1 (by decide);have h:=eG.1 h;have hid:0<=id/\id<5:=by omega
 rw[tF,ae,dS];refine .br (fun _=> .srv ok vc hid fun s s1 s2 s3=> ?_) fun _=>bad 1 (by decide);rw[dS];refine .br (fun _=> ?_) fun _=>bad 2 (by decide);obtain⟨b,b1,_⟩:=rf s id s2;rw[b1,ae,dS];refine .br (fun _=> .bind (P3 s.log _ _ (eD s2.2.1)) fun y hy=> ?_) fun _=>bad 3 (by decide);have good: ∀n:Int,Tt (fun y:dN×Int×Unit=>Kp x y.1/\(y.2.1=0->y.1.servers.length=5/\0<=id/\id<5)) (some (x,n,())):=fun n=> .ret ⟨.self ok,fun _=>⟨vc.len,hid⟩⟩
 extract_lets+lift j17 j18
 have h17:Tt (fun y=>Kp x y.1/\(y.2.1=0->y.1.servers.length=5/\0<=id/\id<5)) j17:=by
  unfold j17;refine .at vc.len hid fun s' e' hs'=> ?_;show Tt _ ((x.servers[id.toNat]?).bind _);rw[e',ae];have hs:=ok.1.2 s' hs';have hs3:=hs.2.1;obtain rfl:s'=s:=by rw[s1] at e'; exact (Option.some.inj e').symm
  have hl:=(Ft s2 s3).2.2;refine .ip rfl ?_;have e1: ∀X Y:Option (dN×Int×Unit),iteP (s'.log.length<s'.log.length) X Y=Y:=fun X Y=>by rw[eh,if_neg (db _)]
  rw[e1]
  have hl2: (s'.log.take s'.log.length++([(⟨s'.epoch,o⟩:dY)]:List dY)).length<=17:=by rw[aA,aZ,az];omega
  refine .ip (by omega) (.ip (by show 0<=id/\id< (x.servers.length:Int); rw[vc.len]; exact hid) (.ip rfl (.ret ⟨(Kp.self ok).set (s:=⟨s'.up,s'.intact,s'.version,s'.epoch,s'.config,s'.first,s'.log.take s'.log.length++ [⟨s'.epoch,o⟩],s'.commit,s'.learned⟩) ⟨hs.1,aO hl2 (by omega),hs.2.2⟩ _,fun _=>⟨by show (x.servers.set _ _).length=5; rw[bg]; exact vc.len,hid⟩⟩)))
 have h18:Tt (fun y=>Kp x y.1/\(y.2.1=0->y.1.servers.length=5/\0<=id/\id<5)) j18:=by unfold j18;refine .bind (Fs s.log (eD s2.2.1)) fun m hm=> .bind (I4 m.1 o (by omega) (by omega)) fun z _=> ?_;rw[dS];refine .br (fun _=> .bind (Q:=T1) (by unfold kP; exact .ret trivial) fun w _=> ?_) fun _=>good 11;exact .br (fun _=> .bind (Q3 x ok id) fun _ _=> .br (fun _=>good 6) fun _=> .br (fun _=>good 5) fun _=>h17) fun _=> .br (fun _=>good 5) fun _=>h17
 refine .br (fun h=> .ip (of_decide_eq_true h) (.get ?_ fun e _ _=> ?_)) fun _=> .br (fun _=>good 0) fun _=>h18
 ·have h:=of_decide_eq_true h;omega
 ·rw[dS];exact .br (fun _=> .br (fun _=>good 0) fun _=>h18) fun _=>good 11
theorem Sa (x:dN) (ok:fk 1048576 x) (id m:Int):Tt (fun y=>Kp x y.1/\(y.2.1=true->0<=m/\m<5)) (lz x id m):=by
 obtain⟨b,b1,_,b2⟩:=vy x ok id;have bad:Tt (fun y:dN×Bool×Unit=>Kp x y.1/\(y.2.1=true->0<=m/\m<5)) (some (x,false,())):= .ret ⟨.self ok,nofun⟩;unfold lz;rw[(gp x ok).1,ae,b1,ae,dS];refine .br (fun e=> ?_) fun _=>bad;obtain⟨hv,h0,h5,hp⟩:=b2 e;have vc:=i8 ok hv;refine .srv ok vc ⟨h0,h5⟩ fun s s1 s2 s3=> .bind (sR _ (eO s2.1)) fun y hy=> ?_;rw[(gb y.1 m (by have:=hy.1; unfold maxLen; omega)).1,ae,dS];refine .br (fun hm=> ?_) fun _=>bad;have hm:=hy.2 m (of_decide_eq_true hm);refine .bind (Nr ok vc ⟨h0,h5⟩ hm) fun z _=> ?_;rw[dS];refine .br (fun _=> .srv ok vc ⟨h0,h5⟩ fun t t1 t2 t3=> .srv ok vc ⟨h0,h5⟩ fun u _ u2 _=> ?_) fun _=>bad;obtain⟨n,n1,_⟩:=wR u.config m (eO u2.1);rw[n1,ae];have five: ∀ (i:Nat) (s:dQ),(x.servers.set i s).length=5:=fun i s=>by rw[bg]; exact vc.len
 refine .br (fun _=> ?_) fun _=> ?_
 ·rw[Nq t.log t2.2.1 (Hq t2 t3).2.2.2.2.2.1,ae];refine .ip (by show 0<=m/\m< (x.servers.length:Int); rw[vc.len]; exact hm) (.at vc.len hm fun w _ hw=> ?_);have hw:=ok.1.2 w hw;refine .get (by rw[five]; omega) fun w' _ hw'=> .ret ⟨.srvs (.self ok) (by rw[bg,bg]) fun s hs=> ?_,fun _=>hm⟩;have all:=(u3 ok.1 (s:=⟨w.up,w.intact,w.version,w.epoch,w.config,((pv t.log:Nat):Int),w.log,w.commit,w.learned⟩) hw m.toNat)
  have hw':=all.2 w' hw';exact (u3 all (s:=⟨w'.up,w'.intact,w'.version,w'.epoch,w'.config,w'.first,t.log.drop (pv t.log),w'.commit,w'.learned⟩) ⟨hw'.1,by show List.length _<=_; rw[bk]; have:=t2.2.1; omega,hw'.2.2⟩ m.toNat).2 s hs
 ·rw[xX t2.2.1,ae];exact .at vc.len hm fun w _ hw=> .ret ⟨(Kp.self ok).set (s:=⟨w.up,w.intact,w.version,w.epoch,w.config,w.first,t.log,w.commit,w.learned⟩) ⟨(ok.1.2 w hw).1,t2.2.1,(ok.1.2 w hw).2.2⟩ _,fun _=>hm⟩
theorem I6 {l:List dQ} (h:l.length=5/\ ∀s∈l,gf 1048576 s) {s:dQ} (hs:gf 1048576 s) (i:Nat): (l.set i s).length=5/\ ∀t∈l.set i s,gf 1048576 t:=⟨by rw[bg]; exact h.1,fun t ht=>(cd ht).elim (h.2 t) fun e=>e ▸ hs⟩
abbrev fz:Int×Unit×Unit×Unit×Int×Int×Int×Int×Int×Unit×Unit:=(0,(),(),(),0,0,0,0,0,(),())
abbrev fc (x:dN):Int×Unit×Unit×Unit×Int×Int×Int×Int×Int×Unit×Unit:=(x.now,(),(),(),x.master.activated,x.masterUp,x.lease.epoch,x.lease.holder,x.lease.ends,(),())
theorem Ka (x:dN) (ok:fk 1048576 x) (id:Int):Tt (fun y=>Kp x y.1) (jf x id):=by
 obtain⟨b,b1,_,b2⟩:=vy x ok id;unfold jf;rw[(gp x ok).1,ae,b1,ae,dS];refine .br (fun e=> ?_) fun _=> .ret (.self ok);obtain⟨hv,h0,h5,hp⟩:=b2 e;have vc:=i8 ok hv;refine .srv ok vc ⟨h0,h5⟩ fun s s1 s2 s3=> .bind (sR _ (eO s2.1)) fun y hy=> ?_;have hl:y.1.length<=maxLen:=by have:=hy.1; unfold maxLen; omega
 refine .bind (.count (B:=k9) (E:=fun e=> ∃ (c:dN) (a:Bool),Kp x c/\e=((id,(),(),(),a,()),(fz,fc c,()),y.1,c.servers,c.sides,c.master.configs,c.places,())) y.1.length (fun k (b:dN×Bool)=>((id,(),(),(),b.2,(k:Int),()),(fz,fc b.1,()),y.1,b.1.servers,b.1.sides,b.1.master.configs,b.1.places,())) (fun _ b=>Kp x b.1) (fun b hb=> .end (aW _) (.ret ⟨b.1,b.2,hb,rfl⟩)) (fun k b hk hb=> .go (aG.2 hk) (.ip ⟨aw k,aG.2 hk⟩ (.get (tn hk) fun z _ hz=> .bind (Sa b.1 hb.1 id z) fun w hw=> .br (fun _=> .ret ⟨(w.1,w.2.1),by rw[dV hl hk],hb.trans hw.1⟩) fun _=> .ret ⟨(w.1,false),by rw[dV hl hk],hb.trans hw.1⟩))) (x,true) (.self ok)) ?_
 rintro _ ⟨c,a,hc,rfl⟩
 refine .bind (.count (B:=kj) (E:=fun e=> ∃ (c:dN) (a:Bool),Kp x c/\e=(((),(),a,()),(fz,fc c,()),c.servers,c.sides,c.master.configs,c.places,())) y.1.length (fun k (b:List dQ)=>((id,(),(),(),a,(k:Int),()),(fz,fc c,()),y.1,b,c.sides,c.master.configs,c.places,())) (fun _ b=>b.length=5/\ ∀s∈b,gf 1048576 s) (fun b hb=> .end (aW _) (.ret ⟨⟨c.now,b,c.sides,c.master,c.masterUp,c.lease,c.places⟩,a,hc.srvs (by rw[hb.1,hc.2,vc.len]) hb.2,rfl⟩)) (fun k b hk hb=> .go (aG.2 hk) (.br (fun _=> .ip ⟨aw k,aG.2 hk⟩ (.get (tn hk) fun z _ hz=> .at hb.1 ⟨h0,h5⟩ fun p _ _=> .at hb.1 (hy.2 z hz) fun q _ hq=> .ret ⟨b.set z.toNat ⟨q.up,q.intact,q.version,q.epoch,q.config,q.first,q.log,((p.log.length:Nat):Int),q.learned⟩,by rw[dV hl hk],I6 hb (s:=⟨q.up,q.intact,q.version,q.epoch,q.config,q.first,q.log,((p.log.length:Nat):Int),q.learned⟩) (hb.2 q hq) _⟩)) fun _=> .ret ⟨⟨c.now,b,c.sides,c.master,c.masterUp,c.lease,c.places⟩,a,hc.srvs (by rw[hb.1,hc.2,vc.len]) hb.2,rfl⟩)) c.servers ⟨hc.2.trans vc.len,hc.1.1.2⟩) ?_
 rintro _ ⟨d,a',hd,rfl⟩
 exact .ret hd
theorem Pw (x:dN) (ok:fk 1048576 x) (id:Int) (o:Op):Tt (fun y=>Kp x y.1) (qI x id o):=by
 unfold qI;refine .bind (Pv x ok id o) fun y hy=> ?_;rw[dS];refine .br (fun e=> ?_) fun _=> .ret hy.1;obtain⟨h5,hid⟩:=hy.2 (eq_of_beq e)
 have same: ∀ {α:Type} {Q:α->Prop} {l:List dQ} {k:dQ->dQ->Option α},l.length=5->(∀s∈l,gf 1048576 s)->(∀s,gf 1048576 s->Tt Q (k s s))->Tt Q (iteP (0<=id/\id< (l.length:Int)) ((l[id.toNat]?).bind fun a=>(l[id.toNat]?).bind fun b=>k a b) none):=fun h5 hs h=> .at h5 hid fun s e1 e2=>by rw[e1,ae];exact h s (hs s e2)
 have Lp: ∀s:dQ,(s.log.drop 0).take s.log.length=s.log:=fun s=>by rw[bK,bU]
 refine same h5 hy.1.1.1.2 fun s hs=> .ip (by omega) ?_;rw[Lp];refine .bind (P3 _ _ _ (eD hs.2.1)) fun i _=> .at h5 hid fun t _ _=> .br (fun _=> .bind (Ka y.1 hy.1.1 id) fun z hz=> ?_) fun _=>same h5 hy.1.1.1.2 fun s hs=> .ip (by omega) ?_
 ·rw[dS];refine .br (fun _=>same (hz.2.trans h5) hz.1.1.2 fun s hs=> .ip (by omega) ?_) fun _=> .ret (hy.1.trans hz);rw[Lp];exact .bind (J9 _ _ (eD hs.2.1)) fun _ _=> .ret (hy.1.trans hz)
 ·rw[Lp];exact .bind (J9 _ _ (eD hs.2.1)) fun _ _=> .ret hy.1
end Go.Proofs.YtadabkgmdllbfaaGreat.En
namespace Go.Proofs.YtadabkgmdllbfaaGreat.En
open Go
theorem pF (x:dN) (ok:fk 1048576 x):Tt (fun y=>y.1=true->VC x) (dT x):=by obtain⟨v,v1,_⟩:=gt x ok;exact⟨(v,()),v1,fun e=>i8 ok (by rw[v1,show v=true from e])⟩
theorem Kb (x:dN) (ok:fk 1048576 x) (e:Int): ∃c b,iY x.master e=some (c,b,())/\iJ maxLen c/\(VC x->c.replicas.length<=5/\c.witnesses.length<=5/\(∀z∈c.replicas,0<=z/\z<5)/\(∀z∈c.witnesses,0<=z/\z<5)/\(b=true->ey c=some (true,())/\0<=c.primary/\c.primary<5)/\rz c.replicas):=by
 obtain⟨c,b,h1,_,h2⟩:=xU x.master e ok.2.2.1;refine⟨c,b,h1,h2,fun vc=> ?_⟩;obtain⟨c',b',g1,_,g2,_,g3,g4⟩:=Cp x.master e ok.2.2.1 vc.ml;rw[h1] at g1;obtain⟨rfl,rfl⟩:c=c'/\b=b':=by simpa using g1
 cases b with
 |false=>rw[g4 rfl];exact⟨ay _,ay _,nofun,nofun,nofun,fun k hk=>by simp at hk⟩
 |true=>obtain⟨a1,a2,a3,_⟩:=xV g2 (g3 rfl).1;exact⟨a1.len,a2.len,o5 a1,o5 a2,fun _=>⟨(g3 rfl).1,o5 a1 _ a3⟩,a1⟩
theorem I7 (x:dN) (ok:fk 1048576 x): ∃c b,fE x.master=some (c,b,())/\iJ maxLen c/\(VC x->c.replicas.length<=5/\c.witnesses.length<=5/\(∀z∈c.replicas,0<=z/\z<5)/\(∀z∈c.witnesses,0<=z/\z<5)/\(b=true->ey c=some (true,())/\0<=c.primary/\c.primary<5)/\rz c.replicas):=by obtain⟨c,b,h1,h2⟩:=Kb x ok x.master.activated;exact⟨c,b,by unfold fE; rw[h1]; rfl,h2⟩
theorem Hx (s:dQ) (e:Int) (h:gf 1048576 s):Tt (fun y=>gf 1048576 y.1) (jq s e):=by unfold jq;rw[(Ax s h).1,ae,gr,ae,dS];exact .br (fun _=> .br (fun _=> .ret h) fun _=> .br (fun _=> .ret h) fun _=> .ret h) fun _=> .ret h
theorem Sb (x:dN) (ok:fk 1048576 x) (id e:Int):Tt (fun y=>Kp x y.1) (mg x id e):=by
 obtain⟨c,b,c1,c2,c3⟩:=I7 x ok;unfold mg;rw[(gp x ok).1,ae,c1,ae];refine .bind (pF x ok) fun v hv=> ?_;rw[dS];refine .br (fun h=> ?_) fun _=> .ret (.self ok);have vc:=hv h;rw[dS];refine .br (fun _=> ?_) fun _=> .ret (.self ok);rw[gr,ae,dS];refine .br (fun _=> .bind (sR c c2) fun m hm=> ?_) fun _=> .ret (.self ok);have hl:m.1.length<=maxLen:=by have:=hm.1; unfold maxLen; omega
 refine .bind (.count (B:=mD) (E:=fun e=> ∃S:List dQ,(S.length=5/\ ∀s∈S,gf 1048576 s)/\e=(((),(),()),(fz,fc x,()),S,x.sides,x.master.configs,x.places,())) m.1.length (fun k (S:List dQ)=>((id,e,(),(),(),(),(k:Int),()),(fx x,fz,fc x,()),m.1,S,x.sides,x.master.configs,x.places,())) (fun _ S=>S.length=5/\ ∀s∈S,gf 1048576 s) (fun S hS=> .end (aW _) (.ret ⟨S,hS,rfl⟩)) (fun k S hk hS=> .go (aG.2 hk) (.ip ⟨aw k,aG.2 hk⟩ (.get (tn hk) fun z hz' hz=> .srv ok vc (hm.2 z hz) fun s _ _ _=> .br (fun _=> .ip ⟨aw k,aG.2 hk⟩ (.get (tn hk) fun z2 _ hz2=> .bind (Hu ok vc id z2) fun _ _=> .br (fun _=> .ip ⟨aw k,aG.2 hk⟩ (.get (tn hk) fun z3 _ hz3=> .ip ⟨aw k,aG.2 hk⟩ (.get (tn hk) fun z4 _ hz4=> .srv ok vc (hm.2 z4 hz4) fun t _ t2 _=> .bind (Hx t e t2) fun u hu=> .at hS.1 (hm.2 z3 hz3) fun _ _ _=> .ret ⟨S.set z3.toNat u.1,by rw[dV hl hk],I6 hS hu _⟩))) fun _=> .ret ⟨S,by rw[dV hl hk],hS⟩)) fun _=> .ret ⟨S,by rw[dV hl hk],hS⟩))) x.servers ⟨vc.len,ok.1.2⟩) ?_
 rintro _ ⟨S,hS,rfl⟩
 exact .ret ((Kp.self ok).srvs (by rw[hS.1,vc.len]) hS.2)
section
variable {x:dN} (ok:fk 1048576 x) (vc:VC x) (id:Int)
include ok vc
theorem Nw:Tt (fun y=>y.1.length<=5/\ ∀z∈y.1,0<=z/\z<5) (nP x id):=by
 obtain⟨c,d,c1,c2,c3⟩:=I7 x ok;obtain⟨r5,_,inr,_⟩:=c3 vc;have rm:c.replicas.length<=maxLen:=by unfold maxLen; omega
 unfold nP;rw[c1,ae];refine .bind (.count (B:=nN) (E:=fun e=>e.2.2.1.length<=5/\ ∀z∈e.2.2.1,0<=z/\z<5) c.replicas.length (fun k (b:List Int)=>((id,(),(),(),d,(k:Int),()),(fx x,(c.epoch,c.primary,(),(),()),()),b,c.replicas,c.witnesses,())) (fun k b=>b.length<=k/\ ∀z∈b,0<=z/\z<5) (fun b hb=> .end (aW _) (.ret ⟨aO hb.1 r5,hb.2⟩)) (fun k b hk hb=> ?_) [] ⟨aq _,nofun⟩) fun y hy=> .ret hy;have ex:b.length<=5/\ ∀z∈b,0<=z/\z<5:=⟨by omega,hb.2⟩
 have st:b.length<=k+1/\ ∀z∈b,0<=z/\z<5:=⟨by omega,hb.2⟩
 refine .go (aG.2 hk) (.br (fun _=> .bind (pF x ok) fun _ _=> .br (fun _=> ?_) fun _=> .ret ex) fun _=> .ret ex);rw[gr,ae];refine .br (fun _=> .ip ⟨aw k,aG.2 hk⟩ (.get (tn hk) fun z _ hz=> .srv ok vc (inr z hz) fun s _ _ _=> .br (fun _=> .br (fun _=> .ip ⟨aw k,aG.2 hk⟩ (.get (tn hk) fun z2 _ hz2=> .bind (Hu ok vc id z2) fun _ _=> .br (fun _=> .ip ⟨aw k,aG.2 hk⟩ (.get (tn hk) fun z3 _ hz3=> .ip ?_ (.ret ⟨b++ [z3],by rw[dV rm hk],?_⟩))) fun _=> .ret ⟨b,by rw[dV rm hk],st⟩)) fun _=> .ret ⟨b,by rw[dV rm hk],st⟩) fun _=> .ret ⟨b,by rw[dV rm hk],st⟩)) fun _=> .ret ex
 ·show (b++ [z3]).length*8<=2 ^ 40;rw[aA,az];omega
 ·exact⟨by rw[aA,az]; omega,fun y hy=>(bf.1 hy).elim (hb.2 y) fun h=>by rw[aE.1 h]; exact inr z3 hz3⟩
theorem Sc:Tt (fun y=>y.1= -1\/0<=y.1/\y.1<5) (nR x id):=by
 unfold nR;refine .bind (Nw ok vc id) fun l hl=> ?_;have lm:l.1.length<=maxLen:=by have:=hl.1; unfold maxLen; omega
 refine .bind (.count (B:=nQ) (E:=fun e=>e.1.1= -1\/0<=e.1.1/\e.1.1<5) l.1.length (fun k (b:Int)=>(((),b,(),(k:Int),()),(fx x,()),l.1,())) (fun _ b=>b= -1\/0<=b/\b<5) (fun b hb=> .end (aW _) (.ret hb)) (fun k b hk hb=> ?_) (-1) (.inl rfl)) fun y hy=> .ret hy;refine .go (aG.2 hk) (.br (fun _=> .ip ⟨aw k,aG.2 hk⟩ (.get (tn hk) fun z _ hz=> .ret ⟨z,by rw[dV lm hk], .inr (hl.2 z hz)⟩)) fun hn=> .ip ⟨aw k,aG.2 hk⟩ (.get (tn hk) fun z _ hz=> .srv ok vc (hl.2 z hz) fun s _ _ _=> .srv ok vc (a:=b) ?_ fun t _ _ _=> .br (fun _=> .ip ⟨aw k,aG.2 hk⟩ (.get (tn hk) fun z2 _ hz2=> .ret ⟨z2,by rw[dV lm hk], .inr (hl.2 z2 hz2)⟩)) fun _=> .ret ⟨b,by rw[dV lm hk],hb⟩));have hn: ¬b<0:=of_decide_eq_false hn;omega
omit ok vc in
theorem Lg (f:Int) (l:List dY) (hl:l.length<=maxLen):Tt (fun y=>y.1=true->0<=f/\l.length<=3) (sD f l):=by obtain⟨b,b1,b2⟩:=uZ hl;unfold sD;rw[b1,ae];refine .br (fun _=> .br (fun h=> ?_) fun _=> .ret nofun) fun _=> .ret nofun;have h: (l.length:Int)<=3:=of_decide_eq_true h;rw[gr,ae];refine .br (fun w=> ?_) fun _=> .ret nofun;have w:=eG.1 w;exact .br (fun _=> .ret fun _=>⟨w.1,by omega⟩) fun _=> .ret fun _=>⟨w.1,by omega⟩
omit ok vc in
theorem Sd (a:List dY) (f:Int) (t:List dY) (ha:a.length<=1048576) (ht:t.length<=1048576):Tt (fun y=>y.1.length<=19) (qQ a f t):=by
 obtain⟨b,b1,b2⟩:=uZ (eD ha);unfold qQ;rw[b1,ae,dS];refine .br (fun e=> ?_) fun _=> .ret (ay _);have h16:=b2 e;refine .bind (Lg f t (eD ht)) fun g hg=> ?_;rw[dS];refine .br (fun e=> ?_) fun _=> .ret (ay _);obtain⟨f0,t3⟩:=hg e;refine .br (fun _=> .ret (ay _)) fun hn=> ?_;have hn: ¬f>(a.length:Int):=of_decide_eq_false hn;obtain⟨n,n1,n2,n3,_⟩:=Fr ((a.drop f.toNat).take ((a.length:Int).toNat-f.toNat)) t (aO (by rw[aZ,bk]; omega) (eD ha));refine .ip (by omega) ?_;rw[n1,ae,eX (n:=(a.length:Int)-f) (by omega) (by omega)];refine .br (fun _=> .ret (ay _)) fun _=> ?_;rw[xX ha,ae]
 have hl: (a++((t.drop (n:Int).toNat).take ((t.length:Int).toNat-(n:Int).toNat))).length<=19:=by rw[aA,aZ,bk];omega
 refine .ip (by omega) (.ip (aO (bo 56 hl) (by omega)) ?_);obtain⟨d,d1,_⟩:=uZ (l:=a++((t.drop (n:Int).toNat).take ((t.length:Int).toNat-(n:Int).toNat))) (by unfold maxLen; omega);rw[show gJ _=_ from d1,ae,dS];exact .br (fun _=> .ret hl) fun _=> .ret (ay _)
omit ok vc in
theorem Se (s:dQ) (id:Int) (h:gf 1048576 s) (hf:0<=s.first/\s.first<=16/\s.log.length<=16):Tt (fun y=>y.1.length<=1048576) (sC s id):=by obtain⟨n,n1,_⟩:=wR s.config id (eO h.1);unfold sC;rw[n1,ae,xX h.2.2,ae];have gi:Tt (fun y:List dY×Unit=>y.1.length<=1048576) ((fD s).bind fun y3=>br (decide ((y3.1.length:Int)>(s.learned.length:Int))) (some (y3.1,())) (some (s.learned,()))):= .bind (wT s h hf) fun y hy=> .br (fun _=> .ret (by show y.1.length<=_; omega)) fun _=> .ret h.2.2;exact .br (fun _=>gi) fun _=> .br (fun _=>gi) fun _=> .ret h.2.2
theorem Q4 {c:dR} {w:dQ} (hw:gf 1048576 w) (j:Int) (d:Bool) (b:List dY×Bool) (hb:b.1.length<=19):Tt (fun e=> ∃r:List dY×Bool,r.1.length<=19/\e=((id,(),(),r.2,(),d,j,()),(fx x,(c.epoch,c.primary,(),(),()),()),r.1,c.replicas,c.witnesses,())) (tU ((id,(),(),b.2,(),d,j,(),0,()),(fx x,(c.epoch,c.primary,(),(),()),S8 w,()),b.1,c.replicas,c.witnesses,())):=by
 refine .count (B:=mE) (E:=fun e=> ∃r:List dY×Bool,r.1.length<=19/\e=((id,(),(),r.2,(),d,j,()),(fx x,(c.epoch,c.primary,(),(),()),()),r.1,c.replicas,c.witnesses,())) 5 (fun k (b:List dY×Bool)=>((id,(),(),b.2,(),d,j,(),(k:Int),()),(fx x,(c.epoch,c.primary,(),(),()),S8 w,()),b.1,c.replicas,c.witnesses,())) (fun _ b=>b.1.length<=19) (fun b hb=> .end (aW _) (.ret ⟨b,hb,rfl⟩)) (fun k b hk hb=> ?_) b hb;have hkk:0<=(k:Int)/\(k:Int)<5:=⟨aw k,aG.2 hk⟩
 have sw:=dV (n:=5) (by decide) hk;refine .go hkk.2 (.srv ok vc hkk fun s _ _ _=> ?_);dsimp only;rw[sw,dS];refine .br (fun _=> .bind (Hu ok vc id k) fun y _=> ?_) fun _=> .ret ⟨b,rfl,hb⟩;rw[dS];refine .br (fun _=> .srv ok vc hkk fun t _ t2 t3=> .bind (Se t k t2 (Ft t2 t3)) fun y hy=> .bind (Sd y.1 w.first w.log hy hw.2.1) fun z hz=> .br (fun _=> ?_) fun _=> .ret ⟨b,rfl,hb⟩) fun _=> .ret ⟨b,rfl,hb⟩;rw[dS];exact .br (fun _=> .br (fun _=> .ret ⟨(z.1,true),rfl,hz⟩) fun _=> .ret ⟨b,rfl,hb⟩) fun _=> .ret ⟨(z.1,true),rfl,hz⟩
theorem Nx:Tt (fun y=>y.1.length<=19) (nT x id):=by
 obtain⟨c,d,c1,c2,c3⟩:=I7 x ok;obtain⟨_,r5,_,inw,_⟩:=c3 vc;have rm:c.witnesses.length<=maxLen:=by unfold maxLen; omega
 unfold nT;rw[c1,ae];refine .bind (.count (B:=nS) (E:=fun e=>e.2.2.1.length<=19) c.witnesses.length (fun k (b:List dY×Bool)=>((id,(),(),b.2,(),d,(k:Int),()),(fx x,(c.epoch,c.primary,(),(),()),()),b.1,c.replicas,c.witnesses,())) (fun _ b=>b.1.length<=19) (fun b hb=> .end (aW _) (.ret hb)) (fun k b hk hb=> ?_) ([],false) (ay _)) fun y hy=> .ret hy;refine .go (aG.2 hk) (.br (fun _=> .bind (pF x ok) fun _ _=> .br (fun _=> ?_) fun _=> .ret hb) fun _=> .ret hb);rw[gr,ae];refine .br (fun _=> .ip ⟨aw k,aG.2 hk⟩ (.get (tn hk) fun z _ hz=> .srv ok vc (inw z hz) fun s _ s2 _=> ?_)) fun _=> .ret hb;have sw:=dV rm hk;rw[dS];refine .br (fun _=> ?_) fun _=> .ret ⟨b,by rw[sw],hb⟩;rw[dS];refine .br (fun _=> .ip ⟨aw k,aG.2 hk⟩ (.get (tn hk) fun z2 _ _=> .bind (Hu ok vc id z2) fun y _=> ?_)) fun _=> .ret ⟨b,by rw[sw],hb⟩;rw[dS];refine .br (fun _=> .bind (Q4 ok vc id (c:=c) s2 k d b hb) ?_) fun _=> .ret ⟨b,by rw[sw],hb⟩
 rintro _ ⟨r,hr,rfl⟩
 exact .ret ⟨r,by rw[<-sw],hr⟩
theorem Px:Tt (fun y=>y.1.length<=1048576) (pg x id):=by unfold pg;refine .bind (pF x ok) fun v _=> ?_;rw[dS];refine .br (fun _=> ?_) fun _=> .ret (ay _);rw[gr,ae,dS];refine .br (fun _=> .br (fun _=> .ret (ay _)) fun _=> .bind (Sc ok vc id) fun n hn=> .br (fun h=> ?_) fun _=> .bind (Nx ok vc id) fun y hy=> .ret (by show y.1.length<=_; omega)) fun _=> .ret (ay _);have h:n.1≥0:=of_decide_eq_true h;refine .srv ok vc (by omega) fun s _ s2 _=> ?_;rw[xX s2.2.1];exact .ret s2.2.1
end
theorem Ay (l:List dY) (hl:l.length<=maxLen):Tt T1 (iZ l):=by unfold iZ;refine .bind (.count (B:=lT) (E:=fun _=>True) l.length (fun k (_:Unit)=>((l,(k:Int),()),(),())) (fun _ _=>True) (fun _ _=> .end (aW _) (.ret trivial)) (fun k _ hk _=> .go (aG.2 hk) (.ip (aw k) (.get (tn hk) fun e _ _=> .bind (Q:=T1) (by unfold kP; exact .ret trivial) fun _ _=> .br (fun _=> .ret trivial) fun _=> .ret ⟨(),by rw[dV hl hk],trivial⟩))) () trivial) fun y _=> ?_;cases y<;>exact .ret trivial
theorem Hy (s:dQ) (c:dR) (id:Int) (l:List dY) (hs:gf 1048576 s) (hc:iJ 1048576 c) (hl:l.length<=1048576):Tt (fun y=>gf 1048576 y.1) (jh s c id l):=by
 obtain⟨n,n1,_⟩:=wR c id (eO hc);obtain⟨b,b1,_⟩:=uZ (eD hl);obtain⟨e,e1,_⟩:=sQ l (eD hl);unfold jh;simp only[n1,b1,e1,(Ax s hs).1,(vv c hc).1,xX hl,gr,ae,dS,Nn l hl];have hk:pv l<=l.length:=Nat.sub_le _ _
 have hl2: ((l.drop (pv l)).take ((l.length:Int).toNat-pv l)).length<=1048576:=by rw[aZ,bk];omega
 refine .br (fun _=> .ret hs) fun _=> .br (fun _=> .br (fun _=> .br (fun _=> .br (fun _=> .ret hs) fun _=> .br (fun _=> .bind (Ay l (eD hl)) fun _ _=> .br (fun _=> .ret hs) fun _=> ?_) fun _=> ?_) fun _=> .ret hs) fun _=> .ret hs) fun _=> .ret hs
 all_goals
  exact .br (fun _=> .ip (by omega) (.bind (Q:=fun y=>y.1.length<=1048576) ⟨_,xX hl2,hl2⟩ fun y hy=> .ret ⟨hc,hy,ay _⟩)) fun _=> .ret ⟨hc,hl,ay _⟩
theorem Cr (m:dW) (h:rh 1048576 m) (e:Int):Tt (fun y=>rh 1048576 y.1/\y.1.configs.length=m.configs.length) (iQ m e):=by obtain⟨b,b1,_⟩:=masterLog m (kV h);unfold iQ;rw[(Fo m h).1,ae,b1,ae,dS];refine .br (fun _=> ?_) fun _=> .ret ⟨h,rfl⟩;rw[dS];exact .br (fun _=> .br (fun _=> .ret ⟨h,rfl⟩) fun _=> .ret ⟨h,rfl⟩) fun _=> .ret ⟨h,rfl⟩
theorem zd (x:dN) (ok:fk 1048576 x):Tt (fun y=>Kp x y.1) (mR x):=by
 obtain⟨c,b,c1,c2,c3⟩:=Kb x ok (x.master.configs.length:Int);unfold mR pY;rw[(gp x ok).1,ae,c1,ae,ae];refine .bind (pF x ok) fun v hv=> ?_;rw[dS];refine .br (fun h=> ?_) fun _=> .ret (.self ok);have vc:=hv h;rw[dS];refine .br (fun hb=> .br (fun _=> .ret (.self ok)) fun _=> .br (fun _=> .ret (.self ok)) fun _=> ?_) fun _=> .ret (.self ok);obtain⟨r5,w5,_,_,hp,_⟩:=c3 vc;have hp:=(hp hb).2;have hc:iJ 1048576 c:=⟨by omega,by omega⟩
 have s5:=pu (eD ok.2.1) vc.sides;refine .srv ok vc hp fun s _ _ _=> ?_;rw[dS];refine .br (fun _=> .ip hp.1 (.get (by show c.primary.toNat<x.sides.length; omega) fun sd _ _=> ?_)) fun _=> .ret (.self ok);rw[dS];refine .br (fun _=> ?_) fun _=> .ret (.self ok);obtain⟨o,o1,_⟩:=zP x.lease x.now;rw[o1,ae,dS];refine .br (fun _=> .bind (Sb x ok c.primary c.epoch) fun y hy=> .bind (Px ok vc c.primary) fun l hl=> ?_) fun _=> .ret (.self ok);rw[dS];refine .br (fun _=> .bind (sR c c2) fun m hm=> ?_) fun _=> .ret hy;have ml:m.1.length<=maxLen:=by have:=hm.1; unfold maxLen; omega
 have hyS:y.1.servers.length=5/\ ∀s∈y.1.servers,gf 1048576 s:=⟨hy.2.trans vc.len,hy.1.1.2⟩
 refine .bind (.count (B:=oU) (E:=Sum.elim (fun e=> ∃n:Int,e=(((),(),n,(),(),(),(),()),(fx x,fc y.1,(fc y.1,(c.epoch,c.primary,(),(),()),())),l.1,m.1,y.1.servers,y.1.sides,y.1.master.configs,y.1.places,c.replicas,c.witnesses,())) fun e=>e.2=((fx x,fz,fc y.1,(c.epoch,c.primary,(),(),()),()),l.1,m.1,y.1.servers,y.1.sides,y.1.master.configs,y.1.places,c.replicas,c.witnesses,())) m.1.length (fun k (_:Unit)=>(((),(),(),(),(),(),(k:Int),()),(fx x,fz,fc y.1,(c.epoch,c.primary,(),(),()),()),l.1,m.1,y.1.servers,y.1.sides,y.1.master.configs,y.1.places,c.replicas,c.witnesses,())) (fun _ _=>True) (fun _ _=> .end (aW _) (.ret rfl)) (fun k _ hk _=> ?_) () trivial) fun e he=> ?_
 ·refine .go (aG.2 hk) (.ip ⟨aw k,aG.2 hk⟩ (.get (tn hk) fun z _ hz=> .srv ok vc (hm.2 z hz) fun s _ _ _=> ?_));rw[dS];refine .br (fun _=> .ip ⟨aw k,aG.2 hk⟩ (.get (tn hk) fun z2 _ hz2=> .ip (hm.2 z2 hz2).1 (.get (by have:=hm.2 z2 hz2; show z2.toNat<x.sides.length; omega) fun w _ _=> ?_))) fun _=> .ret ⟨_,rfl⟩;rw[dS];exact .br (fun _=> .ret ⟨(),by rw[dV ml hk],trivial⟩) fun _=> .ret ⟨_,rfl⟩
 cases e with
 |inl e=>obtain⟨n,rfl⟩:=he;exact .ret hy
 |inr e=>
  show Tt _ ((vU (((),(),(),(),(),(),0,()),e.2)).bind _);rw[show e.2=_ from he];refine .bind (.count (B:=oV) (E:=Sum.elim (fun e=> ∃n:Int,e=(((),(),n,(),(),(),(),()),(fx x,fc y.1,(fc y.1,(c.epoch,c.primary,(),(),()),())),l.1,m.1,y.1.servers,y.1.sides,y.1.master.configs,y.1.places,c.replicas,c.witnesses,())) fun e=>e.2=((fx x,fz,fc y.1,(c.epoch,c.primary,(),(),()),()),l.1,m.1,y.1.servers,y.1.sides,y.1.master.configs,y.1.places,c.replicas,c.witnesses,())) m.1.length (fun k (_:Unit)=>(((),(),(),(),(),(),(k:Int),()),(fx x,fz,fc y.1,(c.epoch,c.primary,(),(),()),()),l.1,m.1,y.1.servers,y.1.sides,y.1.master.configs,y.1.places,c.replicas,c.witnesses,())) (fun _ _=>True) (fun _ _=> .end (aW _) (.ret rfl)) (fun k _ hk _=> .go (aG.2 hk) (.ip ⟨aw k,aG.2 hk⟩ (.get (tn hk) fun z _ hz=> .srv ok vc (hm.2 z hz) fun s _ _ _=> .br (fun _=> .bind (Ay l.1 (eD hl)) fun _ _=> .br (fun _=> .ret ⟨_,rfl⟩) fun _=> .ret ⟨(),by rw[dV ml hk],trivial⟩) fun _=> .ret ⟨(),by rw[dV ml hk],trivial⟩))) () trivial) fun e he=> ?_;cases e with
  |inl e=>obtain⟨n,rfl⟩:=he;exact .ret hy
  |inr e=>
   show Tt _ ((vW (((),(),(),(),(),(),0,()),e.2)).bind _);rw[show e.2=_ from he];refine .bind (.count (B:=oW) (E:=fun e=> ∃S:List dQ,(S.length=5/\ ∀s∈S,gf 1048576 s)/\e=(((),(),(),(),()),(fx x,fz,fc y.1,(c.epoch,c.primary,(),(),()),()),S,y.1.sides,y.1.master.configs,y.1.places,c.replicas,c.witnesses,())) m.1.length (fun k (S:List dQ)=>(((),(),(),(),(),(),(k:Int),()),(fx x,fz,fc y.1,(c.epoch,c.primary,(),(),()),()),l.1,m.1,S,y.1.sides,y.1.master.configs,y.1.places,c.replicas,c.witnesses,())) (fun _ S=>S.length=5/\ ∀s∈S,gf 1048576 s) (fun S hS=> .end (aW _) (.ret ⟨S,hS,rfl⟩)) (fun k S hk hS=> ?_) y.1.servers hyS) ?_
   ·refine .go (aG.2 hk) (.ip ⟨aw k,aG.2 hk⟩ (.get (tn hk) fun z _ hz=> .ip ⟨aw k,aG.2 hk⟩ (.get (tn hk) fun z2 _ hz2=> .at hS.1 (hm.2 z2 hz2) fun s e' hs=> .ip ⟨aw k,aG.2 hk⟩ (.get (tn hk) fun z3 _ _=> ?_))));dsimp only;simp only[e',ae,bK,bU,aR];refine .ip (aq _) (.ip (aq _) (.ip (aq _) (.ip (aq _) (.bind (Hy s c z3 l.1 (hS.2 s hs) hc hl) fun u hu=> .at hS.1 (hm.2 z hz) fun _ _ _=> .ret ⟨S.set z.toNat u.1,by rw[dV ml hk],I6 hS hu _⟩))))
   ·rintro _ ⟨S,hS,rfl⟩
    refine .bind (Cr x.master ok.2.2.1 c.epoch) fun w hw=> .ret ?_;exact⟨⟨⟨by show S.length<=_; rw[hS.1]; decide,hS.2⟩,hy.1.2.1,hw.1,hy.1.2.2.2⟩,by show S.length=_; rw[hS.1,vc.len]⟩
end Go.Proofs.YtadabkgmdllbfaaGreat.En
namespace Go.Proofs.YtadabkgmdllbfaaGreat.En
open Go
theorem zQ (m:dW) (h:rh 1048576 m) (c:dR) (hc:iJ 1048576 c):Tt (fun y=>rh 1048576 y.1/\y.1.configs.length<=m.configs.length+1) (jg m c):=by
 have self:rh 1048576 m/\m.configs.length<=m.configs.length+1:=⟨h,cc _⟩
 obtain⟨b,b1,_⟩:=masterLog m (kV h);obtain⟨d,d1,_⟩:=pq c (eO hc);unfold jg;rw[(Fo m h).1,ae,b1,ae,dS];refine .br (fun e=> ?_) fun _=> .ret self;subst e;have hl:=R5 h b1;rw[d1,ae,dS];refine .br (fun _=> ?_) fun _=> .ret self;rw[dS];refine .br (fun _=> ?_) fun _=> .ret self;rw[(vv c hc).1,ae];have h2: (m.configs++ [c]).length<=21:=by rw[aA,az]; omega
 exact .ip (aO (bo 64 h2) (by omega)) (.ret ⟨⟨aO h2 (by omega),fun d hd=>(bf.1 hd).elim (h.2 d) fun e=>by rw[aE.1 e]; exact hc⟩,by show (m.configs++ [c]).length<=_; rw[aA]; exact aq _⟩)
theorem zf (x:dN) (ok:fk 1048576 x) (c:dR) (hc:iJ 1048576 c):Tt (fun y=>Kp x y.1) (jF x c):=by unfold jF;rw[(gp x ok).1,ae];refine .bind (pF x ok) fun v _=> ?_;rw[dS];refine .br (fun _=> .br (fun _=> .ret (.self ok)) fun _=> .bind (zQ x.master ok.2.2.1 c hc) fun m hm=> ?_) fun _=> .ret (.self ok);rw[dS];exact .br (fun _=> .ret ⟨⟨ok.1,ok.2.1,hm.1,ok.2.2.2⟩,rfl⟩) fun _=> .ret (.self ok)
theorem P4 (x:dN) (ok:fk 1048576 x) (n:Int):Tt (fun y=>Kp x y.1) (km x n):=by unfold km;rw[(gp x ok).1,ae];refine .bind (pF x ok) fun v _=> ?_;rw[dS];refine .br (fun _=> ?_) fun _=> .ret (.self ok);rw[gr,ae,dS];exact .br (fun _=> .ret ⟨ok,rfl⟩) fun _=> .ret (.self ok)
theorem P5 (x:dN) (ok:fk 1048576 x) (id:Int):Tt (fun y=>y.1=true->VC x/\0<=id/\id<5) (kR x id):=by obtain⟨b,b1,_,b2⟩:=za x id ok;exact⟨_,b1,fun e=>⟨i8 ok (b2 e).1,(b2 e).2⟩⟩
theorem Ny (x:dN) (ok:fk 1048576 x) (id:Int):Tt (fun y=>Kp x y.1) (kF x id):=by unfold kF;rw[(gp x ok).1,ae];refine .bind (P5 x ok id) fun v hv=> ?_;rw[dS];refine .br (fun e=> ?_) fun _=> .ret (.self ok);obtain⟨vc,hid⟩:=hv e;refine .srv ok vc hid fun s _ _ _=> .br (fun _=> .ret (.self ok)) fun _=> .srv ok vc hid fun t _ _ _=> ?_;rw[dS];exact .br (fun _=> .at vc.len hid fun u _ hu=> .ret ((Kp.self ok).set (s:=⟨u.up,u.intact,2,u.epoch,u.config,u.first,u.log,u.commit,u.learned⟩) (ok.1.2 u hu) _)) fun _=> .ret (.self ok)
theorem I8 (x:dN) (ok:fk 1048576 x) (id:Int):Tt (fun y=>Kp x y.1) (ju x id):=by
 unfold ju;rw[(gp x ok).1,ae];refine .bind (P5 x ok id) fun v hv=> ?_;rw[dS];refine .br (fun e=> ?_) fun _=> .ret (.self ok);obtain⟨vc,hid⟩:=hv e;refine .srv ok vc hid fun s _ _ _=> .br (fun _=> .ret (.self ok)) fun _=> .srv ok vc hid fun t _ _ _=> ?_;rw[dS];refine .br (fun _=> .srv ok vc hid fun s _ s2 _=> .bind (Q:=T1) ?_ fun _ _=> .br (fun _=> .ret (.self ok)) fun _=> .bind (.count (B:=jt) (E:=Sum.elim (fun e=> ∃n:Int,e=((id,(),n,(),()),(fc x,fc x,()),x.servers,x.sides,x.master.configs,x.places,())) fun e=>e=((id,(),(),(),()),(fz,fc x,()),x.servers,x.sides,x.master.configs,x.places,())) x.servers.length (fun k (_:Unit)=>((id,(),(),(),(),(k:Int),()),(fx x,fz,fc x,S8 s,()),x.servers,x.sides,x.master.configs,x.places,())) (fun _ _=>True) (fun _ _=> .end (aW _) (.ret rfl)) (fun k _ hk _=> ?_) () trivial) fun e he=> ?_) fun _=> .ret (.self ok)
 ·unfold jT;exact .bind (Ay _ (eD s2.2.2)) fun _ _=> .ret trivial
 ·have sw:=dV (eD ok.1.1) hk;refine .go (aG.2 hk) ?_;rw[show kO _=_ from vu s.config (eO s2.1),ae,dS];refine .br (fun _=> .ret rfl) fun _=> .ip (aw k) (.get (tn hk) fun t _ ht=> ?_);have ht:=ok.1.2 t ht;rw[show gK _ _=_ from (gR t.config s.config (eO ht.1)).1,ae];refine .br (fun _=> .ip (aw k) (.get (tn hk) fun u _ hu=> .bind (Q:=T1) ?_ fun _ _=> .br (fun _=> .ret ⟨_,rfl⟩) fun _=> .ret ⟨(),by rw[sw],trivial⟩)) fun _=> .ret ⟨(),by rw[sw],trivial⟩;unfold jT;exact .bind (Ay _ (eD (ok.1.2 u hu).2.1)) fun _ _=> .ret trivial
 cases e with
 |inl e=>obtain⟨n,rfl⟩:=he;exact .ret (.self ok)
 |inr e=>obtain rfl:=he;exact .at vc.len hid fun u _ hu=> .ret ((Kp.self ok).set (s:=⟨u.up,u.intact,1,u.epoch,u.config,u.first,u.log,u.commit,u.learned⟩) (ok.1.2 u hu) _)
theorem Nz (x:dN) (ok:fk 1048576 x):Tt T1 (jU x):=by
 obtain⟨c,b,c1,c2,c3⟩:=I7 x ok;unfold jU;rw[c1,ae];refine .bind (pF x ok) fun v hv=> ?_;rw[dS];refine .br (fun h=> ?_) fun _=> .ret trivial;have vc:=hv h;rw[dS];refine .br (fun hb=> ?_) fun _=> .ret trivial;obtain⟨_,_,_,_,hp,_⟩:=c3 vc;have hp:=(hp hb).2;refine .srv ok vc hp fun s _ s2 _=> ?_;obtain⟨d,d1,_⟩:=rf s c.primary s2;rw[d1,ae,dS];refine .br (fun _=> .srv ok vc hp fun t _ _ _=> ?_) fun _=> .ret trivial;rw[dS];refine .br (fun _=> .bind (sR c c2) fun m hm=> .bind (.count (B:=ko) (E:=fun _=>True) m.1.length (fun k (_:Unit)=>(((),(),(),(k:Int),()),(fx x,(c.epoch,c.primary,(),(),()),()),m.1,c.replicas,c.witnesses,())) (fun _ _=>True) (fun _ _=> .end (aW _) (.ret trivial)) (fun k _ hk _=> .go (aG.2 hk) (.ip ⟨aw k,aG.2 hk⟩ (.get (tn hk) fun z _ hz=> .bind (Nr ok vc hp (hm.2 z hz)) fun y _=> ?_))) () trivial) fun e _=> ?_) fun _=> .ret trivial
 ·rw[dS];exact .br (fun _=> .ret ⟨(),by rw[dV (by have:=hm.1; unfold maxLen; omega) hk],trivial⟩) fun _=> .ret trivial
 ·cases e<;>exact .ret trivial
theorem Kd (x:dN) (ok:fk 1048576 x):Tt T1 (ni x):=by unfold ni;exact .bind (Nz x ok) fun _ _=> .ret trivial
section
variable {l:List eE} (hl:l.length<=maxLen) (hv:fo l=some (true,()))
include hl hv
theorem Q5 (m:List Int) (hm:rz m):Tt (fun y=>y.1.length<=5) (sA l m):=by have h5:=zb hl hv;have ml:=hm.len;unfold sA;refine .bind (.count (B:=rx) (E:=fun e=>e.2.2.1.length<=5) m.length (fun k (b:List Int)=>((l,m,(),(k:Int),()),(),b,())) (fun k b=>b.length<=k/\SS b) (fun b hb=> .end (aW _) (.ret (aO hb.1 ml))) (fun k b hk hb=> ?_) [] ⟨aq _,List.Pairwise.nil⟩) fun y hy=> .ret hy;refine .go (aG.2 hk) ?_;dsimp only;rw[hv,ae,(vx hm).1,ae];refine .br (fun _=> .br (fun _=> .ip (aw k) (.get (tn hk) fun z _ hz=> .ip (o5 hm z hz).1 (.get (by have:=o5 hm z hz; omega) fun p _ _=> ?_))) (fun h=>by cases h)) (fun h=>by cases h);obtain⟨r,r1,r2,_,r4,_⟩:=Pq b p.rack (by omega) hb.2;rw[r1,ae];exact .ret ⟨r,by rw[dV (by unfold maxLen; omega) hk],by omega,r2⟩
theorem Sf (i:Int):Tt T1 (sB l i):=by have h5:=zb hl hv;unfold sB;rw[hv,ae,gr,ae];refine .br (fun _=> .br (fun h=> ?_) fun _=> .ret trivial) fun _=> .ret trivial;have h:=eG.1 h;exact .ip h.1 (.get (by omega) fun _ _ _=> .ip h.1 (.get (by omega) fun _ _ _=> .ret trivial))
theorem Py (r:List Int) (hr:r.length<=5) {a b:Int} (ha:0<=a/\a<5) (hb:0<=b/\b<5):Tt T1 (qN l r a b):=by
 have h5:=zb hl hv;have rm:r.length<=maxLen:=by unfold maxLen; omega
 unfold qN;refine .ip ha.1 (.get (by omega) fun p _ _=> ?_);rw[(gb r p.rack rm).1,ae];refine .ip hb.1 (.get (by omega) fun q _ _=> ?_);rw[(gb r q.rack rm).1,ae,dS];exact .br (fun _=> .ip ha.1 (.get (by omega) fun _ _ _=> .ip hb.1 (.get (by omega) fun _ _ _=> .ret trivial))) fun _=> .ret trivial
theorem NA (m d:List Int) (hm:rz m) (hd:d.length<=maxLen):Tt (fun y=>y.1= -1\/(0<=y.1/\y.1<5/\y.1∉m)) (nh l m d):=by
 have ml:m.length<=maxLen:=by have:=hm.len; unfold maxLen; omega
 unfold nh;refine .bind (Q5 hl hv m hm) fun r hr=> .bind (.count (B:=oT) (E:=fun e=>e.1.1= -1\/(0<=e.1.1/\e.1.1<5/\e.1.1∉m)) 5 (fun k (b:Int)=>((l,m,d,b,(),(k:Int),()),(),r.1,())) (fun _ b=>b= -1\/(0<=b/\b<5/\b∉m)) (fun b hb=> .end (aW _) (.ret hb)) (fun k b hk hb=> ?_) (-1) (.inl rfl)) fun y hy=> .ret hy;have hkk:0<=(k:Int)/\(k:Int)<5:=⟨aw k,aG.2 hk⟩
 refine .go hkk.2 ?_;dsimp only;rw[(vx hm).1,ae,dV (n:=5) (by decide) hk];refine .br (fun _=> .bind (Sf hl hv k) fun y _=> ?_) (fun h=>by cases h);rw[dS,(gb m k ml).1,(gb d k hd).1];refine .br (fun _=> .br (fun _=> .ret ⟨b,rfl,hb⟩) fun hn=> .br (fun _=> .ret ⟨b,rfl,hb⟩) fun _=> ?_) fun _=> .ret ⟨b,rfl,hb⟩;have hn: (k:Int)∉m:=of_decide_eq_false hn;refine .br (fun _=> .ret ⟨(k:Int),rfl, .inr ⟨hkk.1,hkk.2,hn⟩⟩) fun h0=> ?_;have h0: ¬b<0:=of_decide_eq_false h0;exact .bind (Py hl hv r.1 hr hkk (by omega)) fun _ _=> .br (fun _=> .ret ⟨(k:Int),rfl, .inr ⟨hkk.1,hkk.2,hn⟩⟩) fun _=> .ret ⟨b,rfl,hb⟩
omit hv in
theorem Sg (m a:List Int) (hm:rz m) (ha:rz a) (want:Int):Tt (fun y=>rz y.1) (mf l m a want):=by
 have am:a.length<=maxLen:=by have:=ha.len; unfold maxLen; omega
 obtain⟨v,v1,_⟩:=qm l hl;have nil:rz [] :=fun k hk=>by simp at hk
 unfold mf;rw[xT m a hm am,Cq _ a J7 am,ae,ae,v1,ae,dS,(vx hm).1,(vx ha).1];refine .br (fun e=> .br (fun h=>by cases h) fun _=> .br (fun h=>by cases h) fun _=> ?_) fun _=> .ret nil;subst e;rw[gr,ae,dS];refine .br (fun _=> ?_) fun _=> .ret nil;have dl:=(J7.filter fun x=> !decide (x∈a)).len;have dm: (([0,1,2,3,4]:List Int).filter fun x=> !decide (x∈a)).length<=maxLen:=by unfold maxLen; omega
 generalize ([0,1,2,3,4]:List Int).filter (fun x=> !decide (x∈a))=dead at dm;refine .bind (.loop (B:=mC) (E:=Sum.elim (fun e=>rz e.2.2.1) fun e=>rz e.2.2.1) (fun s=> ∃out:List Int,s=((l,want,(),(),()),(),out,dead,())/\rz out) (fun s=>(want-s.2.2.1.length).toNat) ?_ ⟨_,rfl,hm.filter _⟩) fun y hy=> ?_
 ·rintro _ ⟨out,rfl,ho⟩
  have ol:=ho.len;refine .br (fun c=> ?_) fun _=> .ret ho;have c: (out.length:Int)<want:=of_decide_eq_true c;refine .bind (NA hl v1 out dead ho dm) fun n hn=> .br (fun _=> .ret ho) fun h=> ?_;have h: ¬n.1<0:=of_decide_eq_false h
  obtain⟨n0,n5,nm⟩:0<=n.1/\n.1<5/\n.1∉out:=by
   rcases hn with h'|h'
   ·omega
   ·exact h'
  obtain⟨r,r1,r2,r3,_,r5⟩:=Pq out n.1 (by omega) ho.pair;rw[show jK _ _=_ from r1,ae];refine .ret ⟨⟨r,rfl,uY r2 fun y hy=>((r3 y).1 hy).elim (fun e=>by rw[e]; exact⟨n0,n5⟩) (o5 ho y)⟩,?_⟩;show (want-(r.length:Int)).toNat< (want-(out.length:Int)).toNat;have:=r5 nm;omega
 ·cases y with
  |inl y=>exact .ret hy
  |inr y=>exact .ret hy
end
theorem P6 (x:dN) (ok:fk 1048576 x) (want wit:Int):Tt (fun y=>iJ 1048576 y.1) (lS x want wit):=by
 have zero:iJ 1048576 ⟨0,0,[],[]⟩:=⟨ay _,ay _⟩
 obtain⟨v,v1,_⟩:=gt x ok;unfold lS;rw[v1,ae,dS];refine .br (fun e=> ?_) fun _=> .ret zero;subst e;have vc:=i8 ok v1;rw[gr,ae,dS];refine .br (fun _=> ?_) fun _=> .ret zero;rw[gr,ae,dS];refine .br (fun _=> .br (fun _=> .ret zero) fun _=> ?_) fun _=> .ret zero;obtain⟨c,b,c1,c2,c3⟩:=I7 x ok;obtain⟨r5,w5,inr,_,_,rasc⟩:=c3 vc;have rm:c.replicas.length<=maxLen:=by unfold maxLen; omega
 rw[R4 x ok v1,ae,c1,ae];have up:=J6 (Fq x) (n:=5) (by omega);generalize xW (Fq x) 5=u at up;have um:u.length<=maxLen:=by have:=up.len; unfold maxLen; omega
 refine .bind (.count (B:=nM) (E:=fun e=> ∃have':List Int,rz have'/\e=((want,wit,(),(),(),(),(),()),(fx x,(0,0,(),(),()),(c.epoch,c.primary,(),(),()),()),u,have',c.replicas,c.witnesses,())) c.replicas.length (fun k (b:List Int)=>((want,wit,(),(),(),(),(),(k:Int),()),(fx x,(0,0,(),(),()),(c.epoch,c.primary,(),(),()),()),u,b,c.replicas,c.witnesses,())) (fun k b=>b.Sublist (c.replicas.take k)) (fun b hb=> .end (aW _) (.ret ⟨b,?_,rfl⟩)) (fun k b hk hb=> ?_) [] (List.nil_sublist _)) ?_
 ·rw[bU] at hb;exact uY (rasc.pair.sublist hb) fun y hy=>inr y (hb.subset hy)
 ·have sw:=dV rm hk;have st:b.Sublist (c.replicas.take (k+1)):=hb.trans (List.take_sublist_take_left (cc k));refine .go (aG.2 hk) (.ip ⟨aw k,aG.2 hk⟩ (.get (tn hk) fun z _ hz=> ?_));rw[show fb _ _=_ from (gb u z um).1,ae];refine .br (fun _=> .ip ⟨aw k,aG.2 hk⟩ (.get (tn hk) fun z2 _ hz2=> .srv ok vc (inr z2 hz2) fun s _ _ _=> .br (fun _=> .ip ⟨aw k,aG.2 hk⟩ (.get (tn hk) fun z3 e3 _=> ?_)) fun _=> .ret ⟨b,by rw[sw],st⟩)) fun _=> .ret ⟨b,by rw[sw],st⟩;have e3:c.replicas[k]? =some z3:=e3
  have h2: (b++ [z3]).Sublist (c.replicas.take (k+1)):=by rw[bM,e3];exact hb.append (List.Sublist.refl _)
  have h3:=h2.length_le;rw[aZ] at h3;exact .ip (by show (b++ [z3]).length*8<=2 ^ 40; omega) (.ret ⟨b++ [z3],by rw[sw],h2⟩)
 ·rintro _ ⟨hv,ha,rfl⟩
  refine .bind (Sg (eD ok.2.2.2) hv u ha up want) fun p hp=> .br (fun _=> .ret zero) fun h0=> ?_;have pl:=hp.len
  have p0:0<p.1.length:=by
   rcases be p.1.length with h|h
   ·rw[h] at h0;cases h0
   ·exact h
  refine .ip ⟨bP _,aG.2 p0⟩ (.get p0 fun q _ _=> ?_);rw[show fb _ _=_ from (gb p.1 c.primary (by unfold maxLen; omega)).1,ae];have gi: ∀w:List Int,w.length<=1-> ∀ (e p':Int) (d:Bool),Tt (fun y:dR×Bool×Unit=>iJ 1048576 y.1) (some (⟨e,p',p.1,w⟩,d,())):=fun w hw _ _ _=> .ret ⟨by show p.1.length<=_; omega,by show w.length<=_; omega⟩
  extract_lets j43
  have h43: ∀p',Tt (fun y=>iJ 1048576 y.1) (j43 p'):=fun p'=>by unfold j43;refine .br (fun _=> ?_) fun _=>gi [] (by decide) _ _ _;rw[show fJ _ _=_ from Cq _ u J7 um,ae];refine .bind (NA (eD ok.2.2.2) vc.places p.1 _ hp ?_) fun _ _=> .br (fun _=>gi [_] (aq 1) _ _ _) fun _=>gi [] (by decide) _ _ _;have:=(J7.filter fun x=> !decide (x∈u)).len;exact aO this (by unfold maxLen; omega)
  refine .br (fun _=> ?_) fun _=>h43 _;rw[show kO _=_ from vu c c2,ae];exact .br (fun _=>h43 _) fun _=>h43 _
theorem NB (x:dN) (ok:fk 1048576 x) (id t:Int):Tt (fun y=>Kp x y.1) (lR x id t):=by obtain⟨n,n1,n2⟩:=Hv x ok id;unfold lR;rw[(gp x ok).1,ae,n1,ae,dS];refine .br (fun e=> ?_) fun _=> .ret (.self ok);obtain⟨hv,h0,h5⟩:=n2 (eq_of_beq e);have vc:=i8 ok hv;have s5:=pu (eD ok.2.1) vc.sides;refine .srv ok vc ⟨h0,h5⟩ fun s _ s2 _=> ?_;obtain⟨b,b1,_⟩:=rf s id s2;rw[b1,ae,dS];refine .br (fun _=> .br (fun _=> .ret (.self ok)) fun _=> .ip h0 (.get (by omega) fun _ _ _=> ?_)) fun _=> .ret (.self ok);rw[dS];refine .br (fun _=> ?_) fun _=> .ret (.self ok);rw[dS];refine .br (fun _=> ?_) fun _=> .ret (.self ok);obtain⟨l,d,g1,_⟩:=I3 x.lease s.config.epoch id x.now t;rw[g1,ae,dS];exact .br (fun _=> .ret ⟨ok,rfl⟩) fun _=> .ret (.self ok)
theorem Pz (x:dN) (ok:fk 1048576 x) (want term:Int):Tt (fun y=>Kp x y.1) (mm x want term):=by unfold mm;rw[(gp x ok).1,ae];refine .bind (pF x ok) fun v _=> ?_;rw[dS];refine .br (fun _=> ?_) fun _=> .ret (.self ok);rw[gr,ae,dS];refine .br (fun _=> .bind (Kd x ok) fun _ _=> .br (fun _=> .ret (.self ok)) fun _=> .bind (P6 x ok want 0) fun n hn=> ?_) fun _=> .ret (.self ok);rw[dS];refine .br (fun _=> .bind (zf x ok n.1 hn) fun y hy=> ?_) fun _=> .ret (.self ok);rw[dS];refine .br (fun _=> ?_) fun _=> .ret (.self ok);obtain⟨t,t1,_⟩:=Ht x.lease;rw[t1,ae];refine .bind (P4 y.1 hy.1 _) fun z hz=> ?_;rw[dS];refine .br (fun _=> .bind (zd z.1 hz.1) fun a ha=> ?_) fun _=> .ret (.self ok);rw[dS];exact .br (fun _=> .bind (NB a.1 ha.1 _ _) fun r hr=> .ret (hy.trans (hz.trans (ha.trans hr)))) fun _=> .ret (hy.trans (hz.trans ha))
theorem Ta (x:dN) (ok:fk 1048576 x) (to:Int):Tt (fun y=>y.1=0->VC x) (pj x to):=by obtain⟨c,b,c1,c2,c3⟩:=I7 x ok;unfold pj;rw[c1,ae];refine .bind (pF x ok) fun v hv=> ?_;rw[dS];refine .br (fun h=> ?_) fun _=> .ret nofun;have vc:=hv h;have s5:=pu (eD ok.2.1) vc.sides;rw[dS];refine .br (fun hb=> ?_) fun _=> .ret nofun;obtain⟨r5,_,_,_,hp,_⟩:=c3 vc;have hp:=(hp hb).2;rw[(gb c.replicas to (by unfold maxLen; omega)).1,ae,dS];refine .br (fun _=> .br (fun _=> .ret nofun) fun _=> ?_) fun _=> .ret nofun;rw[dS];refine .br (fun _=> .br (fun _=> .ret nofun) fun _=> .br (fun _=> .ret nofun) fun _=> .bind (Kd x ok) fun _ _=> ?_) fun _=> .ret nofun;rw[dS];refine .br (fun _=> .ip hp.1 (.get (by show c.primary.toNat<x.sides.length; omega) fun _ _ _=> ?_)) fun _=> .ret nofun;rw[dS];refine .br (fun _=> .br (fun _=> ?_) fun _=> .ret fun _=>vc) fun _=> .ret nofun;rw[dS];exact .br (fun _=> .ret fun _=>vc) fun _=> .ret nofun
theorem PA (x:dN) (ok:fk 1048576 x) (to:Int):Tt (fun y=>Kp x y.1) (kG x to):=by
 obtain⟨c,b,c1,c2,c3⟩:=I7 x ok;unfold kG;rw[(gp x ok).1,ae];refine .bind (Ta x ok to) fun n hn=> ?_;rw[dS];refine .br (fun h=> ?_) fun _=> .ret (.self ok);obtain⟨r5,w5,_⟩:=c3 (hn (eq_of_beq h));rw[c1,ae];refine .bind (Ka x ok c.primary) fun y hy=> ?_;have hy':Kp x ⟨y.1.now,y.1.servers,y.1.sides,y.1.master,y.1.masterUp,⟨0,0,0⟩,y.1.places⟩:=⟨hy.1,hy.2⟩
 exact .bind (zf _ hy'.1 ⟨_,to,c.replicas,c.witnesses⟩ ⟨by show c.replicas.length<=_; omega,by show c.witnesses.length<=_; omega⟩) fun z hz=> .bind (zd z.1 hz.1) fun w hw=> .ret (hy'.trans (hz.trans hw))
end Go.Proofs.YtadabkgmdllbfaaGreat.En
namespace Go.Proofs.YtadabkgmdllbfaaGreat.En
open Go
theorem Tt.byte {α:Type} {Q:α->Prop} {b:ByteArray} {i:Nat} {k:UInt8->Option α} (hi:i<b.size) (h: ∀x,Tt Q (k x)):Tt Q ((b[i]?).bind k):=by rw[getElem?_pos b i hi];exact h _
theorem Ct (b:Int): (Ki ((([b]:List Int).drop 0).take ([b]:List Int).length)).size=1:=rfl
theorem ku (n:Int) (h:n.natAbs<=1000):Tt (fun y=>y.1.size<=1001) (gW n):=by
 unfold gW;refine .br (fun _=> .ret (by decide)) fun _=> .bind (.loop (B:=oX) (E:=fun e=>e.1.1.size<=1000) (fun s=>s.1.2.1.size+s.1.1.natAbs<=1000) (fun s=>s.1.1.natAbs) ?_ (by simpa using h)) fun y hy=> .br (fun _=> .ip ?_ (.ret ?_)) fun _=> .ret (aO hy (by omega))
 ·rintro⟨⟨n,acc,neg,_⟩,_,_⟩ hs
  have hs:acc.size+n.natAbs<=1000:=hs;refine .br (fun h0=> ?_) fun _=> .ret (by show acc.size<=1000; omega);have h0:n≠0:=fun e=>by rw[e] at h0; cases h0
  have ha: (Int.tdiv n 10).natAbs=n.natAbs / 10:=Int.natAbs_tdiv n 10;have hw:IntKind.wrap .i64 (Int.tdiv n 10)=Int.tdiv n 10:=eX (by omega) (by omega);dsimp only;rw[hw];refine .br (fun _=> .ip ⟨dI,aq _⟩ (.ip (by rw[Ct]; omega) (.ret ⟨?_,?_⟩))) fun _=> .ip ⟨dI,aq _⟩ (.ip (by rw[Ct]; omega) (.ret ⟨?_,?_⟩))
  all_goals first
   | (show (_++acc).size+(Int.tdiv n 10).natAbs<=1000; rw[ByteArray.size_append,Ct]; omega)
   | (show (Int.tdiv n 10).natAbs<n.natAbs; omega)
 ·show (⟨⟨[45]⟩⟩:ByteArray).size+y.1.1.size<=2 ^ 40;have : (⟨⟨[45]⟩⟩:ByteArray).size=1:=rfl;omega
 ·show ((⟨⟨[45]⟩⟩:ByteArray)++y.1.1).size<=1001;have : (⟨⟨[45]⟩⟩:ByteArray).size=1:=rfl;rw[ByteArray.size_append];omega
theorem Q6 {o:Op} (h:QX o=true): (0<=o.client/\o.client<=2)/\(1<=o.seq/\o.seq<=99)/\(0<=o.object/\o.object<=2)/\(0<=o.value/\o.value<=9)/\(o.kind≠1->0<=o.old/\o.old<=9):=by
 obtain⟨h1,h2,h4⟩:=QY h;have h3:=J8 (show fe o=some (true,()) by rw[tF,h]);refine⟨eG.1 h1,eG.1 h2,h3,eG.1 h4,fun hk=> ?_⟩;have h0:fe o=some (true,()):=by rw[tF,h]
 unfold fe at h0;simp only[gr,ae,h1,h2,h4,eG.2 h3,cg,fC,beq_eq_false_iff_ne.2 hk] at h0;cases hk2: (o.kind==2) with
 |false=>rw[hk2] at h0; cases h0
 |true=>rw[hk2] at h0;simp only[ef,af,an,and_true] at h0;exact eG.1 h0
theorem Lh (o:Op):Tt (fun y=>y.1.size<=10000) (qS o):=by
 unfold qS;rw[tF,ae,dS];refine .br (fun h=> ?_) fun _=> .ret (by decide);obtain⟨n1,n2,n3,n4,n5⟩:=Q6 h;have e1: (⟨⟨[46]⟩⟩:ByteArray).size=1:=rfl;have e2: (⟨⟨[32]⟩⟩:ByteArray).size=1:=rfl;have e3: (⟨⟨[119,114,105,116,101,32]⟩⟩:ByteArray).size=6:=rfl;have e4: (⟨⟨[115,119,97,112,32]⟩⟩:ByteArray).size=5:=rfl;refine .bind (ku _ (by omega)) fun a ha=> .ip (by omega) (.bind (ku _ (by omega)) fun b hb=> .ip (by rw[ByteArray.size_append]; omega) (.ip (by simp only[ByteArray.size_append]; omega) (.br (fun _=> .ip (by simp only[ByteArray.size_append]; omega) (.bind (ku _ (by omega)) fun c hc=> .ip (by simp only[ByteArray.size_append]; omega) (.ip (by simp only[ByteArray.size_append]; omega) (.bind (ku _ (by omega)) fun d hd=> .ip (by simp only[ByteArray.size_append]; omega) (.ret ?_))))) fun hk=> ?_)))
 ·show ByteArray.size _<=_;simp only[ByteArray.size_append];omega
 ·have n5:=n5 fun e=>by rw[e] at hk; cases hk
  refine .ip (by simp only[ByteArray.size_append]; omega) (.bind (ku _ (by omega)) fun c hc=> .ip (by simp only[ByteArray.size_append]; omega) (.ip (by simp only[ByteArray.size_append]; omega) (.bind (ku _ (by omega)) fun d hd=> .ip (by simp only[ByteArray.size_append]; omega) (.ip (by simp only[ByteArray.size_append]; omega) (.bind (ku _ (by omega)) fun e he=> .ip (by simp only[ByteArray.size_append]; omega) (.ret ?_))))));show ByteArray.size _<=_;simp only[ByteArray.size_append];omega
theorem I9 (l:List dY) (hl:l.length<=maxLen):Tt (fun y=>y.1.size<=1000000) (pi l):=by
 obtain⟨b,b1,b2⟩:=uZ hl;unfold pi;rw[b1,ae,dS];refine .br (fun e=> ?_) fun _=> .ret (by decide);have h16:=b2 e;subst e;have hlog:=((Np l hl).1 b1).2;refine .br (fun _=> .ret (by decide)) fun _=> .bind (.count (B:=oY) (E:=fun e=>e.1.1.size<=1000000) l.length (fun k (b:ByteArray)=>((l,b,(k:Int),()),(),())) (fun k b=>b.size<=k*20000) (fun b hb=> .end (aW _) (.ret (by show b.size<=_; omega))) (fun k b hk hb=> ?_) ByteArray.empty (ay _)) fun y hy=> .ret hy;have sw:=dV hl hk;have e1: (⟨⟨[58]⟩⟩:ByteArray).size=1:=rfl;have e2: (⟨⟨[59]⟩⟩:ByteArray).size=1:=rfl;have hb:b.size<=k*20000:=hb;have hk2:k*20000<=16*20000:=bo _ (by omega);refine .go (aG.2 hk) (.br (fun _=> .ip (by rw[e2]; show b.size+1<=_; omega) (.ip (aw k) (.get (tn hk) fun e he _=> .bind (ku _ ?_) fun y hy=> ?_))) fun _=> .ip (aw k) (.get (tn hk) fun e he _=> .bind (ku _ ?_) fun y hy=> ?_))
 case refine_1|refine_3=>have:=hlog k hk;unfold Pu at this;rw[show l[k]? =some e from he] at this;simp only[al] at this;have:=eG.1 this.1;omega
 all_goals
  dsimp only;rw[sw];refine .ip (by first |omega| (simp only[ByteArray.size_append]; omega)) (.ip (by simp only[ByteArray.size_append]; omega) (.ip (aw k) (.get (tn hk) fun e2 _ _=> .bind (Lh e2.op) fun z hz=> .ip (by simp only[ByteArray.size_append]; omega) (.ret ⟨_,rfl,?_⟩))));simp only[ByteArray.size_append];omega
theorem Li (b:ByteArray) (hb:b.size<=1000000):Tt T1 (qT b):=by unfold qT;exact .bind (.count (B:=pZ) (E:=fun _=>True) b.size (fun k (n:Int)=>((b,n,(k:Int),()),(),())) (fun _ _=>True) (fun _ _=> .end (aW _) (.ret trivial)) (fun k n hk _=> .go (aG.2 hk) (.ip (aw k) (.byte hk fun x=> .ret ⟨_,by rw[dV (n:=b.size) (by unfold maxLen; omega) hk],trivial⟩))) 5 trivial) fun _ _=> .ret trivial
theorem NC (l:List dY) (hl:l.length<=maxLen):Tt (fun y=>y.1.length<=l.length+1/\y.1.length<=17) (nW l):=by
 obtain⟨b,b1,b2⟩:=uZ hl;unfold nW;rw[b1,ae,dS];refine .br (fun e=> ?_) fun _=> .ret ⟨ay _,ay _⟩;have h16:=b2 e;refine .ip (by simp) (.bind (.count (B:=nV) (E:=fun e=>e.2.2.1.length<=l.length+1/\e.2.2.1.length<=17) l.length (fun k (b:Int×List Int)=>((l,(),b.1,(k:Int),()),(),b.2,())) (fun k b=>b.2.length=k+1) (fun b hb=> .end (aW _) (.ret (by show b.2.length<=_/\b.2.length<=_; omega))) (fun k b hk hb=> ?_) (11,[11]) rfl) fun y hy=> .ret hy);have sw:=dV hl hk;refine .go (aG.2 hk) ?_;dsimp only;rw[sw];refine .ip ⟨aw k,by omega,Int.ofNat_le.2 hk⟩ (.bind (I9 _ (aO (by rw[aZ,bk]; omega) hl)) fun y hy=> .bind (Li y.1 hy) fun z _=> .ip ?_ (.ret ⟨(_,_),rfl,?_⟩))
 ·rw[aA,az,hb];omega
 ·rw[aA,az,hb]
theorem Ke (l:List dY) (k:Int) (hl:l.length<=maxLen):Tt (fun y=>y.1≠ -1->0<=k/\k<=(l.length:Int)) (oI l k):=by unfold oI;refine .bind (NC l hl) fun y hy=> ?_;rw[eX (n:=(y.1.length:Int)-1) (by omega) (by omega),gr,ae,dS];refine .br (fun h=> ?_) fun _=> .ret fun h=>absurd rfl h;have h:=eG.1 h;exact .ip (by omega) (.get (by omega) fun _ _ _=> .ret fun _=>by omega)
theorem Q7 (x:dN) (ok:fk 1048576 x) (a b:Int):Tt (fun y=>y.1=true->VC x/\(0<=a/\a<5)/\(0<=b/\b<5)) (ph x a b):=by
 unfold ph;refine .bind (pF x ok) fun v hv=> ?_;rw[dS];refine .br (fun h=> ?_) fun _=> .ret nofun;have vc:=hv h;have h5:=pu (eD ok.2.1) vc.sides
 have side:Tt (fun y:Bool×Unit=>y.1=true->(0<=a/\a<5)/\(0<=b/\b<5)) (iu x.sides a b):=by unfold iu;simp only[vc.sides,gr,ae,ef];refine .br (fun ha=> .br (fun hb=> ?_) fun _=> .ret nofun) fun _=> .ret nofun;have ha:=eG.1 ha;have hb:=eG.1 hb;exact .ip ha.1 (.get (by omega) fun _ _ _=> .ip hb.1 (.get (by omega) fun _ _ _=> .ret fun _=>by omega))
 refine .bind side fun y hy=> ?_;rw[dS];refine .br (fun h=> ?_) fun _=> .ret nofun;obtain⟨ha,hb⟩:=hy h;refine .br (fun _=> .ret nofun) fun _=> .srv ok vc ha fun s _ s2 _=> ?_;obtain⟨n,n1,_⟩:=wR s.config a (eO s2.1);obtain⟨m,m1,_⟩:=wR s.config b (eO s2.1);rw[n1,ae,m1];have good: ∀d:Bool,Tt (fun y:Bool×Unit=>y.1=true->VC x/\(0<=a/\a<5)/\(0<=b/\b<5)) (some (d,())):=fun d=> .ret fun _=>⟨vc,ha,hb⟩
 exact .br (fun _=> .srv ok vc hb fun _ _ _ _=> .br (fun _=> .br (fun _=> .br (fun _=>good _) fun _=>good _) fun _=> .br (fun _=> .br (fun _=>good _) fun _=>good _) fun _=>good _) fun _=>good _) fun _=>good _
theorem Si (x:dN) (ok:fk 1048576 x) (a b:Int):Tt (fun y=>0<=y.1->VC x/\(0<=a/\a<5)/\(0<=b/\b<5)/\ ∃s l,x.servers[a.toNat]? =some s/\fD s=some (l,())/\l.length<=16/\y.1<=(l.length:Int)) (mh x a b):=by
 unfold mh;refine .bind (Q7 x ok a b) fun v hv=> ?_;rw[dS];refine .br (fun h=> ?_) fun _=> .ret fun h=>absurd h (by decide);obtain⟨vc,ha,hb⟩:=hv h;refine .srv ok vc ha fun s s1 s2 s3=> ?_;obtain⟨⟨l,_⟩,l1,l2⟩:=wT s s2 (Ft s2 s3);have l2:l.length<=16:=l2;rw[l1,ae];refine .srv ok vc hb fun t _ t2 _=> .srv ok vc hb fun u _ u2 _=> .bind (Q:=T1) ?_ fun d _=> .bind (Q:=fun y=>y.1=true->(t.learned.length:Int)<=(l.length:Int)) ?_ fun p hp=> ?_
 ·unfold mF;exact .bind (Ke _ _ (eD u2.2.2)) fun _ _=> .ret trivial
 ·unfold nX;refine .br (fun hd=> .bind (Ke l _ (by unfold maxLen; omega)) fun y hy=> .ret fun e=> ?_) fun _=> .ret nofun;have hd:d.1≥0:=of_decide_eq_true hd;have e:=eq_of_beq e;exact (hy (by omega)).2
 ·have tl:=t2.2.2;rw[dS];refine .br (fun e=> .ret fun _=>⟨vc,ha,hb,s,l,s1,l1,l2,?_⟩) fun _=> .ret fun _=>⟨vc,ha,hb,s,l,s1,l1,l2,?_⟩
  ·have:=hp e;show IntKind.wrap .i64 ((l.length:Int)-(t.learned.length:Int))<=_;rw[eX (by omega) (by omega)];omega
  ·show IntKind.wrap .i64 ((l.length:Int)-0)<=_;rw[eX (by omega) (by omega)];omega
theorem Q8 (x:dN) (ok:fk 1048576 x) (a b n:Int):Tt (fun y=>Kp x y.1) (mi x a b n):=by
 unfold mi;rw[(gp x ok).1,ae];refine .bind (Si x ok a b) fun y hy=> .br (fun _=> .ret (.self ok)) fun h=> ?_;have h: ¬y.1<0:=of_decide_eq_false h;obtain⟨vc,ha,hb,s,l,s1,l1,l2,le⟩:=hy (by omega);rw[gr,ae,dS];refine .br (fun w=> .ip ha.1 ?_) fun _=> .ret (.self ok);have w:=eG.1 w;rw[s1,ae,l1,ae];dsimp only;have hm: (if n<y.1 then n else y.1)<=y.1/\0<=(if n<y.1 then n else y.1):=by split<;>omega
 generalize (if n<y.1 then n else y.1)=m at hm;rw[eX (n:=(l.length:Int)-y.1) (by omega) (by omega),eX (n:=(l.length:Int)-y.1+m) (by omega) (by omega)]
 have hl: ((l.drop (0+(0:Int).toNat)).take (((l.length:Int)-y.1+m).toNat-(0:Int).toNat)).length<=1048576:=by rw[aZ,bk];omega
 refine .ip (by omega) (.ip (by omega) ?_);rw[xX hl,ae];exact .at vc.len hb fun u _ hu=> .ret ((Kp.self ok).set (s:=⟨u.up,u.intact,u.version,u.epoch,u.config,u.first,u.log,u.commit,(l.drop (0+(0:Int).toNat)).take (((l.length:Int)-y.1+m).toNat-(0:Int).toNat)⟩) ⟨(ok.1.2 u hu).1,(ok.1.2 u hu).2.1,hl⟩ _)
theorem ND {x y:dN} {n:Int} {r:Option (dN×Int×Unit)} (h:r=some (y,n,())/\fk 1048576 y/\y.servers.length=x.servers.length):Tt (fun z=>Kp x z.1) r:=⟨_,h.1,h.2⟩
theorem Sj (x:dN) (ok:fk 1048576 x) (e:fm):Tt (fun y=>Kp x y.1) (sI x e):=by obtain⟨_,_,c1⟩:=QZ x ok e.server;obtain⟨_,_,c2⟩:=Ns x ok e.server;obtain⟨_,_,c3⟩:=R7 x ok e.server;obtain⟨_,_,c4⟩:=R8 x ok e.server e.n;obtain⟨_,_,c5⟩:=Nt x ok e.n;unfold sI;refine .br (fun _=> .bind (NB x ok _ _) fun y hy=> .ret hy) fun _=> .br (fun _=> .bind (P6 x ok _ _) fun n hn=> ?_) fun _=> .br (fun _=> .bind (zd x ok) fun y hy=> .ret hy) fun _=> .br (fun _=> .bind (ND c1) fun y hy=> .ret hy) fun _=> .br (fun _=> .bind (ND c2) fun y hy=> .ret hy) fun _=> .br (fun _=> .bind (ND c3) fun y hy=> .ret hy) fun _=> .br (fun _=> .bind (ND c4) fun y hy=> .ret hy) fun _=> .br (fun _=> .bind (ND c5) fun y hy=> .ret hy) fun _=> .br (fun _=> .bind (P4 x ok _) fun y hy=> .ret hy) fun _=> .br (fun _=> .bind (Q8 x ok _ _ _) fun y hy=> .br (fun _=> .ret hy) fun _=> .ret hy) fun _=> .br (fun _=> .bind (Ny x ok _) fun y hy=> .ret hy) fun _=> .br (fun _=> .bind (I8 x ok _) fun y hy=> .ret hy) fun _=> .br (fun _=> .bind (PA x ok _) fun y hy=> .ret hy) fun _=> .bind (Pz x ok _ _) fun y hy=> .ret hy;rw[dS];refine .br (fun _=> .bind (zf x ok _ hn) fun y hy=> .ret hy) fun _=> ?_;rw[(gp x ok).1];exact .ret (.self ok)
theorem Sk (k:Int):Tt T1 (sm k):=by
 unfold sm
 repeat first |exact .ret trivial|refine .br (fun _=> ?_) fun _=> ?_
theorem NE (e:fm):Tt T1 (lr e):=by
 unfold lr;simp only[gr,ae,tF];refine .br (fun _=> .ret trivial) fun _=> .br (fun _=> .ret trivial) fun _=> .br (fun _=> .ret trivial) fun _=> .br (fun _=> .ret trivial) fun _=> .bind (Sk _) fun _ _=> ?_
 repeat first |exact .ret trivial|refine .br (fun _=> ?_) fun _=> ?_
theorem Lj (x:dN) (ok:fk 1048576 x) (e:fm):Tt (fun y=>Kp x y.1) (qV x e):=by unfold qV;rw[(gp x ok).1];refine .bind (pF x ok) fun _ _=> .br (fun _=> .ret (Kp.self ok)) fun _=> .bind (NE e) fun _ _=> .br (fun _=> .ret (Kp.self ok)) fun _=> .br (fun _=> .bind (Pw x ok _ _) fun y hy=> .ret hy) fun _=> .br (fun _=> ?_) fun _=> .bind (Sj x ok e) fun y hy=> .ret hy;exact .bind (Q:=fun y=>Kp x y.1) ⟨_,rfl,Kp.self ok⟩ fun y hy=> .bind (I5 x ok _ _) fun _ _=> .ret hy
theorem Ja (x:dN) (ok:fk 1048576 x) (l:List fm) (hl:l.length<=1048576):Tt (fun y=>Kp x y.1/\y.2.1.length<=l.length) (pk x l):=by
 have lm:=eD hl;unfold pk;rw[(gp x ok).1,ae];refine .bind (.count (B:=oZ) (E:=fun e=> ∃ (c:dN) (r:List ka),Kp x c/\r.length<=l.length/\e=(((),(),(),()),(fz,fc c,()),r,c.servers,c.sides,c.master.configs,c.places,())) l.length (fun k (b:dN×List ka)=>((l,(),(),(),(k:Int),()),(fz,fc b.1,()),b.2,b.1.servers,b.1.sides,b.1.master.configs,b.1.places,())) (fun k b=>Kp x b.1/\b.2.length<=k) (fun b hb=> .end (aW _) (.ret ⟨b.1,b.2,hb.1,hb.2,rfl⟩)) (fun k b hk hb=> .go (aG.2 hk) (.br (fun _=> .ip (aw k) (.get (tn hk) fun e _ _=> .bind (Lj b.1 hb.1.1 e) fun y hy=> .ip ?_ (.ret ⟨(y.1,b.2++ [y.2.1]),by rw[dV lm hk],hb.1.trans hy,?_⟩))) fun _=> .ret ⟨b.1,b.2,hb.1,by omega,rfl⟩)) (x,[]) ⟨.self ok,aq _⟩) ?_
 ·show (b.2++ [y.2.1]).length*32<=2 ^ 40;rw[aA,az];omega
 ·rw[aA,az];omega
 ·rintro _ ⟨c,r,hc,hr,rfl⟩
  exact .ret ⟨hc,hr⟩
end Go.Proofs.YtadabkgmdllbfaaGreat.En
