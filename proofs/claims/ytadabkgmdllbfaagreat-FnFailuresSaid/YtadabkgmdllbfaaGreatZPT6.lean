/- Plain laws. -/
import Derived.Test.YtadabkgmdllbfaaGreatZB
namespace Go.Proofs.YtadabkgmdllbfaaGreat.En
open Go
def fE [dP] (c:fT):Prop:= ∃l,l5 c.b=some l/\l.length<=maxLen/\(∀m∈l,0<=m/\m<=255)/\0<=c.i/\c.i<=c.b.n
def Dn [dP] {α:Type} (Q:α->Prop) (r:Option (List fT×α)):Prop:= ∃c a,r=some ([c],a)/\fE c/\Q a
section
variable [dP] {α β:Type} {Q:α->Prop} {Q':β->Prop}
theorem Dn.ret {c:fT} {a:α} (hc:fE c) (h:Q a):Dn Q (some ([c],a)):=⟨c,a,rfl,hc,h⟩
theorem Dn.bind {r:Option (List fT×α)} {k:List fT×α->Option (List fT×β)} (h:Dn Q r) (hk: ∀c a,fE c->Q a->Dn Q' (k ([c],a))):Dn Q' (r.bind k):=by obtain⟨c,a,rfl,h1,h2⟩:=h;exact hk c a h1 h2
theorem Dn.mono {Q2:α->Prop} {r:Option (List fT×α)} (h:Dn Q r) (hq: ∀a,Q a->Q2 a):Dn Q2 r:=by obtain⟨c,a,h1,h2,h3⟩:=h;exact⟨c,a,h1,h2,hq a h3⟩
theorem Dn.iteP {p:Prop} [Decidable p] {x y:Option (List fT×α)} (hp:p) (h:Dn Q x):Dn Q (iteP p x y):=by rw[hQ hp];exact h
theorem Dn.br {b:Bool} {x y:Option (List fT×α)} (h1:b=true->Dn Q x) (h2:b=false->Dn Q y):Dn Q (br b x y):=by
 cases b with
 |true=>exact h1 rfl
 |false=>exact h2 rfl
theorem Dn.get {γ:Type} {l:List γ} {i:Nat} {k:γ->Option (List fT×α)} (hi:i<l.length) (h: ∀x∈l,Dn Q (k x)):Dn Q ((l[i]?).bind k):=by rw[ah hi];exact h _ (bw hi)
end
theorem Hf (x:Int):0<=bits .and .i64 x 255/\bits .and .i64 x 255<=255:=by
 have h: (BitVec.ofInt 64 x&&& BitVec.ofInt 64 255).toNat<=255:=by rw[BitVec.toNat_and];exact Nat.and_le_right
 show 0<=IntKind.wrap .i64 _/\IntKind.wrap .i64 _<=255;have e:IntKind.wrap .i64 ((BitVec.ofInt 64 x&&& BitVec.ofInt 64 255).toNat:Int)=((BitVec.ofInt 64 x&&& BitVec.ofInt 64 255).toNat:Int):=eX (by omega) (by omega);have e2:bits .and .i64 x 255=IntKind.wrap .i64 ((BitVec.ofInt 64 x&&& BitVec.ofInt 64 255).toNat:Int):=rfl;rw[<-e2] at e;constructor
 ·show 0<=bits .and .i64 x 255;omega
 ·show bits .and .i64 x 255<=255;omega
theorem JX {x n:Int} (hx:0<=x) (hn:0<n):0<=x.tmod n/\x.tmod n<n:=⟨Int.tmod_nonneg _ hx,Int.tmod_lt_of_pos _ hn⟩
section
variable [dP]
theorem QO {x:Hd} {l:List Int} (h:l5 x=some l) (hl:l.length<=maxLen) (hb: ∀m∈l,0<=m/\m<=255):Dn (fun _:Unit=>True) (EG x):=by unfold EG EF;rw[h];exact⟨_,(),rfl,⟨l,h,hl,hb,bP _,aw _⟩,trivial⟩
theorem xN {c:fT} (h:fE c):Dn (fun y:Int×Unit=>0<=y.1/\y.1<=255) (rY [c]):=by
 obtain⟨l,h1,h2,h3,h4,h5⟩:=h;show Dn _ ((vk c).map fun y=>([y.1],y.2,()));unfold vk;have hlen:=(ww h1).1;by_cases hi:c.i< (c.b.n:Int)
 ·rw[if_pos hi,if_pos h4,h1,ae,ah (by omega)];refine⟨_,_,rfl,⟨l,h1,h2,h3,?_,?_⟩,Hf _⟩
  ·show 0<=RowKit.wrap64 (c.i+1);unfold RowKit.wrap64;simp only[maxLen] at h2;omega
  ·show RowKit.wrap64 (c.i+1)<=c.b.n;unfold RowKit.wrap64;simp only[maxLen] at h2;omega
 ·rw[if_neg hi];exact⟨_,_,rfl,⟨l,h1,h2,h3,h4,h5⟩,Hf _⟩
theorem fV {c:fT} (h:fE c) (n:Int):Dn (fun y:Int×Unit=>0<=y.1/\(y.1<n\/n<=0/\y.1=0)) (eb [c] n):=by
 unfold eb;refine .br (fun hn=> .ret h ⟨bP _, .inr ⟨of_decide_eq_true hn,rfl⟩⟩) fun hn=> ?_;have hn:=of_decide_eq_false hn;refine .br (fun _=> .bind (xN h) fun c1 y h1 hy=> .iteP rfl ?_) fun _=> .bind (xN h) fun c1 y h1 hy=> .iteP rfl (.bind (xN h1) fun c2 y2 h2 hy2=> .iteP rfl (.bind (xN h2) fun c3 y3 h3 hy3=> .iteP rfl (.bind (xN h3) fun c4 y4 h4 hy4=> .iteP rfl ?_)))
 ·rw[GM (by omega)];have:=JX hy.1 (show 0<n by omega);exact .ret h1 ⟨this.1, .inl this.2⟩
 ·rw[GM (by omega)];simp only;rw[eX (n:=y.1*16777216) (by omega) (by omega),eX (n:=y2.1*65536) (by omega) (by omega),eX (n:=y3.1*256) (by omega) (by omega),eX (n:=y.1*16777216+y2.1*65536) (by omega) (by omega),eX (n:=y.1*16777216+y2.1*65536+y3.1*256) (by omega) (by omega),eX (n:=y.1*16777216+y2.1*65536+y3.1*256+y4.1) (by omega) (by omega)];have:=JX (show 0<=y.1*16777216+y2.1*65536+y3.1*256+y4.1 by omega) (show 0<n by omega);exact .ret h4 ⟨this.1, .inl this.2⟩
theorem mG {c:fT} (h:fE c) {n:Int} (hn:0<n):Dn (fun y:Int×Unit=>0<=y.1/\y.1<n) (eb [c] n):=(fV h n).mono fun y hy=>⟨hy.1,by omega⟩
theorem kr {c:fT} (h:fE c) (n:Int):Dn (fun _:Bool×Unit=>True) (gk [c] n):=by unfold gk;exact .bind (fV h n) fun c1 y h1 hy=> .iteP rfl (.ret h1 trivial)
theorem ir {c:fT} (h:fE c) {l:List Int} (hl:l≠ []):Dn (fun y:Int×Unit=>y.1∈l) (ev [c] l):=by unfold ev;have h0:0<l.length:=List.length_pos_iff.2 hl;refine .bind (mG h (show 0< (l.length:Int) by omega)) fun c1 y h1 hy=> .iteP rfl (.iteP hy.1 (.get (by show y.1.toNat<l.length; have:=hy.1; have:=hy.2; omega) fun x hx=> .ret h1 hx))
theorem Hg {c:fT} (h:fE c):Dn (fun _:Op×Unit=>True) (rG [c]):=by
 unfold rG
 repeat first |exact .ret (by assumption) trivial|refine .iteP rfl ?_|refine .br (fun _=> ?_) fun _=> ?_|refine .bind (fV (by assumption) _) fun _ _ _ _=> ?_|refine .bind (kr (by assumption) _) fun _ _ _ _=> ?_|refine .bind (ir (by assumption) (by simp)) fun _ _ _ _=> ?_
theorem M8 {c:fT} (h:fE c):Dn (fun _:fL×Unit=>True) (uH [c]):=by
 unfold uH;dsimp only
 repeat first |exact .ret (by assumption) trivial|refine .iteP rfl ?_|refine .br (fun _=> ?_) fun _=> ?_|refine .bind (fV (by assumption) _) fun _ _ _ _=> ?_|refine .bind (kr (by assumption) _) fun _ _ _ _=> ?_|refine .bind (ir (by assumption) (by simp)) fun _ _ _ _=> ?_
theorem M9 {c:fT} (h:fE c):Dn (fun _:fk×Unit=>True) (qA [c]):=by
 unfold qA;dsimp only
 repeat first |exact .ret (by assumption) trivial|refine .iteP rfl ?_|refine .br (fun _=> ?_) fun _=> ?_|refine .bind (fV (by assumption) _) fun _ _ _ _=> ?_|refine .bind (kr (by assumption) _) fun _ _ _ _=> ?_|refine .bind (ir (by assumption) (by simp)) fun _ _ _ _=> ?_|refine .bind (Hg (by assumption)) fun _ _ _ _=> ?_
def Ro {σ ε:Type} (I:σ->Prop) (E:ε->Prop) (r:Option (σ⊕ε)):Prop:=(∃s,r=some (.inl s)/\I s)\/ ∃e,r=some (.inr e)/\E e
section
variable {σ ε α:Type} {I:σ->Prop} {E:ε->Prop} {Q:α->Prop}
omit [dP] in
theorem Ro.again {s:σ} (h:I s):Ro I E (some (.inl s)):= .inl ⟨s,rfl,h⟩
omit [dP] in
theorem Ro.done {e:ε} (h:E e):Ro I E (some (.inr e)):= .inr ⟨e,rfl,h⟩
omit [dP] in
theorem Ro.iteP {p:Prop} [Decidable p] {x y:Option (σ⊕ε)} (hp:p) (h:Ro I E x):Ro I E (iteP p x y):=by rw[hQ hp];exact h
omit [dP] in
theorem Ro.br {b:Bool} {x y:Option (σ⊕ε)} (h1:b=true->Ro I E x) (h2:b=false->Ro I E y):Ro I E (br b x y):=by
 cases b with
 |true=>exact h1 rfl
 |false=>exact h2 rfl
theorem Ro.draw {r:Option (List fT×α)} {k:List fT×α->Option (σ⊕ε)} (h:Dn Q r) (hk: ∀c a,fE c->Q a->Ro I E (k ([c],a))):Ro I E (r.bind k):=by obtain⟨c,a,rfl,h1,h2⟩:=h;exact hk c a h1 h2
omit [dP] in
theorem Fg {B:σ->Option (σ⊕ε)} (μ:σ->Nat) (h: ∀s,I s->Ro (fun s'=>I s'/\μ s'<μ s) E (B s)) {s:σ} (hs:I s): ∃e,gV B s=some e/\E e:=
 xh I μ E (fun s hs=>(h s hs).imp (fun ⟨s',a,b,c⟩=>⟨s',a,b,c⟩) id) hs
end
theorem Hh {c:fT} (h:fE c) {n:Int} (h0:0<=n) {evs:List fk} {M:Nat} (hM:evs.length+n.toNat<=M) (hM2:M<=1000):Dn (fun y:List fk×Unit=>y.1.length<=M) ((oM (((),(),n,()),(()),[c],evs,())).bind fun e=>some e.2.2):=by
 unfold oM
 obtain⟨⟨_,_,l,ps,_⟩,h1,c2,rfl,h2,h3⟩:=Fg (B:=mb) (I:=fun s=> ∃c,s.2.2.1= [c] /\fE c/\0<=s.1.2.2.1/\s.2.2.2.1.length+s.1.2.2.1.toNat<=M) (E:=fun e=> ∃c,e.2.2.1= [c] /\fE c/\e.2.2.2.1.length<=M) (fun s=>s.1.2.2.1.toNat) (by
  rintro⟨⟨_,_,k,_⟩,_,l,ps,_⟩ ⟨c,rfl,hc,h0,h1⟩
  simp only at h0 h1;unfold mb;refine .br (fun hk=> ?_) fun hk=> .done ⟨c,rfl,hc,by show ps.length<=M; omega⟩;have hk:k>0:=of_decide_eq_true hk;have e:IntKind.wrap .i64 (k-1)=k-1:=eX (by omega) (by omega)
  have gg: ∀ (c:fT) (x:fk),fE c->Ro (fun s': (Unit×Unit×Int×Unit)×Unit×List fT×List fk×Unit=>(∃c,s'.2.2.1= [c] /\fE c/\0<=s'.1.2.2.1/\s'.2.2.2.1.length+s'.1.2.2.1.toNat<=M)/\s'.1.2.2.1.toNat<k.toNat) (fun e: (Unit×Unit)×Unit×List fT×List fk×Unit=> ∃c,e.2.2.1= [c] /\fE c/\e.2.2.2.1.length<=M) (iteP ((ps++ [x]).length*80<=2 ^ 40) (some (.inl (((),(),IntKind.wrap .i64 (k-1),()),(()),[c],ps++ [x],()))) none):=fun c x hc=>by refine .iteP (by simp only[aA,az]; omega) (.again ?_);simp only[e];exact⟨⟨c,rfl,hc,by omega,by simp only[aA,az]; omega⟩,by omega⟩
  refine .draw (M9 hc) fun c1 _ h1 _=> .iteP rfl (.br (fun _=> .draw (kr h1 _) fun c2 _ h2 _=> .iteP rfl (.br (fun _=> .draw (ir h2 (by simp)) fun c3 _ h3 _=> .iteP rfl (gg _ _ h3)) fun _=>gg _ _ h2)) fun _=>gg _ _ h1)) (s:=(((),(),n,()),(()),[c],evs,())) ⟨c,rfl,h,h0,hM⟩
 rw[h1];exact⟨c2,_,rfl,h2,h3⟩
theorem K6 {c:fT} (h:fE c) {n:Int} (h0:0<=n) (hn:n<=100):Dn (fun y:List fk×Unit=>y.1.length<=200) (o8 [c] n):=by
 unfold o8;rw[eX (n:=n+1) (by omega) (by omega)];refine .bind (fV h _) fun c1 _ h1 _=> .iteP rfl (.bind (fV h1 _) fun c2 _ h2 _=> .iteP rfl (.bind (kr h2 _) fun c3 _ h3 _=> .iteP rfl (.br (fun _=> ?_) fun _=> ?_)))
 ·exact .bind (mG h3 (by omega)) fun c4 y h4 hy=> .iteP rfl (Hh h4 hy.1 (by have:=hy.2; simp only[bz,b9]; omega) (by omega))
 ·exact .bind (mG h3 (by omega)) fun c4 y h4 hy=> .iteP rfl (Hh h4 hy.1 (by have:=hy.2; simp only[bz,b9]; omega) (by omega))
theorem Na {c:fT} (h:fE c):Dn (fun y:List Int×Unit=>y.1.length=5) (qU [c]):=by
 unfold qU xE
 obtain⟨⟨_,_,l,ps,_⟩,h1,c2,rfl,h2,h3⟩:=Fg (B:=nY) (I:=fun s=> ∃c,s.2.2.1= [c] /\fE c/\0<=s.1.2.2.1/\s.1.2.2.1<=5/\(s.2.2.2.1.length:Int)=s.1.2.2.1) (E:=fun e=> ∃c,e.2.2.1= [c] /\fE c/\e.2.2.2.1.length=5) (fun s=>(5-s.1.2.2.1).toNat) (by
  rintro⟨⟨_,_,k,_⟩,_,l,ps,_⟩ ⟨c,rfl,hc,h0,h1,h2⟩
  simp only at h0 h1 h2;unfold nY;refine .br (fun hk=> ?_) fun hk=> .done ⟨c,rfl,hc,by have : ¬k<5:=of_decide_eq_false hk; show ps.length=5; omega⟩;have hk:k<5:=of_decide_eq_true hk;refine .draw (ir hc (by simp)) fun c1 _ h1 _=> .iteP rfl (.iteP (by simp only[aA,az]; omega) (.again ?_));simp only;rw[eX (n:=k+1) (by omega) (by omega)];exact⟨⟨c1,rfl,h1,by omega,by omega,by simp only[aA,az]; omega⟩,by omega⟩) (s:=(((),(),0,()),(()),[c],([]:List Int),())) ⟨c,rfl,h,bP _,by simp,by simp⟩
 rw[h1];exact⟨c2,_,rfl,h2,h3⟩
theorem Nb {c:fT} (h:fE c):Dn (fun y:List dY×Unit=>y.1.length<=6) (vp [c]):=by
 unfold vp;refine .bind (mG h (by decide)) fun c0 y0 hc0 hy0=> .iteP rfl ?_;unfold DJ
 obtain⟨⟨_,_,l,ps,_⟩,h1,c2,rfl,h2,h3⟩:=Fg (B:=sG) (I:=fun s=> ∃c,s.2.2.1= [c] /\fE c/\0<=s.1.2.2.2.1/\s.2.2.2.1.length+s.1.2.2.2.1.toNat<=6) (E:=fun e=> ∃c,e.2.2.1= [c] /\fE c/\e.2.2.2.1.length<=6) (fun s=>s.1.2.2.2.1.toNat) (by
  rintro⟨⟨_,_,g,k,_⟩,_,l,ps,_⟩ ⟨c,rfl,hc,h0,h1⟩
  simp only at h0 h1;unfold sG;refine .br (fun hk=> ?_) fun hk=> .done ⟨c,rfl,hc,by show ps.length<=6; omega⟩;have hk:k>0:=of_decide_eq_true hk;have e:IntKind.wrap .i64 (k-1)=k-1:=eX (by omega) (by omega);refine .draw (kr hc _) fun c1 _ h1 _=> .iteP rfl (.br (fun _=> .draw (Hg h1) fun c2 _ h2 _=> .iteP rfl (.iteP (by simp only[aA,az]; omega) (.again ?_))) fun _=> .draw (Hg h1) fun c2 _ h2 _=> .iteP rfl (.iteP (by simp only[aA,az]; omega) (.again ?_)))
  all_goals
   simp only[e];exact⟨⟨c2,rfl,h2,by omega,by simp only[aA,az]; omega⟩,by omega⟩) (s:=(((),(),1,y0.1,()),(()),[c0],([]:List dY),())) ⟨c0,rfl,hc0,hy0.1,by have:=hy0.2; simp; omega⟩
 rw[h1];exact⟨c2,_,rfl,h2,h3⟩
theorem Nc {c:fT} (h:fE c):Dn (fun _:Op×Unit=>True) (xG [c]):=by
 unfold xG;refine .bind (Hg h) fun _ _ _ _=> ?_
 repeat first |exact .ret (by assumption) trivial|refine .iteP rfl ?_|refine .br (fun _=> ?_) fun _=> ?_|refine .bind (fV (by assumption) _) fun _ _ _ _=> ?_|refine .bind (kr (by assumption) _) fun _ _ _ _=> ?_|refine .bind (ir (by assumption) (by simp)) fun _ _ _ _=> ?_
theorem K7 {c:fT} (h:fE c):Dn (fun y:List dY×Unit=>y.1.length<=17) (xH [c]):=by
 unfold xH;refine .bind (Nb h) fun c1 y h1 hy=> .iteP rfl (.bind (fV h1 _) fun c2 _ h2 _=> .iteP rfl (.br (fun _=> ?_) fun _=> .br (fun _=> ?_) fun _=> .ret h2 (by show y.1.length<=17; omega)))
 ·refine .bind (ir h2 (by simp)) fun c3 _ h3 _=> .iteP rfl (.bind (Nc h3) fun c4 z h4 _=> .iteP rfl ?_);have e: ∀x:dY,(y.1++ [x]).length<=17:=fun x=>by simp only[aA,az]; omega
  exact .iteP (aO (bo _ (e _)) (by decide)) (.ret h4 (e _))
 ·unfold DL
  obtain⟨⟨_,_,l,ps,_⟩,h1,c2,rfl,h2,h3⟩:=Fg (B:=qg) (I:=fun s=> ∃c,s.2.2.1= [c] /\fE c/\s.2.2.2.1.length<=17) (E:=fun e=> ∃c,e.2.2.1= [c] /\fE c/\e.2.2.2.1.length<=17) (fun s=>17-s.2.2.2.1.length) (by
   rintro⟨⟨_,_,_⟩,_,l,ps,_⟩ ⟨c,rfl,hc,h0⟩
   simp only at h0;unfold qg;refine .br (fun hk=> ?_) fun hk=> .done ⟨c,rfl,hc,h0⟩;have hk: (ps.length:Int)<17:=of_decide_eq_true hk;refine .draw (Hg hc) fun c1 _ h1 _=> .iteP rfl (.iteP (by simp only[aA,az]; omega) (.again ?_));exact⟨⟨c1,rfl,h1,by simp only[aA,az]; omega⟩,by simp only[aA,az]; omega⟩) (s:=(((),(),()),(()),[c2],y.1,())) ⟨c2,rfl,h2,by show y.1.length<=17; omega⟩
  show Dn _ ((gV qg (((),(),()),(()),[_],y.1,())).bind _);rw[h1];exact⟨c2,_,rfl,h2,h3⟩
end
end Go.Proofs.YtadabkgmdllbfaaGreat.En
namespace Go.Proofs.YtadabkgmdllbfaaGreat.En
open Go
def iJ (M:Nat) (c:dR):Prop:=c.replicas.length<=M/\c.witnesses.length<=M
def gb (M:Nat) (s:dQ):Prop:=iJ M s.config/\s.log.length<=M/\s.learned.length<=M
def rd (M:Nat) (m:dW):Prop:=m.configs.length<=M/\ ∀c∈m.configs,iJ M c
def fj (M:Nat) (c:dN):Prop:=(c.servers.length<=M/\ ∀s∈c.servers,gb M s)/\c.sides.length<=M/\rd M c.master/\c.places.length<=M
theorem eC {n:Nat} (h:n<=1048576):n<=maxLen:=by unfold maxLen; omega
end Go.Proofs.YtadabkgmdllbfaaGreat.En
namespace Go.Proofs.YtadabkgmdllbfaaGreat.En
open Go
theorem wM {ρ:Type} (a b:Int) (x y:ρ):br (a==b) x y=if a=b then x else y:=by rw[QD];by_cases h:a=b<;>simp[h]
theorem dS {ρ:Type} (b:Bool) (x y:ρ):br (!b) x y=br b y x:=by cases b<;>rfl
def kK (x a b:Int):Bool:=decide (a<=x)&&decide (x<=b)
theorem gr (x a b:Int):ek x a b=some (kK x a b,()):=by unfold ek kK;rw[ed];split<;>rename_i h<;>simp[h]
theorem p9 (x a b:Int):eK x a b=some (kK x a b,()):=by unfold eK kK;rw[ed];split<;>rename_i h<;>simp[h]
theorem eF {x a b:Int}:kK x a b=true↔a<=x/\x<=b:=by simp[kK]
def rv (l:List Int):Prop:= ∀k (h:k<l.length),(0<=l[k] /\l[k] <=4)/\ ∀_:0<k,l[k-1]'(by omega)<l[k]
theorem tz (l:List Int) (hl:l.length<=maxLen): (fY l=some (true,())/\iC l=some (true,())/\rv l)\/(fY l=some (false,())/\iC l=some (false,())):=by
 have gg:=nB (B1:=gG) (B2:=gO) l.length (fun k=>((l,(k:Int),()),(),())) (fun k=>((l,l,(l.length:Int),(k:Int),()),(),())) (.inr (((),()),(),())) (.inr (((),()),(),())) (fun _=> .inl ((false,()),(),())) (fun _=> .inl ((false,()),(),()))
  (fun k=> ∀h:k<l.length,(0<=l[k] /\l[k] <=4)/\ ∀_:0<k,l[k-1]'(by omega)<l[k]) (fun _=>True)
  (by simp only[gG]; rw[ed,if_neg (by omega)])
  (by simp only[gO]; rw[ed,if_neg (by omega)])
  (fun k hk=>by
    have c1: (k:Int)< (l.length:Int):=by omega
    have c2: (0:Int)<=(k:Int):=by omega
    have e1:l[k]? =some l[k] :=ah hk;simp only[gG,gO,ed,eh,if_pos c1,if_pos c2,aB,e1,ae,gr,p9];cases hw:kK l[k] 0 4 with
    |false=>exact .inr ⟨rfl,rfl,trivial⟩
    |true=>
     simp only[cg,fB];have hw:=eF.1 hw;by_cases h0:0<k
     ·have c3: (k:Int)>0:=by omega
      have c4: (0:Int)<=((k-1:Nat):Int):=by omega
      have e2:l[k-1]? =some l[k-1] :=ah (by omega);simp only[if_pos c3,ou h0 (by omega),if_pos c4,aB,e2,ae];by_cases hlt:l[k-1]<l[k]
      ·rw[if_neg (by omega),if_neg (by omega),dV hl hk];exact .inl ⟨rfl,rfl,fun _=>⟨hw,fun _=>hlt⟩⟩
      ·rw[if_pos (by omega),if_pos (by omega)];exact .inr ⟨rfl,rfl,trivial⟩
     ·rw[if_neg (by omega),if_neg (by omega),dV hl hk];exact .inl ⟨rfl,rfl,fun _=>⟨hw,fun h=>absurd h h0⟩⟩)
 unfold fY iC;rcases gg with ⟨k1,k2,k3⟩| ⟨k,_,k1,k2,_⟩
 ·rw[show nE ((l,0,()),(),())=_ from k1,show n9 ((l,l,(l.length:Int),0,()),(),())=_ from k2];exact .inl ⟨rfl,rfl,fun k hk=>k3 k hk hk⟩
 ·rw[show nE ((l,0,()),(),())=_ from k1,show n9 ((l,l,(l.length:Int),0,()),(),())=_ from k2];exact .inr ⟨rfl,rfl⟩
theorem rv.lt {l:List Int} (h:rv l): ∀ (d i:Nat) (h2:i+d+1<l.length),l[i]'(by omega)<l[i+d+1] :=by
 intro d
 induction d with
 |zero=>intro i h2;exact (h (i+1) h2).2 (by omega)
 |succ d ih=>intro i h2;have h1:=ih i (by omega);have h3:=(h (i+d+1+1) h2).2 (by omega);exact Int.lt_trans h1 h3
theorem rv.pair {l:List Int} (h:rv l):l.Pairwise (· < ·):=by rw[bW];intro i j hi hj hij;have:=h.lt (j-i-1) i (by omega);simpa [show i+(j-i-1)+1=j by omega] using this
theorem rv.len {l:List Int} (h:rv l):l.length<=5:=by
 have ge: ∀k (hk:k<l.length),(k:Int)<=l[k] :=by
  intro k
  induction k with
  |zero=>intro hk; exact (h 0 hk).1.1
  |succ k ih=>intro hk;have h1:=ih (by omega);have h2:=(h (k+1) hk).2 (by omega);simp only[bS] at h2;omega
 rcases cM 5 l.length with hlt|hge
 ·have h1:=ge 5 hlt;have h2:=(h 5 hlt).1.2;omega
 ·exact hge
theorem ga (l:List Int) (x:Int) (hl:l.length<=maxLen):eZ l x=some (decide (x∈l),())/\ka l x=some (decide (x∈l),()):=by
 have gg:=nB (B1:=kN) (B2:=jV) l.length (fun k=>((l,x,(k:Int),()),(),())) (fun k=>((l,x,(l.length:Int),(k:Int),()),(),())) (.inr (((),()),(),())) (.inr (((),()),(),())) (fun _=> .inl ((true,()),(),())) (fun k=> .inl (((k:Int),()),(),()))
  (fun k=>l[k]? ≠some x) (fun k=>l[k]? =some x)
  (by simp only[kN]; rw[ed,if_neg (by omega)])
  (by simp only[jV]; rw[ed,if_neg (by omega)])
  (fun k hk=>by
    have c1: (k:Int)< (l.length:Int):=by omega
    have c2: (0:Int)<=(k:Int):=by omega
    have e1:l[k]? =some l[k] :=ah hk;simp only[kN,jV,ed,eh,if_pos c1,if_pos c2,aB,e1,ae,dV hl hk,wM];by_cases he:l[k] =x
    ·rw[if_pos he,if_pos he.symm,he];exact .inr ⟨rfl,rfl,rfl⟩
    ·rw[if_neg he,if_neg (fun h=>he h.symm)];exact .inl ⟨rfl,rfl,fun h=>he (Option.some.inj h)⟩)
 unfold eZ ka mF pX;rcases gg with ⟨k1,k2,k3⟩| ⟨k,hk,k1,k2,k3⟩
 ·rw[show rH ((l,x,0,()),(),())=_ from k1,show qV ((l,x,(l.length:Int),0,()),(),())=_ from k2]
  have hn:x∉l:=fun h=>by obtain⟨k,hk,he⟩:=aP h;exact k3 k hk (by rw[ah hk,he])
  rw[decide_eq_false hn];exact⟨rfl,rfl⟩
 ·rw[show rH ((l,x,0,()),(),())=_ from k1,show qV ((l,x,(l.length:Int),0,()),(),())=_ from k2];rw[decide_eq_true (au k3)];refine⟨rfl,?_⟩;simp only[ae,cU];rw[decide_eq_true (by omega)]
end Go.Proofs.YtadabkgmdllbfaaGreat.En
namespace Go.Proofs.YtadabkgmdllbfaaGreat.En
open Go
theorem lX {n:Nat} (h:n<=1048576):n*8<=2 ^ 40:=by
 have : (2:Nat) ^ 40=1099511627776:=by decide
 omega
theorem Fh (l:List Int) (x:Int) (hl:l.length<=1000) (h: ∀y∈l,y<x):jJ l x=some (l++ [x],()):=by
 have hm:l.length<=maxLen:=by unfold maxLen; omega
 have gg:=l9 (B:=lN) l (fun k (_:Unit)=>((l,x,(k:Int),()),(),())) (fun _ _=>True) (fun k r _=>((l,x,((k+r.length:Nat):Int),()),(),()))
  (fun b hb=>by simp only[lN];rw[ed,if_neg (by omega)];rfl)
  (fun k b y hy hb=>by
    have hk:=jL hy;have c1: (k:Int)< (l.length:Int):=by omega
    have c2: (0:Int)<=(k:Int):=by omega
    refine .inl ⟨(),?_,trivial,?_⟩
    ·simp only[lN,ed,eh,if_pos c1,if_pos c2,aB,hy,ae,if_pos (h y (au hy)),dV hm hk]
    ·rw[bz,show k+((l.drop (k+1)).length+1)=k+1+(l.drop (k+1)).length by omega])
  0 () (ay _) trivial
 unfold jJ;rw[show yD ((l,x,0,()),(),())=_ from gg];simp only[ae,bK,aR];have c0: ¬ ((l.length:Int)< (l.length:Int)):=by omega
 have d1: (0:Int)<=0/\(0:Int)<=(l.length:Int)/\(l.length:Int)<=(l.length:Int):=by omega
 have d2: (0:Int)<=(l.length:Int)/\(l.length:Int)<=(l.length:Int)/\(l.length:Int)<=(l.length:Int):=by omega
 simp only[ed,if_neg c0,eh,if_pos d1,if_pos d2,aB,Int.toNat_zero,bK,cT,cR,cQ,b7,bU,aY];rw[if_pos (lX (by omega)),if_pos (lX (by simp; omega))];exact if_pos (lX (by simp; omega))
theorem xO (a b:List Int) (ha:rv a) (hb:b.length<=maxLen):it a b=some (a.filter fun x=>decide (x∈b),()):=by
 have hl:=ha.len;have hm:a.length<=maxLen:=by unfold maxLen; omega
 have hp:=ha.pair
 have gg:=l9 (B:=im) a (fun k (out:List Int)=>((a,b,(),(k:Int),()),(),(out,()))) (fun k out=>out=(a.take k).filter fun x=>decide (x∈b)) (fun k r out=>(((),()),(),(out++r.filter fun x=>decide (x∈b),())))
  (fun out hb=>by simp only[im];rw[ed,if_neg (by omega)];simp)
  (fun k out x hx hout=>by
    have hk:=jL hx;have c1: (k:Int)< (a.length:Int):=by omega
    have c2: (0:Int)<=(k:Int):=by omega
    have hxe:a[k] =x:=by rw[ah hk] at hx; exact Option.some.inj hx
    simp only[im,ed,eh,if_pos c1,if_pos c2,aB,hx,ae,(ga b x hb).1,dV hm hk];by_cases hin:x∈b
    ·have hlt: ∀y∈out,y<x:=by
      intro y hy;rw[hout,cF] at hy;obtain⟨i,hi,he⟩:=aP hy.1;have hi':i<k:=by simp at hi; omega
      rw[dk] at he;rw[<-he,<-hxe];exact bW.1 hp i k (by omega) hk hi'
     have hol:out.length<=1000:=by rw[hout];have:=cX (fun x=>decide (x∈b)) (a.take k);simp at this;omega
     simp only[if_pos hin,Fh out x hol hlt,ae];refine .inl ⟨out++ [x],rfl,?_,?_⟩
     ·rw[hout,bM,hx,ca];simp[hin]
     ·simp[hin]
    ·simp only[if_neg hin];refine .inl ⟨out,rfl,?_,?_⟩
     ·rw[hout,bM,hx,ca];simp[hin]
     ·simp[hin])
  0 [] (ay _) rfl
 unfold it;rw[show rr ((a,b,(),0,()),(),([],()))=_ from gg];rfl
theorem IR {n:Nat} (hn:n<=5): ∃m,xJ (IntKind.wrap .u64 (n:Int))=some (m,()):=by
 have :n=0\/n=1\/n=2\/n=3\/n=4\/n=5:=by omega
 rcases this with rfl|rfl|rfl|rfl|rfl|rfl
 ·exact⟨0,by kernel_rfl⟩
 ·exact⟨1,by kernel_rfl⟩
 ·exact⟨2,by kernel_rfl⟩
 ·exact⟨2,by kernel_rfl⟩
 ·exact⟨3,by kernel_rfl⟩
 ·exact⟨3,by kernel_rfl⟩
theorem K8 (l:List Int) (ha:rv l):fp l 0 (l.length:Int)=some (l,()):=by
 have hl:=ha.len;have hm:l.length<=maxLen:=by unfold maxLen; omega
 have inner: ∀k (hk:k<l.length),0<k->jw (((),0,(l.length:Int),(k:Int),(k:Int),()),(),(l,()))=some (((),0,(l.length:Int),(k:Int),()),(),(l,())):=by
  intro k hk h0;refine lj ?_;have c1: (k:Int)>0:=by omega
  have c2: (0:Int)<=(k:Int)/\(k:Int)< (l.length:Int):=by omega
  have c3: (0:Int)<=((k-1:Nat):Int)/\((k-1:Nat):Int)< (l.length:Int):=by omega
  have e1:l[k]? =some l[k] :=ah hk;have e2:l[k-1]? =some l[k-1] :=ah (by omega);have hlt:=(ha k hk).2 h0
  have less:oa l[k] l[k-1] =some (false,()):=by unfold oa mm;simp only[beq_self_eq_true,cg,ae,fB];rw[decide_eq_false (by omega)]
  simp only[fO,ed,eh,if_pos c1,if_pos c2,ou h0 (by omega),if_pos c3,aB,e1,e2,ae,less,fB]
 have outer:=xh (B:=eL) (fun s=> ∃k:Nat,0<k/\s=(((),0,(l.length:Int),(k:Int),()),(),(l,()))) (fun s=>l.length-s.1.2.2.2.1.toNat) (fun e=>e=((()),(),(l,())))
  (fun s hs=>by
    obtain⟨k,h0,rfl⟩:=hs;by_cases hk:k<l.length
    ·have c1: (k:Int)< (l.length:Int):=by omega
     refine .inl ⟨(((),0,(l.length:Int),((k+1:Nat):Int),()),(),(l,())),?_,⟨k+1,by omega,rfl⟩,?_⟩
     ·simp only[eL,ed,if_pos c1,inner k hk h0,ae,dV hm hk]
     ·simp only[aB];omega
    ·have c1: ¬ (k:Int)< (l.length:Int):=by omega
     exact .inr ⟨_,by simp only[eL,ed,if_neg c1],rfl⟩)
  (s:=(((),0,(l.length:Int),((1:Nat):Int),()),(),(l,()))) ⟨1,by omega,rfl⟩
 obtain⟨e,h1,rfl⟩:=outer;unfold fp;rw[show IntKind.wrap .i64 ((0:Int)+1)=((1:Nat):Int) from by rw[eX (by omega) (by omega)]; rfl,show jy (((),0,(l.length:Int),((1:Nat):Int),()),(),(l,()))=_ from h1];rfl
theorem Nd (l:List Int) (ha:rv l):lE l=some (l,()):=by
 have hl:=ha.len;obtain⟨m,hm⟩:=IR hl
 have hp:gm l 0 (l.length:Int) m=some (l,()):=by
  unfold gm
  have :lD (((),0,(l.length:Int),m,true,true,()),(),(l,()))=some ((()),(),(l,())):=by refine lj ?_;simp only[gP];rw[eX (by omega) (by omega),ed,if_pos (by omega),K8 l ha,ae,hQ rfl]
  rw[this];rfl
 unfold lE;simp only[hm,ae,hp];exact hQ trivial _ _
theorem Hi (l:List Int) (ha:rv l):jz l=some (l,()):=by
 have hl:=ha.len;have hm:l.length<=maxLen:=by unfold maxLen; omega
 unfold jz;rw[ed];split
 ·rfl
 ·have gg:=xh (B:=gT) (fun s=> ∃k:Nat,0<k/\k<=l.length/\s=(((),(k:Int),()),(),(l,()))) (fun s=>l.length-s.1.2.1.toNat) (fun e=>e= .inr (((),(),()),(),(l,())))
   (fun s hs=>by
     obtain⟨k,h0,hkl,rfl⟩:=hs;by_cases hk:k<l.length
     ·have c1: (k:Int)< (l.length:Int):=by omega
      have c2: (0:Int)<=(k:Int)/\(k:Int)< (l.length:Int):=by omega
      have c3: (0:Int)<=((k-1:Nat):Int)/\((k-1:Nat):Int)< (l.length:Int):=by omega
      have e1:l[k]? =some l[k] :=ah hk;have e2:l[k-1]? =some l[k-1] :=ah (by omega);have hlt:=(ha k hk).2 h0;refine .inl ⟨(((),((k+1:Nat):Int),()),(),(l,())),?_,⟨k+1,by omega,by omega,rfl⟩,?_⟩
      ·simp only[gT,ed,eh,if_pos c1,if_pos c2,ou h0 (by omega),if_pos c3,aB,e1,e2,ae,wM,dV hm hk];rw[if_neg (by omega)]
      ·simp only[aB];omega
     ·have c1: ¬ (k:Int)< (l.length:Int):=by omega
      exact .inr ⟨_,by simp only[gT,ed,if_neg c1],rfl⟩)
   (s:=(((),((1:Nat):Int),()),(),(l,()))) ⟨1,by omega,by omega,rfl⟩
  obtain⟨e,h1,rfl⟩:=gg;rw[show pK (((),1,()),(),(l,()))=_ from h1];rfl
theorem K9 (l:List Int) (ha:rv l):pm l=some (l,()):=by have hl:=ha.len;unfold pm ko;rw[hQ (lX (by omega)),ae,Nd l ha,ae,hQ rfl,Hi l ha];rfl
end Go.Proofs.YtadabkgmdllbfaaGreat.En
namespace Go.Proofs.YtadabkgmdllbfaaGreat.En
open Go
theorem uT {σ ε:Type} {B:σ->Option (σ⊕ε)} (n:Nat) (m:Nat->σ) (t:ε) (f:Nat->ε) (p:Nat->Bool) (h0:B (m n)=some (.inr t)) (h: ∀k,k<n->B (m k)=some (if p k=true then .inr (f k) else .inl (m (k+1)))):
  (gV B (m 0)=some t/\ ∀k,k<n->p k=false)\/ ∃k,k<n/\gV B (m 0)=some (f k)/\p k=true/\ ∀j,j<k->p j=false:=by
 have gg: ∀d j,j+d=n->(gV B (m j)=some t/\ ∀k,j<=k->k<n->p k=false)\/ ∃k,k<n/\gV B (m j)=some (f k)/\p k=true/\ ∀i,j<=i->i<k->p i=false:=by
  intro d
  induction d with
  |zero=>
   intro j hj;have :j=n:=by omega
   subst this;exact .inl ⟨lj h0,fun k a b=>by omega⟩
  |succ d ih=>
   intro j hj;have h1:=h j (by omega);cases hp:p j with
   |true=>rw[hp,if_pos rfl] at h1;exact .inr ⟨j,by omega,lj h1,hp,fun i a b=>by omega⟩
   |false=>
    rw[hp,if_neg (by simp)] at h1;rw[rX h1];rcases ih (j+1) (by omega) with ⟨k1,k2⟩| ⟨k,k0,k1,k2,k3⟩
    ·refine .inl ⟨k1,fun k a b=> ?_⟩;rcases dM a with rfl|a
     ·exact hp
     ·exact k2 k a b
    ·refine .inr ⟨k,k0,k1,k2,fun i a b=> ?_⟩;rcases dM a with rfl|a
     ·exact hp
     ·exact k3 i a b
 rcases gg n 0 (by omega) with ⟨a,b⟩| ⟨k,a,b,c,d⟩
 ·exact .inl ⟨a,fun k hk=>b k (ay _) hk⟩
 ·exact .inr ⟨k,a,b,c,fun j hj=>d j (ay _) hj⟩
theorem Pi {σ1 ε1 σ2 ε2 β:Type} {B1:σ1->Option (σ1⊕ε1)} {B2:σ2->Option (σ2⊕ε2)} (n:Nat) (m1:Nat->β->σ1) (m2:Nat->β->σ2) (J:Nat->β->Prop) (E1:β->ε1) (E2:β->ε2)
  (h0: ∀b,J n b->B1 (m1 n b)=some (.inr (E1 b))/\B2 (m2 n b)=some (.inr (E2 b)))
  (h1: ∀k b,k<n->J k b-> ∃b',B1 (m1 k b)=some (.inl (m1 (k+1) b'))/\B2 (m2 k b)=some (.inl (m2 (k+1) b'))/\J (k+1) b')
  (b:β) (hb:J 0 b): ∃b',J n b'/\gV B1 (m1 0 b)=some (E1 b')/\gV B2 (m2 0 b)=some (E2 b'):=by
 have go: ∀ (d k:Nat) (b:β),k+d=n->J k b-> ∃b',J n b'/\gV B1 (m1 k b)=some (E1 b')/\gV B2 (m2 k b)=some (E2 b'):=by
  intro d
  induction d with
  |zero=>
   intro k b hk hj;have :k=n:=by omega
   subst this;exact⟨b,hj,lj (h0 b hj).1,lj (h0 b hj).2⟩
  |succ d ih=>intro k b hk hj;obtain⟨b',p1,p2,p3⟩:=h1 k b (by omega) hj;obtain⟨c,q1,q2,q3⟩:=ih (k+1) b' (by omega) p3;exact⟨c,q1,by rw[rX p1]; exact q2,by rw[rX p2]; exact q3⟩
 exact go n 0 b (by omega) hb
theorem zI {l:List Int} {p:Int->Bool} (h: ∀x∈l,p x=true):l.filter p=l:=List.filter_eq_self.2 h
theorem IT (a b:List Int) (ha:a.length<=1000) (hb:b.length<=maxLen):eI a b=some (a.filter fun x=> !decide (x∈b),()):=by
 have hm:a.length<=maxLen:=by unfold maxLen; omega
 have hm':a.length<=9223372036854775807:=hm
 have has: ∀x,gU x b=some (decide (x∈b),()):=by intro x;unfold gU;rw[(ga b x hb).2];rfl
 have find:=uT (B:=eE) a.length (fun k=>((a,(b,()),(a.length:Int),(k:Int),()),(),())) (.inr (((),()),(),())) (fun k=> .inl (((k:Int),()),(),())) (fun k=>match a[k]? with |some x=>decide (x∈b)|none=>false)
  (by simp only[eE]; rw[ed,if_neg (by omega)])
  (fun k hk=>by
    have c1: (k:Int)< (a.length:Int):=by omega
    have c2: (0:Int)<=(k:Int):=by omega
    simp only[eE,ed,eh,if_pos c1,if_pos c2,aB,ah hk,ae,has,dV hm hk];by_cases hin:a[k] ∈b<;>simp[hin])
 unfold eI ft;rcases find with ⟨k1,k2⟩| ⟨i,hi,k1,k2,k3⟩
 ·rw[show fZ ((a,(b,()),(a.length:Int),0,()),(),())=_ from k1];simp only[ae,cO,beq_self_eq_true,ef];rw[zI fun x hx=> ?_];obtain⟨k,hk,rfl⟩:=aP hx;have:=k2 k hk;rw[ah hk] at this;simpa using this
 ·rw[show fZ ((a,(b,()),(a.length:Int),0,()),(),())=_ from k1]
  have hne: ((i:Int)== -1)=false:=by simp only[beq_eq_false_iff_ne,ne_eq];omega
  simp only[ae,cU,hne,fB,dV hm hi];rw[ah hi] at k2
  have loop:=xh (B:=ez) (fun s=> ∃ (i j:Nat) (v:List Int),s=(((),(b,()),(i:Int),(j:Int),()),(),(v,()))/\i<=j/\j<=a.length/\v.length=a.length/\v.take i=(a.take j).filter (fun x=> !decide (x∈b))/\v.drop j=a.drop j) (fun s=>a.length-s.1.2.2.2.1.toNat)
   (fun e=> ∃ (i:Nat) (v:List Int),e=(((),(i:Int),()),(),(v,()))/\i<=a.length/\v.length=a.length/\v.take i=a.filter (fun x=> !decide (x∈b)))
   (fun s hs=>by
     obtain⟨i,j,v,rfl,hij,hj,hv,ht,hd⟩:=hs;by_cases hlt:j<a.length
     ·have c1: (j:Int)< (v.length:Int):=by omega
      have c2: (0:Int)<=(j:Int)/\(j:Int)< (v.length:Int):=by omega
      have c3: (0:Int)<=(i:Int)/\(i:Int)< (v.length:Int):=by omega
      have e1:v[j]? =some a[j] :=by have:=congrArg (fun l:List Int=>l[0]?) hd;simpa [bB,ah hlt] using this
      have e2:v[i]? =some (v[i]'(by omega)):=ah _;have hta:a.take (j+1)=a.take j++ [a[j]] :=by rw[bM,ah hlt]; rfl
      have hdd:v.drop (j+1)=a.drop (j+1):=by have:=congrArg (List.drop 1) hd;simpa [cu,cf] using this
      left;simp only[ez,ed,eh,if_pos c1,if_pos c2,aB,e1,ae,has,if_pos c3,e2,dV hm hlt,dS,dV hm (show i<a.length by omega)];by_cases hin:a[j] ∈b
      ·rw[if_pos hin];refine⟨_,rfl,⟨i,j+1,v,rfl,by omega,by omega,hv,?_,hdd⟩,?_⟩
       ·rw[ht,hta,ca];simp[hin]
       ·simp only[aB];omega
      ·rw[if_neg hin];refine⟨_,rfl,⟨i+1,j+1,v.set i a[j],rfl,by omega,by omega,by simp[hv],?_,?_⟩,?_⟩
       ·rw[CK _ (by omega),ht,hta,ca];simp[hin]
       ·rw[dG (by omega),hdd]
       ·simp only[aB];omega
     ·have :j=a.length:=by omega
      subst this;right;refine⟨_,by simp only[ez]; rw[ed,if_neg (by omega)],⟨i,v,rfl,hij,hv,?_⟩⟩;rw[ht,bU])
   (s:=(((),(b,()),(i:Int),((i+1:Nat):Int),()),(),(a,()))) ⟨i,i+1,a,rfl,by omega,by omega,rfl,by
     have hta:a.take (i+1)=a.take i++ [a[i]] :=by rw[bM,ah hi]; rfl
     rw[hta,ca,zI (l:=a.take i) fun x hx=> ?_]
     ·simp only[decide_eq_true_eq] at k2;simp[k2]
     ·obtain⟨j,hj,rfl⟩:=aP hx;have hj':j<i:=by simp at hj; omega
      have:=k3 j hj';rw[ah (by omega)] at this;rw[dk];simpa using this,rfl⟩
  obtain⟨e,h1,i',v,rfl,h2,h3,h4⟩:=loop;rw[show gY (((),(b,()),(i:Int),((i+1:Nat):Int),()),(),(a,()))=_ from h1];have d1: (0:Int)<=(i':Int)/\(i':Int)<=(v.length:Int)/\(v.length:Int)<=((v.length:Nat):Int):=by omega
  have d2:i'+(v.length-i')<=v.length:=by omega
  have d3: (0:Int)<=0/\(0:Int)<=(i':Int)/\(i':Int)<=((v.length:Nat):Int):=by omega
  simp only[ae,aB,Int.toNat_zero,aR,cT,eh,if_pos d1,if_pos d2,if_pos d3];rw[if_pos ⟨trivial,by simp; omega⟩];rw[bD,List.take_append_of_le_length (by simp; omega),List.take_take,Nat.min_self,h4]
theorem Hj (a b:List Int) (ha:rv a) (hb:b.length<=maxLen):iR a b=some (a.filter fun x=> !decide (x∈b),()):=by have hl:=ha.len;unfold iR;rw[K9 a ha,ae,IT a b (by omega) hb];rfl
theorem Pj (a b:List Int) (ha:rv a) (hb:b.length<=maxLen):kH a b=some (a.filter fun x=>decide (x∈b),()):=by
 have hl:=ha.len;unfold kH;rw[Hj a b ha hb];simp only[ae]
 rw[Hj a (a.filter fun x=> !decide (x∈b)) ha (by have:=cX (fun x=> !decide (x∈b)) a;unfold maxLen;omega)]
 simp only[ae]
 congr 2
 apply List.filter_congr;intro x hx;simp[cF,hx]
theorem pn (c:dR) (h:iJ maxLen c):xi (ey c) (jj c):=by
 unfold ey jj;simp only[gr,p9,ae];cases kK c.epoch 1 20 with
 |false=>exact⟨_,rfl,rfl⟩
 |true=>
  rcases tz c.replicas h.1 with ⟨a1,a2,a3⟩| ⟨a1,a2⟩
  ·rcases tz c.witnesses h.2 with ⟨b1,b2,b3⟩| ⟨b1,b2⟩
   ·simp only[a1,a2,b1,b2,ae,ef,(ga c.replicas c.primary h.1).1,(ga c.replicas c.primary h.1).2,xO _ _ a3 h.2,Pj _ _ a3 h.2];cases decide (c.primary∈c.replicas)<;>exact⟨_,rfl,rfl⟩
   ·simp only[a1,a2,b1,b2,ae,ef,fB];exact⟨_,rfl,rfl⟩
  ·simp only[a1,a2,ae,ef,fB];exact⟨_,rfl,rfl⟩
end Go.Proofs.YtadabkgmdllbfaaGreat.En
namespace Go.Proofs.YtadabkgmdllbfaaGreat.En
open Go
theorem sL (l:List Int) (hl:l.length<=maxLen):xi (iX l) (mT l):=by
 have gg:=nB (B1:=lM) (B2:=eN) l.length (fun k=>((l,(k:Int),()),(),())) (fun k=>((l,(),(l.length:Int),(k:Int),()),(),())) (.inr ((l,(),()),(),())) (.inr (((),()),(),())) (fun _=> .inl ((l,false,()),(),())) (fun k=> .inl (((k:Int),()),(),()))
  (fun _=>True) (fun _=>True)
  (by simp only[lM]; rw[ed,if_neg (by omega)])
  (by simp only[eN]; rw[ed,if_neg (by omega)])
  (fun k hk=>by
    have c1: (k:Int)< (l.length:Int):=by omega
    have c2: (0:Int)<=(k:Int):=by omega
    simp only[lM,eN,ed,eh,if_pos c1,if_pos c2,aB,ah hk,ae,oZ,gr,p9,dV hl hk];cases kK l[k] 0 3 with
    |false=>exact .inr ⟨rfl,rfl,trivial⟩
    |true=>exact .inl ⟨rfl,rfl,trivial⟩)
 unfold iX mT fM gf;rcases gg with ⟨k1,k2,_⟩| ⟨k,_,k1,k2,_⟩
 ·rw[show te ((l,0,()),(),())=_ from k1,show hO ((l,(),(l.length:Int),0,()),(),())=_ from k2];simp only[ae,cO];cases ((l.length:Int)==5)<;>exact⟨_,rfl,rfl⟩
 ·rw[show te ((l,0,()),(),())=_ from k1,show hO ((l,(),(l.length:Int),0,()),(),())=_ from k2];simp only[ae,cU];rw[decide_eq_true (by omega)];cases ((l.length:Int)==5)<;>exact⟨_,rfl,rfl⟩
theorem masterLog (m:dW) (h:rd maxLen m): ∃b,fr m=some (b,())/\kT m=some (b,()):=by
 obtain⟨hl,hc⟩:=h
 have gg:=nB (B1:=fo) (B2:=jk) m.configs.length (fun k=>(((),(k:Int),()),((m.configs,m.activated,()),()),())) (fun k=>(((),m.configs,(m.configs.length:Int),(k:Int),()),((m.configs,m.activated,()),()),())) (.inr (((),(),()),((m.configs,m.activated,()),()),())) (.inr (((),(),()),((m.configs,m.activated,()),()),())) (fun _=> .inl (((),false,()),((m.configs,m.activated,()),()),())) (fun _=> .inl (((),false,()),((m.configs,m.activated,()),()),()))
  (fun _=>True) (fun _=>True)
  (by simp only[fo]; rw[ed,if_neg (by omega)])
  (by simp only[jk]; rw[ed,if_neg (by omega)])
  (fun k hk=>by
    have c1: (k:Int)< (m.configs.length:Int):=by omega
    have c2: (0:Int)<=(k:Int):=by omega
    obtain⟨b,v1,v2⟩:=pn m.configs[k] (hc _ (bw hk));simp only[fo,jk,ed,eh,if_pos c1,if_pos c2,aB,ah hk,ae,v1,v2,dV hl hk,dS];cases b with
    |false=>exact .inr ⟨rfl,rfl,trivial⟩
    |true=>
     cases (m.configs[k].epoch==((k+1:Nat):Int)) with
     |false=>exact .inr ⟨rfl,rfl,trivial⟩
     |true=>exact .inl ⟨rfl,rfl,trivial⟩)
 unfold fr kT;rcases gg with ⟨k1,k2,_⟩| ⟨k,_,k1,k2,_⟩
 ·rw[show kB (((),0,()),((m.configs,m.activated,()),()),())=_ from k1,show pB (((),m.configs,(m.configs.length:Int),0,()),((m.configs,m.activated,()),()),())=_ from k2];simp only[ae,cO,gr,p9];exact⟨_,rfl,rfl⟩
 ·rw[show kB (((),0,()),((m.configs,m.activated,()),()),())=_ from k1,show pB (((),m.configs,(m.configs.length:Int),0,()),((m.configs,m.activated,()),()),())=_ from k2];exact⟨_,rfl,rfl⟩
theorem tA (x:fL):xi (jN x) (qh x):=by unfold jN qh;simp only[gr,p9,ae];cases ((x.epoch==0)&&((x.holder==0)&&((x.ends==0)&&true)))<;>cases kK x.epoch 1 20<;>cases kK x.holder 0 4<;>exact⟨_,rfl,rfl⟩
theorem qj (l:List eD) (hl:l.length<=maxLen):xi (fm l) (ni l):=by
 have gg:=nB (B1:=jC) (B2:=eH) l.length (fun k=>((l,(k:Int),()),(),())) (fun k=>((l,(),(l.length:Int),(k:Int),()),(),())) (.inr ((l,(),()),(),())) (.inr (((),()),(),())) (fun _=> .inl ((l,false,()),(),())) (fun k=> .inl (((k:Int),()),(),()))
  (fun _=>True) (fun _=>True)
  (by simp only[jC]; rw[ed,if_neg (by omega)])
  (by simp only[eH]; rw[ed,if_neg (by omega)])
  (fun k hk=>by
    have c1: (k:Int)< (l.length:Int):=by omega
    have c2: (0:Int)<=(k:Int):=by omega
    simp only[jC,eH,ed,eh,if_pos c1,if_pos c2,aB,ah hk,ae,od,gr,p9,dV hl hk];cases kK l[k].rack 0 9 with
    |false=>exact .inr ⟨rfl,rfl,trivial⟩
    |true=>
     cases kK l[k].capacity 0 9 with
     |false=>exact .inr ⟨rfl,rfl,trivial⟩
     |true=>
      cases kK l[k].load 0 99 with
      |false=>exact .inr ⟨rfl,rfl,trivial⟩
      |true=>exact .inl ⟨rfl,rfl,trivial⟩)
 unfold fm ni fu fP;rcases gg with ⟨k1,k2,_⟩| ⟨k,_,k1,k2,_⟩
 ·rw[show rF ((l,0,()),(),())=_ from k1,show gy ((l,(),(l.length:Int),0,()),(),())=_ from k2];simp only[ae,cO];cases ((l.length:Int)==5)<;>exact⟨_,rfl,rfl⟩
 ·rw[show rF ((l,0,()),(),())=_ from k1,show gy ((l,(),(l.length:Int),0,()),(),())=_ from k2];simp only[ae,cU];rw[decide_eq_true (by omega)];cases ((l.length:Int)==5)<;>exact⟨_,rfl,rfl⟩
theorem JY (x:Op):xi (fb x) (nj x):=by unfold fb nj;simp only[gr,p9,ae];cases kK x.client 0 2<;>cases kK x.seq 1 99<;>cases kK x.object 0 2<;>cases kK x.value 0 9<;>cases (x.kind==1)<;>cases (x.kind==2)<;>cases (x.old==0)<;>exact⟨_,rfl,rfl⟩
theorem Hk (l:List dY) (hl:l.length<=maxLen): (gJ l=some (true,())/\ru l=some (true,())/\l.length<=16)\/(gJ l=some (false,())/\ru l=some (false,())):=by
 have gg:=nB (B1:=lO) (B2:=qi) l.length (fun k=>((l,(k:Int),()),(),())) (fun k=>((l,l,(l.length:Int),(k:Int),()),(),())) (.inr ((l,(),()),(),())) (.inr ((l,(),()),(),())) (fun _=> .inl ((l,false,()),(),())) (fun _=> .inl ((l,false,()),(),()))
  (fun _=>True) (fun _=>True)
  (by simp only[lO]; rw[ed,if_neg (by omega)])
  (by simp only[qi]; rw[ed,if_neg (by omega)])
  (fun k hk=>by
    have c1: (k:Int)< (l.length:Int):=by omega
    have c2: (0:Int)<=(k:Int):=by omega
    obtain⟨b,v1,v2⟩:=JY l[k].op;simp only[lO,qi,ed,eh,if_pos c1,if_pos c2,aB,ah hk,ae,v1,v2,gr,p9,dV hl hk,dS];cases kK l[k].epoch 1 20 with
    |false=>exact .inr ⟨rfl,rfl,trivial⟩
    |true=>
     simp only[ef];by_cases h0:0<k
     ·have c3: (k:Int)>0:=by omega
      have c4: (0:Int)<=((k-1:Nat):Int):=by omega
      have e2:l[k-1]? =some l[k-1] :=ah (by omega);simp only[if_pos c3,ou h0 (by omega),if_pos c4,aB,e2,ae];by_cases hlt:l[k].epoch<l[k-1].epoch
      ·rw[if_pos hlt,if_pos (show l[k-1].epoch>l[k].epoch from hlt)];cases b<;>exact .inr ⟨rfl,rfl,trivial⟩
      ·rw[if_neg hlt,if_neg (show ¬l[k-1].epoch>l[k].epoch from hlt)];cases b with
       |false=>exact .inr ⟨rfl,rfl,trivial⟩
       |true=>exact .inl ⟨rfl,rfl,trivial⟩
     ·have c3: ¬ (k:Int)>0:=by omega
      simp only[if_neg c3];cases b with
      |false=>exact .inr ⟨rfl,rfl,trivial⟩
      |true=>exact .inl ⟨rfl,rfl,trivial⟩)
 unfold gJ ru;rcases gg with ⟨k1,k2,_⟩| ⟨k,_,k1,k2,_⟩
 ·rw[show sa ((l,0,()),(),())=_ from k1,show yP ((l,l,(l.length:Int),0,()),(),())=_ from k2];simp only[ae,cO];by_cases h: (l.length:Int)<=16
  ·rw[decide_eq_true h];exact .inl ⟨rfl,rfl,by omega⟩
  ·rw[decide_eq_false h];exact .inr ⟨rfl,rfl⟩
 ·rw[show sa ((l,0,()),(),())=_ from k1,show yP ((l,l,(l.length:Int),0,()),(),())=_ from k2];exact .inr ⟨rfl,rfl⟩
theorem qa (a b:List Int) (ha:a.length<=maxLen):jO a b=some (decide (a=b),())/\jW a b=some (decide (a=b),()):=by
 unfold jO jW kp;by_cases hlen:a.length=b.length
 ·have hbe: (!((a.length:Int)==(b.length:Int)))=false:=by simp[hlen]
  have gg:=nB (B1:=iL) (B2:=i7) a.length (fun k=>((a,b,(k:Int),()),(),())) (fun k=>((a,b,(a.length:Int),(k:Int),()),(),())) (.inr (((),()),(),())) (.inr (((),()),(),())) (fun _=> .inl ((false,()),(),())) (fun _=> .inl ((false,()),(),()))
   (fun k=>a[k]? =b[k]?) (fun k=>a[k]? ≠b[k]?)
   (by simp only[iL]; rw[ed,if_neg (by omega)])
   (by simp only[i7]; rw[ed,if_neg (by omega)])
   (fun k hk=>by
     have c1: (k:Int)< (a.length:Int):=by omega
     have c2: (0:Int)<=(k:Int):=by omega
     simp only[iL,i7,ed,eh,if_pos c1,if_pos c2,aB,ah hk,ah (show k<b.length by omega),ae,dV ha hk,dS,wM];by_cases he:a[k] =b[k]'(by omega)
     ·simp only[if_pos he];exact .inl ⟨trivial,trivial,by rw[he]⟩
     ·simp only[if_neg he];exact .inr ⟨trivial,trivial,fun h=>he (Option.some.inj h)⟩)
  rw[hbe,fB,fB];rcases gg with ⟨k1,k2,k3⟩| ⟨k,hk,k1,k2,k3⟩
  ·rw[show oy ((a,b,0,()),(),())=_ from k1,show qX ((a,b,(a.length:Int),0,()),(),())=_ from k2]
   have :a=b:=bA fun k=>by
    rcases cM k a.length with h|h
    ·exact k3 k h
    ·rw[b6 h,b6 (by omega)]
   rw[decide_eq_true this];exact⟨rfl,rfl⟩
  ·rw[show oy ((a,b,0,()),(),())=_ from k1,show qX ((a,b,(a.length:Int),0,()),(),())=_ from k2];have :a≠b:=fun h=>k3 (by rw[h]);rw[decide_eq_false this];exact⟨rfl,rfl⟩
 ·have hbe: (!((a.length:Int)==(b.length:Int)))=true:=by
   simp only[bZ,beq_eq_false_iff_ne,ne_eq];omega
  rw[hbe,ef,ef,decide_eq_false (fun h=>hlen (by rw[h]))];exact⟨rfl,rfl⟩
theorem gR (a b:dR) (ha:iJ maxLen a):gK a b=some (decide (a=b),())/\gQ a b=some (decide (a=b),()):=by unfold gK gQ;simp only[(qa a.replicas b.replicas ha.1).1,(qa a.replicas b.replicas ha.1).2,(qa a.witnesses b.witnesses ha.2).1,(qa a.witnesses b.witnesses ha.2).2,ae,wM,ed];obtain⟨a1,a2,a3,a4⟩:=a;obtain⟨b1,b2,b3,b4⟩:=b;simp only[dR.mk.injEq];by_cases h1:a1=b1<;>by_cases h2:a2=b2<;>by_cases h3:a3=b3<;>by_cases h4:a4=b4<;>simp[h1,h2,h3,h4]
theorem sM (l:List dY) (hl:l.length<=maxLen): ∃n,nc l=some (n,())/\nk l=some (n,()):=by
 unfold nc nk;rcases be l.length with h|h
 ·have : ((l.length:Int)==0)=true:=by simp[h]
  rw[this];exact⟨_,rfl,rfl⟩
 ·have : ((l.length:Int)==0)=false:=by
   simp only[beq_eq_false_iff_ne,ne_eq];omega
  rw[this,fB,ou h hl,hQ (by omega),aB,ah (show l.length-1<l.length by omega)];exact⟨_,rfl,rfl⟩
theorem wN (c:dR) (x:Int) (h:iJ maxLen c): ∃n,kC c x=some (n,())/\uR c x=some (n,())/\(n=0\/n=1\/n=2\/n=3):=by unfold kC uR;obtain⟨b,v1,v2⟩:=pn c h;simp only[v1,v2,ae,(ga c.replicas x h.1).1,(ga c.replicas x h.1).2,(ga c.witnesses x h.2).1,(ga c.witnesses x h.2).2];cases b<;>cases (x==c.primary)<;>cases decide (x∈c.replicas)<;>cases decide (x∈c.witnesses)<;>exact⟨_,rfl,rfl,by decide⟩
end Go.Proofs.YtadabkgmdllbfaaGreat.En
namespace Go.Proofs.YtadabkgmdllbfaaGreat.En
open Go
theorem eO {c:dR} (h:iJ 1048576 c):iJ maxLen c:=⟨eC h.1,eC h.2⟩
theorem kU {m:dW} (h:rd 1048576 m):rd maxLen m:=⟨eC h.1,fun c hc=>eO (h.2 c hc)⟩
theorem vq (c:dR) (h:iJ maxLen c):kO c=some (decide (c=⟨0,0,[],[]⟩),()):=by unfold kO;rw[(gR c _ h).1];rfl
theorem rx (s:dQ) (id:Int) (h:gb 1048576 s):xi (eS s id) (kI s id):=by
 have hc:=eO h.1;unfold eS kI;simp only[gr,p9,ae,dS];cases kK s.version 1 2 with
 |false=>exact⟨_,rfl,rfl⟩
 |true=>
 cases kK s.epoch 0 20 with
 |false=>exact⟨_,rfl,rfl⟩
 |true=>
 rcases Hk s.log (eC h.2.1) with ⟨a1,a2,a3⟩| ⟨a1,a2⟩
 case inr=>simp only[a1,a2,ae,ef,fB]; exact⟨_,rfl,rfl⟩
 rcases Hk s.learned (eC h.2.2) with ⟨b1,b2,b3⟩| ⟨b1,b2⟩
 case inr=>simp only[a1,a2,b1,b2,ae,ef,fB]; exact⟨_,rfl,rfl⟩
 simp only[a1,a2,b1,b2,ae,ef];cases hw:kK s.first 0 16 with
 |false=>exact⟨_,rfl,rfl⟩
 |true=>
 have hf:=eF.1 hw;rw[eX (n:=s.first+(s.log.length:Int)) (by omega) (by omega)];by_cases h16:s.first+(s.log.length:Int)<=16
 case neg=>
  have e1:kK (s.first+(s.log.length:Int)) 0 16=false:=by unfold kK; simp; omega
  simp only[e1,ef,fB,ed,if_pos (show s.first+(s.log.length:Int)>16 by omega)];exact⟨_,rfl,rfl⟩
 have e1:kK (s.first+(s.log.length:Int)) 0 16=true:=eF.2 ⟨by omega,h16⟩;simp only[e1,ef,ed,if_neg (show ¬s.first+(s.log.length:Int)>16 by omega),vq s.config hc,(gR s.config ⟨0,0,[],[]⟩ hc).2,ae];cases kK s.commit 0 (s.first+(s.log.length:Int)) with
 |false=>exact⟨_,rfl,rfl⟩
 |true=>
 simp only[ef];by_cases hz:s.config=⟨0,0,[],[]⟩
 ·simp only[if_pos hz];cases (s.first==0)<;>cases (s.commit==0)<;>cases ((s.log.length:Int)==0)<;>exact⟨_,rfl,rfl⟩
 ·simp only[if_neg hz];cases s.intact with
  |false=>exact⟨_,rfl,rfl⟩
  |true=>
  simp only[ef];by_cases he:s.epoch<s.config.epoch
  ·simp only[if_pos he];exact⟨_,rfl,rfl⟩
  ·simp only[if_neg he];obtain⟨n,n1,n2⟩:=sM s.log (eC h.2.1);simp only[n1,n2,ae];by_cases hn:n>s.config.epoch
   ·simp only[if_pos hn];exact⟨_,rfl,rfl⟩
   ·simp only[if_neg hn];obtain⟨r,r1,r2,r3⟩:=wN s.config id hc;simp only[r1,r2,ae];rcases r3 with rfl|rfl|rfl|rfl
    ·exact⟨_,rfl,rfl⟩
    ·exact⟨_,rfl,rfl⟩
    ·exact⟨_,rfl,rfl⟩
    ·have ht:uS s.first s.log=some (decide ((s.log.length:Int)<=3)&&((s.first==0)||((s.log.length:Int)==3)),()):=by
      unfold uS;simp only[a2,p9,ae,ef,ed];rw[eX (by omega) (by omega),show kK s.first 0 (16-(s.log.length:Int))=true from eF.2 ⟨by omega,by omega⟩];by_cases h3: (s.log.length:Int)<=3
      ·rw[if_pos h3,decide_eq_true h3];cases (s.first==0)<;>cases ((s.log.length:Int)==3)<;>rfl
      ·rw[if_neg h3,decide_eq_false h3];rfl
     rw[ht];by_cases h3: (s.log.length:Int)<=3
     ·rw[if_pos h3,decide_eq_true h3];cases (s.first==0)<;>cases ((s.log.length:Int)==3)<;>exact⟨_,rfl,rfl⟩
     ·rw[if_neg h3,decide_eq_false h3];exact⟨_,rfl,rfl⟩
theorem xP (m:dW) (e:Int) (h:rd 1048576 m): ∃c b,iY m e=some (c,b,())/\mW m e=some (c,b,())/\iJ maxLen c:=by
 obtain⟨b,m1,m2⟩:=masterLog m (kU h);have zero:iJ maxLen ⟨0,0,[],[]⟩:=⟨ay _,ay _⟩
 have hl:=h.1;unfold iY mW;simp only[m1,m2,gr,p9,ae,dS];cases b with
 |false=>exact⟨_,_,rfl,rfl,zero⟩
 |true=>
  cases hw:kK e 1 (m.configs.length:Int) with
  |false=>exact⟨_,_,rfl,rfl,zero⟩
  |true=>
   have hw:=eF.1 hw;simp only[ef];rw[eX (n:=e-1) (by omega) (by omega)];have hlt: (e-1).toNat<m.configs.length:=by omega
   have hk:=h.2 _ (bw hlt)
   have copy: ∀c:dR,iJ 1048576 c->jM c=some (c,())/\gM c=some (c,()):=by intro c hc;unfold jM gM;simp only[aY];rw[hQ (lX hc.1),hQ (lX hc.2)];exact⟨rfl,rfl⟩
   rw[hQ (by omega),hQ (by omega),ah hlt];simp only[ae,(copy _ hk).1,(copy _ hk).2];exact⟨_,_,rfl,rfl,eO hk⟩
theorem gt (x:dN) (h:fj 1048576 x):xi (dT x) (gC x):=by
 obtain⟨⟨hs1,hs2⟩,hsd,hml,hpl⟩:=h;have hm:=eC hs1
 have gg:=nB (B1:=ei) (B2:=ic) x.servers.length (fun k=>(((),(k:Int),()),((x.now,x.servers,x.sides,x.master.configs,x.master.activated,x.masterUp,x.lease.epoch,x.lease.holder,x.lease.ends,x.places,()),()),())) (fun k=>(((),x.servers,(x.servers.length:Int),(k:Int),()),((x.now,x.servers,x.sides,x.master.configs,x.master.activated,x.masterUp,x.lease.epoch,x.lease.holder,x.lease.ends,x.places,()),()),())) (.inr (((),()),(),())) (.inr (((),()),(),())) (fun _=> .inl ((false,()),(),())) (fun _=> .inl ((false,()),(),()))
  (fun _=>True) (fun _=>True)
  (by simp only[ei]; rw[ed,if_neg (by omega)])
  (by simp only[ic]; rw[ed,if_neg (by omega)])
  (fun k hk=>by
    have c1: (k:Int)< (x.servers.length:Int):=by omega
    have c2: (0:Int)<=(k:Int):=by omega
    have hsk:=hs2 _ (bw hk);obtain⟨b,v1,v2⟩:=rx x.servers[k] (k:Int) hsk;obtain⟨n,n1,n2⟩:=sM x.servers[k].learned (eC hsk.2.2);obtain⟨c,d,d1,d2,d3⟩:=xP x.master x.servers[k].config.epoch hml;have hcfg:=eO hsk.1
    simp only[ei,ic,ed,eh,if_pos c1,if_pos c2,aB,ah hk,ae,v1,v2,n1,n2,dV hm hk,dS,
     show (⟨x.master.configs,x.master.activated⟩:dW)=x.master from rfl,d1,d2,vq _ hcfg,(gR _ (⟨0,0,[],[]⟩:dR) hcfg).2,(gR c x.servers[k].config d3).1,(gR c x.servers[k].config d3).2]
    cases b with
    |false=>exact .inr ⟨rfl,rfl,trivial⟩
    |true=>
     simp only[ef];by_cases h1:x.servers[k].epoch>(x.master.configs.length:Int)
     ·simp only[if_pos h1];exact .inr ⟨trivial,trivial,trivial⟩
     ·simp only[if_neg h1];by_cases h2:n>x.master.activated
      ·simp only[if_pos h2];exact .inr ⟨trivial,trivial,trivial⟩
      ·simp only[if_neg h2];by_cases h3:x.servers[k].config=⟨0,0,[],[]⟩
       ·simp only[if_pos h3];exact .inl ⟨trivial,trivial,trivial⟩
       ·simp only[if_neg h3];cases d with
        |false=>exact .inr ⟨rfl,rfl,trivial⟩
        |true=>
         simp only[ef];by_cases h4:c=x.servers[k].config
         ·simp only[if_pos h4];by_cases h5:x.servers[k].config.epoch>x.master.activated
          ·simp only[if_pos h5];exact .inr ⟨trivial,trivial,trivial⟩
          ·simp only[if_neg h5];exact .inl ⟨trivial,trivial,trivial⟩
         ·simp only[if_neg h4];exact .inr ⟨trivial,trivial,trivial⟩)
 unfold dT gC;obtain⟨b1,a1,a2⟩:=sL x.sides (eC hsd);obtain⟨b2,m1,m2⟩:=masterLog x.master (kU hml);obtain⟨b3,l1,l2⟩:=tA x.lease;obtain⟨b4,p1,p2⟩:=qj x.places (eC hpl);simp only[gr,p9,a1,a2,m1,m2,l1,l2,p1,p2,ae,dS,ed];cases kK x.now 0 999 with
 |false=>exact⟨_,rfl,rfl⟩
 |true=>
 cases ((x.servers.length:Int)==5) with
 |false=>exact⟨_,rfl,rfl⟩
 |true=>
 cases b1 with
 |false=>exact⟨_,rfl,rfl⟩
 |true=>
 cases b2 with
 |false=>exact⟨_,rfl,rfl⟩
 |true=>
 cases kK x.masterUp 0 3 with
 |false=>cases b3<;>cases b4<;>exact⟨_,rfl,rfl⟩
 |true=>
 cases b3 with
 |false=>exact⟨_,rfl,rfl⟩
 |true=>
 cases b4 with
 |false=>exact⟨_,rfl,rfl⟩
 |true=>
 simp only[ef];by_cases h1:x.lease.epoch>x.master.activated
 ·simp only[if_pos h1];exact⟨_,rfl,rfl⟩
 ·simp only[if_neg h1];rcases gg with ⟨k1,k2,_⟩| ⟨k,_,k1,k2,_⟩
  ·rw[show hZ (((),0,()),((x.now,x.servers,x.sides,x.master.configs,x.master.activated,x.masterUp,x.lease.epoch,x.lease.holder,x.lease.ends,x.places,()),()),())=_ from k1,show mX (((),x.servers,(x.servers.length:Int),0,()),((x.now,x.servers,x.sides,x.master.configs,x.master.activated,x.masterUp,x.lease.epoch,x.lease.holder,x.lease.ends,x.places,()),()),())=_ from k2];exact⟨_,rfl,rfl⟩
  ·rw[show hZ (((),0,()),((x.now,x.servers,x.sides,x.master.configs,x.master.activated,x.masterUp,x.lease.epoch,x.lease.holder,x.lease.ends,x.places,()),()),())=_ from k1,show mX (((),x.servers,(x.servers.length:Int),0,()),((x.now,x.servers,x.sides,x.master.configs,x.master.activated,x.masterUp,x.lease.epoch,x.lease.holder,x.lease.ends,x.places,()),()),())=_ from k2];exact⟨_,rfl,rfl⟩
end Go.Proofs.YtadabkgmdllbfaaGreat.En
namespace Go.Proofs.YtadabkgmdllbfaaGreat.En
open Go
theorem xQ {c:dR} (h:iJ maxLen c) (hv:ey c=some (true,())):rv c.replicas/\rv c.witnesses/\c.primary∈c.replicas/\1<=c.epoch/\c.epoch<=20/\ ∀x∈c.replicas,x∉c.witnesses:=by
 unfold ey at hv;simp only[gr,ae] at hv;cases hw:kK c.epoch 1 20 with
 |false=>rw[hw] at hv; cases hv
 |true=>
  rw[hw] at hv;rcases tz c.replicas h.1 with ⟨a1,a2,a3⟩| ⟨a1,a2⟩
  ·rcases tz c.witnesses h.2 with ⟨b1,b2,b3⟩| ⟨b1,b2⟩
   ·simp only[a1,b1,ae,ef,(ga c.replicas c.primary h.1).1,xO _ _ a3 h.2,ed] at hv;by_cases hp:c.primary∈c.replicas
    ·rw[if_pos hp] at hv;refine⟨a3,b3,hp,(eF.1 hw).1,(eF.1 hw).2,fun x hx hxw=> ?_⟩
     have hz: ((((c.replicas.filter fun x=>decide (x∈c.witnesses)).length:Nat):Int)==0)=true:=by simpa using hv
     have hz: (c.replicas.filter fun x=>decide (x∈c.witnesses)).length=0:=by simp only[beq_iff_eq] at hz;omega
     have:=bq hz;have hm:x∈c.replicas.filter fun x=>decide (x∈c.witnesses):=by simp[cF,hx,hxw]
     rw[this] at hm;cases hm
    ·rw[if_neg hp] at hv; cases hv
   ·simp only[a1,b1,ae,ef,fB] at hv; cases hv
  ·simp only[a1,ae,ef,fB] at hv; cases hv
theorem Fi {m:dW} (h:rd maxLen m) (hv:fr m=some (true,())): (∀k (hk:k<m.configs.length),ey m.configs[k] =some (true,())/\m.configs[k].epoch=(k:Int)+1)/\0<=m.activated/\m.activated<=(m.configs.length:Int):=by
 obtain⟨hl,hc⟩:=h
 have gg:=nB (B1:=fo) (B2:=fo) m.configs.length (fun k=>(((),(k:Int),()),((m.configs,m.activated,()),()),())) (fun k=>(((),(k:Int),()),((m.configs,m.activated,()),()),())) (.inr (((),(),()),((m.configs,m.activated,()),()),())) (.inr (((),(),()),((m.configs,m.activated,()),()),())) (fun _=> .inl (((),false,()),((m.configs,m.activated,()),()),())) (fun _=> .inl (((),false,()),((m.configs,m.activated,()),()),()))
  (fun k=> ∀hk:k<m.configs.length,ey m.configs[k] =some (true,())/\m.configs[k].epoch=(k:Int)+1) (fun _=>True)
  (by simp only[fo]; rw[ed,if_neg (by omega)])
  (by simp only[fo]; rw[ed,if_neg (by omega)])
  (fun k hk=>by
    have c1: (k:Int)< (m.configs.length:Int):=by omega
    have c2: (0:Int)<=(k:Int):=by omega
    obtain⟨b,v1,v2⟩:=pn m.configs[k] (hc _ (bw hk))
    have step:fo (((),(k:Int),()),((m.configs,m.activated,()),()),())=br b (br (m.configs[k].epoch==((k+1:Nat):Int)) (some (.inl (((),((k+1:Nat):Int),()),((m.configs,m.activated,()),()),()))) (some (.inr (.inl (((),false,()),((m.configs,m.activated,()),()),()))))) (some (.inr (.inl (((),false,()),((m.configs,m.activated,()),()),())))):=by simp only[fo,ed,eh,if_pos c1,if_pos c2,aB,ah hk,ae,v1,dV hl hk,dS]
    rw[step];cases b with
    |false=>exact .inr ⟨rfl,rfl,trivial⟩
    |true=>
     rw[ef,wM];by_cases he:m.configs[k].epoch=((k+1:Nat):Int)
     ·rw[if_pos he];exact .inl ⟨rfl,rfl,fun _=>⟨v1,by omega⟩⟩
     ·rw[if_neg he];exact .inr ⟨rfl,rfl,trivial⟩)
 unfold fr at hv;rcases gg with ⟨k1,_,k3⟩| ⟨k,_,k1,_,_⟩
 ·rw[show kB (((),0,()),((m.configs,m.activated,()),()),())=_ from k1] at hv;simp only[ae,cO,gr,af,an,and_true] at hv;exact⟨fun k hk=>k3 k hk hk,(eF.1 hv).1,(eF.1 hv).2⟩
 ·rw[show kB (((),0,()),((m.configs,m.activated,()),()),())=_ from k1] at hv;cases hv
theorem Hl {s:dQ} {id:Int} (h:gb 1048576 s) (hv:eS s id=some (true,())):0<=s.first/\s.first<=16/\s.log.length<=16/\0<=s.commit/\s.commit<=s.first+(s.log.length:Int)/\gJ s.log=some (true,())/\gJ s.learned=some (true,())/\0<=s.epoch/\s.epoch<=20:=by
 unfold eS at hv;simp only[gr,ae,dS] at hv;cases h1:kK s.version 1 2 with
 |false=>rw[h1] at hv; cases hv
 |true=>
 cases h2:kK s.epoch 0 20 with
 |false=>rw[h1,h2] at hv; cases hv
 |true=>
 rw[h1,h2] at hv;rcases Hk s.log (eC h.2.1) with ⟨a1,a2,a3⟩| ⟨a1,a2⟩
 case inr=>simp only[a1,ae,ef,fB] at hv; cases hv
 rcases Hk s.learned (eC h.2.2) with ⟨b1,b2,b3⟩| ⟨b1,b2⟩
 case inr=>simp only[a1,b1,ae,ef,fB] at hv; cases hv
 simp only[a1,b1,ae,ef] at hv;cases hw:kK s.first 0 16 with
 |false=>rw[hw] at hv; cases hv
 |true=>
 have hf:=eF.1 hw;rw[hw,eX (n:=s.first+(s.log.length:Int)) (by omega) (by omega)] at hv;simp only[ef] at hv;cases h3:kK (s.first+(s.log.length:Int)) 0 16 with
 |false=>rw[h3] at hv; cases hv
 |true=>
 cases h4:kK s.commit 0 (s.first+(s.log.length:Int)) with
 |false=>rw[h3,h4] at hv; cases hv
 |true=>
 exact⟨hf.1,hf.2,a3,(eF.1 h4).1,(eF.1 h4).2,a1,b1,(eF.1 h2).1,(eF.1 h2).2⟩
structure VC (x:dN):Prop where
 len:x.servers.length=5
 ml:fr x.master=some (true,())
 sides:iX x.sides=some (true,())
 places:fm x.places=some (true,())
 lease:jN x.lease=some (true,())
 now:0<=x.now/\x.now<=999
 up:0<=x.masterUp/\x.masterUp<=3
 srv: ∀k (hk:k<x.servers.length),eS x.servers[k] (k:Int)=some (true,())
theorem i8 {x:dN} (h:fj 1048576 x) (hv:dT x=some (true,())):VC x:=by
 obtain⟨⟨hs1,hs2⟩,hsd,hml,hpl⟩:=h;have hm:=eC hs1
 have gg:=nB (B1:=ei) (B2:=ei) x.servers.length (fun k=>(((),(k:Int),()),((x.now,x.servers,x.sides,x.master.configs,x.master.activated,x.masterUp,x.lease.epoch,x.lease.holder,x.lease.ends,x.places,()),()),())) (fun k=>(((),(k:Int),()),((x.now,x.servers,x.sides,x.master.configs,x.master.activated,x.masterUp,x.lease.epoch,x.lease.holder,x.lease.ends,x.places,()),()),())) (.inr (((),()),(),())) (.inr (((),()),(),())) (fun _=> .inl ((false,()),(),())) (fun _=> .inl ((false,()),(),()))
  (fun k=> ∀hk:k<x.servers.length,eS x.servers[k] (k:Int)=some (true,())) (fun _=>True)
  (by simp only[ei]; rw[ed,if_neg (by omega)])
  (by simp only[ei]; rw[ed,if_neg (by omega)])
  (fun k hk=>by
    have c1: (k:Int)< (x.servers.length:Int):=by omega
    have c2: (0:Int)<=(k:Int):=by omega
    have hsk:=hs2 _ (bw hk);obtain⟨b,v1,v2⟩:=rx x.servers[k] (k:Int) hsk;obtain⟨n,n1,n2⟩:=sM x.servers[k].learned (eC hsk.2.2);obtain⟨c,d,d1,d2,d3⟩:=xP x.master x.servers[k].config.epoch hml;have hcfg:=eO hsk.1
    have step:ei (((),(k:Int),()),((x.now,x.servers,x.sides,x.master.configs,x.master.activated,x.masterUp,x.lease.epoch,x.lease.holder,x.lease.ends,x.places,()),()),())=some (.inr (.inl ((false,()),(),())))\/(b=true/\ei (((),(k:Int),()),((x.now,x.servers,x.sides,x.master.configs,x.master.activated,x.masterUp,x.lease.epoch,x.lease.holder,x.lease.ends,x.places,()),()),())=some (.inl (((),((k+1:Nat):Int),()),((x.now,x.servers,x.sides,x.master.configs,x.master.activated,x.masterUp,x.lease.epoch,x.lease.holder,x.lease.ends,x.places,()),()),()))):=by
     simp only[ei,ed,eh,if_pos c1,if_pos c2,aB,ah hk,ae,v1,n1,dV hm hk,dS,
      show (⟨x.master.configs,x.master.activated⟩:dW)=x.master from rfl,d1,vq _ hcfg,(gR c x.servers[k].config d3).1]
     cases b with
     |false=>exact .inl rfl
     |true=>
      simp only[ef]
      repeat' split
      all_goals first |exact .inl trivial|exact .inr ⟨trivial,trivial⟩| (cases d<;>first |exact .inl rfl| (simp only[ef]; repeat' split)<;>first |exact .inl trivial|exact .inr ⟨trivial,trivial⟩)
    rcases step with h1| ⟨rfl,h1⟩
    ·rw[h1]; exact .inr ⟨rfl,rfl,trivial⟩
    ·rw[h1]; exact .inl ⟨rfl,rfl,fun _=>v1⟩)
 unfold dT at hv;obtain⟨b1,a1,a2⟩:=sL x.sides (eC hsd);obtain⟨b2,m1,m2⟩:=masterLog x.master (kU hml);obtain⟨b3,l1,l2⟩:=tA x.lease;obtain⟨b4,p1,p2⟩:=qj x.places (eC hpl);simp only[gr,a1,m1,l1,p1,ae,dS,ed] at hv;cases h1:kK x.now 0 999 with
 |false=>rw[h1] at hv; cases hv
 |true=>
 cases h2: ((x.servers.length:Int)==5) with
 |false=>rw[h1,h2] at hv; cases hv
 |true=>
 cases b1 with
 |false=>rw[h1,h2] at hv; cases hv
 |true=>
 cases b2 with
 |false=>rw[h1,h2] at hv; cases hv
 |true=>
 cases h3:kK x.masterUp 0 3 with
 |false=>rw[h1,h2,h3] at hv; cases hv
 |true=>
 cases b3 with
 |false=>rw[h1,h2,h3] at hv; cases hv
 |true=>
 cases b4 with
 |false=>rw[h1,h2,h3] at hv; cases hv
 |true=>
 rw[h1,h2,h3] at hv;simp only[ef] at hv;by_cases h4:x.lease.epoch>x.master.activated
 ·rw[if_pos h4] at hv; cases hv
 ·rw[if_neg h4] at hv;rcases gg with ⟨k1,_,k3⟩| ⟨k,_,k1,_,_⟩
  ·refine⟨?_,m1,a1,p1,l1,eF.1 h1,eF.1 h3,fun k hk=>k3 k hk hk⟩;simp only[beq_iff_eq] at h2;omega
  ·rw[show hZ (((),0,()),((x.now,x.servers,x.sides,x.master.configs,x.master.activated,x.masterUp,x.lease.epoch,x.lease.holder,x.lease.ends,x.places,()),()),())=_ from k1] at hv;cases hv
end Go.Proofs.YtadabkgmdllbfaaGreat.En
namespace Go.Proofs.YtadabkgmdllbfaaGreat.En
open Go
end Go.Proofs.YtadabkgmdllbfaaGreat.En
namespace Go.Proofs.YtadabkgmdllbfaaGreat.En
open Go
section
variable {α:Type}
end
end Go.Proofs.YtadabkgmdllbfaaGreat.En
namespace Go.Proofs.YtadabkgmdllbfaaGreat.En
open Go
end Go.Proofs.YtadabkgmdllbfaaGreat.En
namespace Go.Proofs.YtadabkgmdllbfaaGreat.En
open Go
theorem Ci {n c:Nat} (h:n<=1048577) (hc:c<=1000):n*c<=2 ^ 40:=by
 have h1:n*c<=1048577*1000:=Nat.mul_le_mul h hc;have h2: (2:Nat) ^ 40=1099511627776:=by decide
 omega
theorem vr (c:dR) (h:iJ 1048576 c):jM c=some (c,())/\gM c=some (c,()):=by have a:=h.1;have b:=h.2;unfold jM gM;simp only[aY,eh,if_pos (Ci (ck a) (show 8<=1000 by decide)),if_pos (Ci (ck b) (show 8<=1000 by decide))];exact⟨trivial,trivial⟩
theorem vt (l:List dY) (h:l.length<=1048576):ij l=some (l,())/\lB l=some (l,()):=by unfold ij lB;simp only[aY,eh,if_pos (Ci (ck h) (show 56<=1000 by decide))];exact⟨trivial,trivial⟩
theorem JZ (l:List Int) (h:l.length<=1048576):ko l=some (l,()):=by unfold ko;simp only[eh,if_pos (Ci (ck h) (show 8<=1000 by decide))]
theorem IU (l:List eD) (h:l.length<=1048576):n7 l=some (l,()):=by unfold n7;simp only[eh,if_pos (Ci (ck h) (show 24<=1000 by decide))]
theorem Aq (s:dQ) (h:gb 1048576 s):je s=some (s,())/\nZ s=some (s,()):=by unfold je nZ;simp only[(vr _ h.1).1,(vr _ h.1).2,(vt _ h.2.1).1,(vt _ h.2.1).2,(vt _ h.2.2).1,(vt _ h.2.2).2,ae];exact⟨trivial,trivial⟩
theorem o0 {α:Type} {l:List α} {k:Nat} {x:α} (h:l[k]? =some x):l.take (k+1)=l.take k++ [x] :=by rw[bM,h]; rfl
theorem qb {α:Type} (l:List α) (k:Nat) (x:α) (h:l.length<=1048576): (l.take k++ [x]).length<=1048577:=by rw[aA,aZ,az];omega
theorem Fj (m:dW) (h:rd 1048576 m):ox m=some (m,())/\n6 m=some (m,()):=by
 obtain⟨hl,hc⟩:=h
 have k1:=l9 (B:=m9) m.configs (fun k (b:List dR)=>(((),(),(),(k:Int),()),((m.configs,m.activated,()),((),0,()),((),m.activated,()),()),(b,()))) (fun k b=>b=m.configs.take k) (fun _ _ _=>(((),(),()),(((),0,()),((),m.activated,()),()),(m.configs,())))
  (fun b hb=>by simp only[m9];rw[ed,if_neg (by omega),hb,bU])
  (fun k b c hx hb=>by
    have hk:=jL hx;have c1: (k:Int)< (m.configs.length:Int):=by omega
    have c2: (0:Int)<=(k:Int):=by omega
    subst hb;refine .inl ⟨m.configs.take (k+1),?_,rfl,rfl⟩;simp only[m9,ed,eh,if_pos c1,if_pos c2,aB,hx,ae,(vr c (hc c (au hx))).1,dV (eC hl) hk,if_pos (Ci (qb m.configs k c hl) (show 64<=1000 by decide)),o0 hx])
  0 [] (ay _) rfl
 have k2:=l9 (B:=jU) m.configs (fun k (b:List dR)=>(((),(),m.configs,(m.configs.length:Int),(k:Int),()),(((),0,()),((),m.activated,()),()),(b,()))) (fun k b=>b=m.configs.take k) (fun _ _ _=>(((),(),()),(((),0,()),((),m.activated,()),()),(m.configs,())))
  (fun b hb=>by simp only[jU];rw[ed,if_neg (by omega),hb,bU])
  (fun k b c hx hb=>by
    have hk:=jL hx;have c1: (k:Int)< (m.configs.length:Int):=by omega
    have c2: (0:Int)<=(k:Int):=by omega
    subst hb;refine .inl ⟨m.configs.take (k+1),?_,rfl,rfl⟩;simp only[jU,ed,eh,if_pos c1,if_pos c2,aB,hx,ae,(vr c (hc c (au hx))).2,dV (eC hl) hk,if_pos (Ci (qb m.configs k c hl) (show 64<=1000 by decide)),o0 hx])
  0 [] (ay _) rfl
 unfold ox n6;rw[show zz (((),(),(),0,()),((m.configs,m.activated,()),((),0,()),((),m.activated,()),()),(([]:List dR),()))=_ from k1,show uM (((),(),m.configs,(m.configs.length:Int),0,()),(((),0,()),((),m.activated,()),()),(([]:List dR),()))=_ from k2];exact⟨rfl,rfl⟩
theorem gp (x:dN) (ok:fj 1048576 x):eR x=some (x,())/\gD x=some (x,()):=by
 obtain⟨⟨hl,hs⟩,hsd,hml,hpl⟩:=ok
 have k1:=l9 (B:=na) x.servers (fun k (b:List dQ)=>(((),(),(),(k:Int),()),((x.now,x.servers,x.sides,x.master.configs,x.master.activated,x.masterUp,x.lease.epoch,x.lease.holder,x.lease.ends,x.places,()),(0,(),(),(),0,0,0,0,0,(),()),(x.now,(),x.sides,x.master.configs,x.master.activated,x.masterUp,x.lease.epoch,x.lease.holder,x.lease.ends,x.places,()),()),(b,()))) (fun k b=>b=x.servers.take k) (fun _ _ _=>(((),(),(),()),((x.now,x.servers,x.sides,x.master.configs,x.master.activated,x.masterUp,x.lease.epoch,x.lease.holder,x.lease.ends,x.places,()),(0,(),(),(),0,0,0,0,0,(),()),(x.now,(),x.sides,x.master.configs,x.master.activated,x.masterUp,x.lease.epoch,x.lease.holder,x.lease.ends,x.places,()),()),(x.servers,())))
  (fun b hb=>by simp only[na];rw[ed,if_neg (by omega),hb,bU])
  (fun k b c hx hb=>by
    have hk:=jL hx;have c1: (k:Int)< (x.servers.length:Int):=by omega
    have c2: (0:Int)<=(k:Int):=by omega
    subst hb;refine .inl ⟨x.servers.take (k+1),?_,rfl,rfl⟩;simp only[na,ed,eh,if_pos c1,if_pos c2,aB,hx,ae,(Aq c (hs c (au hx))).1,dV (eC hl) hk,if_pos (Ci (qb x.servers k c hl) (show 152<=1000 by decide)),o0 hx])
  0 [] (ay _) rfl
 have k2:=l9 (B:=ji) x.servers (fun k (b:List dQ)=>(((),(),(),x.servers,(x.servers.length:Int),(k:Int),()),((x.now,x.servers,x.sides,x.master.configs,x.master.activated,x.masterUp,x.lease.epoch,x.lease.holder,x.lease.ends,x.places,()),(0,(),(),(),0,0,0,0,0,(),()),(x.now,(),x.sides,x.master.configs,x.master.activated,x.masterUp,x.lease.epoch,x.lease.holder,x.lease.ends,x.places,()),()),(b,()))) (fun k b=>b=x.servers.take k) (fun _ _ _=>(((),(),(),()),((x.now,x.servers,x.sides,x.master.configs,x.master.activated,x.masterUp,x.lease.epoch,x.lease.holder,x.lease.ends,x.places,()),(0,(),(),(),0,0,0,0,0,(),()),(x.now,(),x.sides,x.master.configs,x.master.activated,x.masterUp,x.lease.epoch,x.lease.holder,x.lease.ends,x.places,()),()),(x.servers,())))
  (fun b hb=>by simp only[ji];rw[ed,if_neg (by omega),hb,bU])
  (fun k b c hx hb=>by
    have hk:=jL hx;have c1: (k:Int)< (x.servers.length:Int):=by omega
    have c2: (0:Int)<=(k:Int):=by omega
    subst hb;refine .inl ⟨x.servers.take (k+1),?_,rfl,rfl⟩;simp only[ji,ed,eh,if_pos c1,if_pos c2,aB,hx,ae,(Aq c (hs c (au hx))).2,dV (eC hl) hk,if_pos (Ci (qb x.servers k c hl) (show 152<=1000 by decide)),o0 hx])
  0 [] (ay _) rfl
 unfold eR gD
 rw[show zB (((),(),(),0,()),((x.now,x.servers,x.sides,x.master.configs,x.master.activated,x.masterUp,x.lease.epoch,x.lease.holder,x.lease.ends,x.places,()),(0,(),(),(),0,0,0,0,0,(),()),(x.now,(),x.sides,x.master.configs,x.master.activated,x.masterUp,x.lease.epoch,x.lease.holder,x.lease.ends,x.places,()),()),(([]:List dQ),()))=_ from k1,
  show tT (((),(),(),x.servers,(x.servers.length:Int),0,()),((x.now,x.servers,x.sides,x.master.configs,x.master.activated,x.masterUp,x.lease.epoch,x.lease.holder,x.lease.ends,x.places,()),(0,(),(),(),0,0,0,0,0,(),()),(x.now,(),x.sides,x.master.configs,x.master.activated,x.masterUp,x.lease.epoch,x.lease.holder,x.lease.ends,x.places,()),()),(([]:List dQ),()))=_ from k2]
 have em: (⟨x.master.configs,x.master.activated⟩:dW)=x.master:=rfl;simp only[ae,aY,em,(Fj _ hml).1,(Fj _ hml).2,JZ _ hsd,IU _ hpl,eh,if_pos (Ci (ck hsd) (show 8<=1000 by decide)),if_pos (Ci (ck hpl) (show 24<=1000 by decide))];exact⟨trivial,trivial⟩
theorem yV (x:dN) (id:Int) (ok:fj 1048576 x): ∃b,kR x id=some (b,())/\gn x id=some (b,())/\(b=true->dT x=some (true,())/\0<=id/\id<5):=by
 obtain⟨v,v1,v2⟩:=gt x ok;unfold kR gn;simp only[v1,v2,ae,gr,p9];cases v with
 |false=>exact⟨false,rfl,rfl,nofun⟩
 |true=>refine⟨kK id 0 4,rfl,rfl,fun h=>⟨rfl,?_⟩⟩;have:=eF.1 h;omega
end Go.Proofs.YtadabkgmdllbfaaGreat.En
namespace Go.Proofs.YtadabkgmdllbfaaGreat.En
open Go
end Go.Proofs.YtadabkgmdllbfaaGreat.En
namespace Go.Proofs.YtadabkgmdllbfaaGreat.En
open Go
def SS (l:List Int):Prop:=l.Pairwise (· < ·)
theorem Nf {A B:List Int} {x:Int} (h:SS (A++B)) (ha: ∀y∈A,y<x) (hb: ∀y∈B,x<y):SS (A++ [x] ++B):=by
 obtain⟨h1,h2,h3⟩:=da.1 h;refine da.2 ⟨da.2 ⟨h1,dh _ _,fun a h b hb'=> ?_⟩,h2,fun a h b hb'=> ?_⟩
 ·rw[aE.1 hb'];exact ha a h
 ·rcases bf.1 h with h|h
  ·exact h3 a h b hb'
  ·rw[aE.1 h];exact hb b hb'
theorem Pk (l:List Int) (x:Int) (hl:l.length<=1000) (hs:SS l): ∃r,jJ l x=some (r,())/\SS r/\(∀y,y∈r↔y=x\/y∈l)/\r.length<=l.length+1/\(x∉l->r.length=l.length+1):=by
 have hm:l.length<=maxLen:=by unfold maxLen; omega
 rcases uT (B:=lN) l.length (fun k=>((l,x,(k:Int),()),(),())) ((l,x,(l.length:Int),()),(),()) (fun k=>((l,x,(k:Int),()),(),())) (fun k=>match l[k]? with |some y=> !decide (y<x)|none=>false)
  (by simp only[lN]; rw[ed,if_neg (by omega)])
  (fun k hk=>by
    have c1: (k:Int)< (l.length:Int):=by omega
    have c2: (0:Int)<=(k:Int):=by omega
    simp only[lN,ed,eh,if_pos c1,if_pos c2,aB,ah hk,ae,dV hm hk];by_cases h:l[k]<x<;>simp[h]) with ⟨k1,k2⟩| ⟨i,hi,k1,k2,k3⟩
 ·have all: ∀y∈l,y<x:=by
   intro y hy;obtain⟨k,hk,rfl⟩:=aP hy;have:=k2 k hk;rw[ah hk] at this;simpa using this
  refine⟨l++ [x],Fh l x hl all,?_,?_,?_,fun _=>by simp⟩
  ·have:=Nf (A:=l) (B:= []) (x:=x) (by simpa using hs) all (by simp);simpa using this
  ·intro y;simp[or_comm]
  ·simp
 ·rw[ah hi] at k2;simp only[bZ,decide_eq_false_iff_not,Int.not_lt] at k2
  have lt: ∀y∈l.take i,y<x:=by
   intro y hy;obtain⟨j,hj,rfl⟩:=aP hy;have hj':j<i:=by simp at hj; omega
   have:=k3 j hj';rw[ah (by omega)] at this;rw[dk];simpa using this
  have hd:l.drop i=l[i]::l.drop (i+1):=bV hi;have hsp:l.take i++l.drop i=l:=dw i l
  have ge: ∀y∈l.drop i,l[i] <=y:=by
   intro y hy;rw[hd] at hy;rcases bc.1 hy with rfl|hy
   ·exact bP _
   ·have h2:SS (l.drop i):=List.Pairwise.sublist (List.drop_sublist i l) hs;rw[hd] at h2;exact Int.le_of_lt ((List.pairwise_cons.1 h2).1 y hy)
  unfold jJ;rw[show yD ((l,x,0,()),(),())=_ from k1];have c1: (i:Int)< (l.length:Int):=by omega
  have c2: (0:Int)<=(i:Int):=by omega
  simp only[ae,ed,wM,eh,if_pos c1,if_pos c2,aB,ah hi,aY];by_cases he:l[i] =x
  ·simp only[if_pos he,if_pos (lX (show l.length<=1048576 by omega))];refine⟨l,rfl,hs,fun y=>⟨.inr,?_⟩,by omega,fun h=>absurd (by rw[<-he]; exact bw hi) h⟩
   rintro (rfl|h)
   ·rw[<-he];exact bw hi
   ·exact h
  ·have d1: (0:Int)<=0/\(0:Int)<=(i:Int)/\(i:Int)<=(l.length:Int):=by omega
   have d2: (0:Int)<=(i:Int)/\(i:Int)<=(l.length:Int)/\(l.length:Int)<=(l.length:Int):=by omega
   have e1: (l.drop i).take (l.length-i)=l.drop i:=bJ (by simp);simp only[if_neg he,if_pos d1,if_pos d2,Int.toNat_zero,bK,cT,e1];rw[if_pos (lX (by simp; omega)),if_pos (lX (by simp; omega)),if_pos (lX (by simp; omega))];refine⟨_,rfl,Nf (by rw[hsp]; exact hs) lt (fun y hy=> ?_),fun y=> ?_,by simp; omega,fun _=>by simp; omega⟩
   ·have:=ge y hy;omega
   ·conv=>rhs; rw[<-hsp]
    simp only[bf,aE];constructor
    ·rintro ((h|h)|h)
     ·exact .inr (.inl h)
     ·exact .inl h
     ·exact .inr (.inr h)
    ·rintro (h|h|h)
     ·exact .inl (.inr h)
     ·exact .inl (.inl h)
     ·exact .inr h
theorem PT {β:Type} (l:List Int) (hl:l.length<=500) {mk:Nat->List Int->β} {ε:Type} {B:β->Option (β⊕ε)} {E:List Int->ε}
  (h0: ∀v,B (mk l.length v)=some (.inr (E v)))
  (h1: ∀k v x,l[k]? =some x->B (mk k v)=(jJ v x).bind fun y=>some (.inl (mk (k+1) y.1)))
  (v:List Int) (hv:SS v) (hvl:v.length<=500): ∃r,gV B (mk 0 v)=some (E r)/\SS r/\(∀y,y∈r↔y∈v\/y∈l)/\r.length<=v.length+l.length:=by
 have go: ∀ (n k:Nat) (v:List Int),k+n=l.length->SS v->v.length+n<=1000-> ∃r,gV B (mk k v)=some (E r)/\SS r/\(∀y,y∈r↔y∈v\/y∈l.drop k)/\r.length<=v.length+n:=by
  intro n
  induction n with
  |zero=>
   intro k v hk hv _;have :k=l.length:=by omega
   subst this;exact⟨v,lj (h0 v),hv,by simp,by omega⟩
  |succ n ih=>
   intro k v hk hv hn;have hlt:k<l.length:=by omega
   obtain⟨r,r1,r2,r3,r4,_⟩:=Pk v l[k] (by omega) hv;obtain⟨s,s1,s2,s3,s4⟩:=ih (k+1) r (by omega) r2 (by omega);refine⟨s,?_,s2,fun y=> ?_,by omega⟩
   ·rw[rX (by rw[h1 k v _ (ah hlt),r1]; rfl)];exact s1
   ·rw[s3,r3,bV hlt,bc];constructor
    ·rintro ((h|h)|h)
     ·exact .inr (.inl h)
     ·exact .inl h
     ·exact .inr (.inr h)
    ·rintro (h|h|h)
     ·exact .inl (.inr h)
     ·exact .inl (.inl h)
     ·exact .inr h
 obtain⟨r,h1,h2,h3,h4⟩:=go l.length 0 v (by omega) hv (by omega);rw[bK] at h3;exact⟨r,h1,h2,h3,h4⟩
theorem Ng (a b:List Int) (ha:a.length<=100) (hb:b.length<=100): ∃r,lw a b=some (r,())/\SS r/\(∀y,y∈r↔y∈a\/y∈b)/\r.length<=a.length+b.length:=by
 have am:a.length<=maxLen:=by unfold maxLen; omega
 have bm:b.length<=maxLen:=by unfold maxLen; omega
 obtain⟨r,r1,r2,r3,r4⟩:=PT (B:=iO) (mk:=fun k v=>((a,b,(),(k:Int),()),(),(v,()))) (E:=fun v=>((b,(),()),(),(v,()))) a (by omega)
  (fun v=>by simp only[iO]; rw[ed,if_neg (by omega)])
  (fun k v x hx=>by
    have hk:=jL hx;have c1: (k:Int)< (a.length:Int):=by omega
    have c2: (0:Int)<=(k:Int):=by omega
    simp only[iO,ed,eh,if_pos c1,if_pos c2,aB,hx,ae,dV am hk])
  [] List.Pairwise.nil (ay _)
 obtain⟨s,s1,s2,s3,s4⟩:=PT (B:=iP) (mk:=fun k v=>((b,(),(k:Int),()),(),(v,()))) (E:=fun v=>(((),()),(),(v,()))) b (by omega)
  (fun v=>by simp only[iP]; rw[ed,if_neg (by omega)])
  (fun k v x hx=>by
    have hk:=jL hx;have c1: (k:Int)< (b.length:Int):=by omega
    have c2: (0:Int)<=(k:Int):=by omega
    simp only[iP,ed,eh,if_pos c1,if_pos c2,aB,hx,ae,dV bm hk])
  r r2 (by simp at r4; omega)
 unfold lw;rw[show sn ((a,b,(),0,()),(),([],()))=_ from r1];simp only[ae];rw[show sq ((b,(),0,()),(),(r,()))=_ from s1];refine⟨s,rfl,s2,fun y=> ?_,by simp at r4; omega⟩;rw[s3,r3];simp
end Go.Proofs.YtadabkgmdllbfaaGreat.En
namespace Go.Proofs.YtadabkgmdllbfaaGreat.En
open Go
theorem Cj (m:dW) (e:Int) (h:rd 1048576 m) (hv:fr m=some (true,())): ∃c b,iY m e=some (c,b,())/\mW m e=some (c,b,())/\iJ maxLen c/\(b=kK e 1 (m.configs.length:Int))/\(b=true->ey c=some (true,())/\c.epoch=e)/\(b=false->c=⟨0,0,[],[]⟩):=by
 obtain⟨b,m1,m2⟩:=masterLog m (kU h);rw[hv] at m1;simp only[af,an,and_true] at m1;subst m1;obtain⟨f1,_,_⟩:=Fi (kU h) hv;have zero:iJ maxLen ⟨0,0,[],[]⟩:=⟨ay _,ay _⟩
 have hl:=h.1;unfold iY mW;simp only[hv,m2,gr,p9,ae,dS,ef];cases hw:kK e 1 (m.configs.length:Int) with
 |false=>exact⟨_,_,rfl,rfl,zero,rfl,nofun,fun _=>rfl⟩
 |true=>
  have hw:=eF.1 hw;simp only[ef];rw[eX (n:=e-1) (by omega) (by omega)];have hlt: (e-1).toNat<m.configs.length:=by omega
  have hk:=h.2 _ (bw hlt)
  have copy: ∀c:dR,iJ 1048576 c->jM c=some (c,())/\gM c=some (c,()):=by intro c hc;unfold jM gM;simp only[aY];rw[hQ (lX hc.1),hQ (lX hc.2)];exact⟨rfl,rfl⟩
  rw[hQ (by omega),hQ (by omega),ah hlt];simp only[ae,(copy _ hk).1,(copy _ hk).2];refine⟨_,_,rfl,rfl,eO hk,rfl,fun _=>⟨(f1 _ hlt).1,?_⟩,nofun⟩;rw[(f1 _ hlt).2];omega
end Go.Proofs.YtadabkgmdllbfaaGreat.En
namespace Go.Proofs.YtadabkgmdllbfaaGreat.En
open Go
def xR (p:Nat->Bool) (n:Nat):List Int:=((List.range n).filter p).map fun (k:Nat)=>(k:Int)
theorem Hm (p:Nat->Bool) (n:Nat):xR p (n+1)=xR p n++if p n=true then [(n:Int)] else [] :=by
 unfold xR;rw[List.range_succ,ca,bT]
 congr 1
 cases h:p n<;>simp[h]
theorem Fk (p:Nat->Bool) (n:Nat) (x:Int):x∈xR p n↔ ∃k:Nat,k<n/\p k=true/\x=(k:Int):=by
 unfold xR;simp only[aJ,cF,bH];constructor
 ·rintro⟨k,⟨h1,h2⟩,rfl⟩; exact⟨k,h1,h2,rfl⟩
 ·rintro⟨k,h1,h2,rfl⟩; exact⟨k,⟨h1,h2⟩,rfl⟩
theorem J0 (p:Nat->Bool) (n:Nat): (xR p n).length<=n:=by unfold xR;rw[aK];exact aO (cX _ _) (by simp)
theorem J1 (p:Nat->Bool) {n:Nat} (hn:n<=5):rv (xR p n):=by
 have hp: (xR p n).Pairwise (· < ·):=by unfold xR;rw[List.pairwise_map];exact (List.Pairwise.filter _ List.pairwise_lt_range).imp fun h=>by omega
 intro k hk;have hm: (xR p n)[k] ∈xR p n:=bw hk;obtain⟨j,h1,_,h2⟩:=(Fk p n _).1 hm;exact⟨⟨by omega,by omega⟩,fun h0=>bW.1 hp (k-1) k (by omega) hk (by omega)⟩
theorem Pm (p q:Nat->Bool) (n:Nat): (xR p n).filter (fun x=>decide (x∈xR q n))=xR (fun k=>p k&&q k) n:=by
 unfold xR;rw[List.filter_map,List.filter_filter]
 congr 1
 apply List.filter_congr;intro k hk;have hk:=bH.1 hk
 have : (((fun x=>decide (x∈xR q n))∘fun (k:Nat)=>(k:Int)) k)=q k:=by
  show decide ((k:Int)∈xR q n)=q k;cases hq:q k with
  |true=>exact decide_eq_true ((Fk q n _).2 ⟨k,hk,hq,rfl⟩)
  |false=>
   refine decide_eq_false fun h=> ?_;obtain⟨j,_,h1,h2⟩:=(Fk q n _).1 h;have :j=k:=by omega
   subst this;rw[hq] at h1;cases h1
 have e:decide ((k:Int)∈List.map (fun (k:Nat)=>(k:Int)) (List.filter q (List.range n)))=q k:=this;simp only[Function.comp,e,Bool.and_comm]
def Hn (x:dN) (k:Nat):Bool:=match x.servers[k]? with |some s=>s.up|none=>false
def uU (l:List Int) (k:Nat):Bool:=match l[k]? with |some s=>s==0|none=>false
theorem PU {p:Nat->Bool} {k:Nat} (h:k<=1000) (y:Int): (xR p k++ [y]).length*8<=2 ^ 40:=by have:=J0 p k;refine lX ?_;rw[aA,az];omega
theorem La (x:dN) (hl:x.servers.length=5) (hv:dT x=some (true,())):pc x=some (xR (Hn x) 5,()):=by
 have ex: (⟨x.now,x.servers,x.sides,⟨x.master.configs,x.master.activated⟩,x.masterUp,⟨x.lease.epoch,x.lease.holder,x.lease.ends⟩,x.places⟩:dN)=x:=rfl
 have gg:=l9 (B:=kQ) x.servers (fun k (b:List Int)=>(((),(),(k:Int),()),((x.now,x.servers,x.sides,x.master.configs,x.master.activated,x.masterUp,x.lease.epoch,x.lease.holder,x.lease.ends,x.places,()),()),(b,()))) (fun k b=>b=xR (Hn x) k) (fun _ _ _=>(((),()),(),(xR (Hn x) 5,())))
  (fun b hb=>by simp only[kQ];rw[ed,if_neg (by omega),hb,hl])
  (fun k b s hs hb=>by
    have hk:=jL hs;have c1: (k:Int)< (x.servers.length:Int):=by omega
    have c2: (0:Int)<=(k:Int):=by omega
    have hup:Hn x k=s.up:=by unfold Hn; rw[hs]
    subst hb;simp only[kQ,ed,eh,if_pos c1,if_pos c2,aB,hs,ae,ex,hv,ef,dV (n:=5) (by decide) (by omega:k<5),if_pos (PU (p:=Hn x) (k:=k) (by omega) (k:Int))];refine .inl ⟨xR (Hn x) (k+1),?_,rfl,trivial⟩;rw[Hm,hup];cases s.up
    ·simp;rfl
    ·rfl)
  0 [] (ay _) rfl
 unfold pc;rw[show vP (((),(),0,()),((x.now,x.servers,x.sides,x.master.configs,x.master.activated,x.masterUp,x.lease.epoch,x.lease.holder,x.lease.ends,x.places,()),()),([],()))=_ from gg];rfl
theorem po {l:List Int} (hl:l.length<=maxLen) (hv:iX l=some (true,())):l.length=5:=by
 obtain⟨b,h1,h2⟩:=sL l hl;rw[hv] at h1;simp only[af,an,and_true] at h1;subst h1;unfold mT at h2;cases h: ((l.length:Int)==5) with
 |false=>rw[h] at h2; cases h2
 |true=>simp only[beq_iff_eq] at h; omega
theorem IV (l:List Int) (hl:l.length=5) (hv:iX l=some (true,())):nK l=some (xR (uU l) 5,()):=by
 have gg:=l9 (B:=jQ) l (fun k (b:List Int)=>((l,(),(k:Int),()),(),(b,()))) (fun k b=>b=xR (uU l) k) (fun _ _ _=>(((),()),(),(xR (uU l) 5,())))
  (fun b hb=>by simp only[jQ];rw[ed,if_neg (by omega),hb,hl])
  (fun k b s hs hb=>by
    have hk:=jL hs;have c1: (k:Int)< (l.length:Int):=by omega
    have c2: (0:Int)<=(k:Int):=by omega
    have hup:uU l k=(s==0):=by unfold uU; rw[hs]
    subst hb;simp only[jQ,ed,eh,if_pos c1,if_pos c2,aB,hs,ae,hv,ef,dV (n:=5) (by decide) (by omega:k<5),if_pos (PU (p:=uU l) (k:=k) (by omega) (k:Int))];refine .inl ⟨xR (uU l) (k+1),?_,rfl,trivial⟩;rw[Hm,hup];cases (s==0)
    ·simp;rfl
    ·rfl)
  0 [] (ay _) rfl
 unfold nK;rw[show ux ((l,(),0,()),(),([],()))=_ from gg];rfl
def Fl (x:dN) (k:Nat):Bool:=Hn x k&&uU x.sides k
theorem RZ (x:dN) (ok:fj 1048576 x) (hv:dT x=some (true,())):qI x=some (xR (Fl x) 5,()):=by have vc:=i8 ok hv;have hsl:=po (eC ok.2.1) vc.sides;unfold qI;rw[La x vc.len hv,IV x.sides hsl vc.sides];simp only[ae];rw[xO _ _ (J1 _ (aq 5)) (aO (J0 _ _) (by decide)),Pm];rfl
end Go.Proofs.YtadabkgmdllbfaaGreat.En
namespace Go.Proofs.YtadabkgmdllbfaaGreat.En
open Go
def IW (x:dN) (a:Int):Int:=(x.sides[a.toNat]?).getD 0
theorem zJ {x:dN} (ok:fj 1048576 x) (vc:VC x) {a:Int} (ha:0<=a/\a<5): ∃s,x.servers[a.toNat]? =some s/\gb 1048576 s/\eS s a=some (true,()):=by
 have hlt:a.toNat<x.servers.length:=by rw[vc.len]; omega
 refine⟨_,ah hlt,ok.1.2 _ (bw hlt),?_⟩;have:=vc.srv _ hlt
 rwa [Int.toNat_of_nonneg ha.1] at this
theorem q9 (s:dQ) (id:Int) (h:gb 1048576 s): ∃b,gl s id=some (b,())/\fiIsPrimaryNow s id=some (b,()):=by obtain⟨v,v1,v2⟩:=rx s id h;obtain⟨n,n1,n2,_⟩:=wN s.config id (eO h.1);unfold gl fiIsPrimaryNow;simp only[v1,v2,n1,n2,ae];cases v<;>cases s.up<;>cases (n==1)<;>exact⟨_,rfl,rfl⟩
end Go.Proofs.YtadabkgmdllbfaaGreat.En
namespace Go.Proofs.YtadabkgmdllbfaaGreat.En
open Go
end Go.Proofs.YtadabkgmdllbfaaGreat.En
namespace Go.Proofs.YtadabkgmdllbfaaGreat.En
open Go
end Go.Proofs.YtadabkgmdllbfaaGreat.En
namespace Go.Proofs.YtadabkgmdllbfaaGreat.En
open Go
theorem PV (x y:dY): ((x.epoch==y.epoch)&&((x.op.client==y.op.client)&&((x.op.seq==y.op.seq)&&((x.op.kind==y.op.kind)&&((x.op.object==y.op.object)&&((x.op.old==y.op.old)&&((x.op.value==y.op.value)&&true)))))))=decide (x=y):=by obtain⟨a,b,c,d,e,f,g⟩:=x;obtain⟨a',b',c',d',e',f',g'⟩:=y;rw[b8];simp[and_assoc]
theorem Nh (a b:List dY) (ha:a.length<=maxLen):jX a b=some (decide (a=b),()):=by
 unfold jX;rw[dS,wM];split
 ·rename_i hl;have hl:a.length=b.length:=by omega
  rcases uT (B:=iT) a.length (fun k=>((a,b,(a.length:Int),(k:Int),()),(),())) (.inr (((),()),(),())) (fun _=> .inl ((false,()),(),())) (fun k=>decide (a[k]? ≠b[k]?))
   (by simp only[iT]; rw[ed,if_neg (by omega)])
   (fun k hk=>by
     have c1: (k:Int)< (a.length:Int):=by omega
     have c2: (0:Int)<=(k:Int):=by omega
     have hk':k<b.length:=by omega
     simp only[iT,PV,dS,ed,eh,if_pos c1,if_pos c2,aB,ah hk,ah hk',ae,dV ha hk];by_cases h:a[k] =b[k]<;>simp[h]) with ⟨k1,k2⟩| ⟨i,hi,k1,k2,_⟩
  ·rw[show oJ ((a,b,(a.length:Int),0,()),(),())=_ from k1]
   have :a=b:=List.ext_getElem hl fun k h1 h2=>by have:=k2 k h1;rw[ah h1,ah h2] at this;simpa using this
   rw[decide_eq_true this];rfl
  ·rw[show oJ ((a,b,(a.length:Int),0,()),(),())=_ from k1]
   have :a≠b:=fun h=>by rw[h] at k2;simp at k2
   rw[decide_eq_false this];rfl
 ·rename_i hl;have :a≠b:=fun h=>hl (by rw[h]);rw[decide_eq_false this]
theorem Fm (a b:List dY) (ha:a.length<=maxLen): ∃n:Nat,jR a b=some ((n:Int),())/\n<=a.length/\n<=b.length/\a.take n=b.take n/\(n<a.length->n<b.length->a[n]? ≠b[n]?):=by
 rcases uT (B:=ib) a.length (fun k=>((a,b,(k:Int),()),(),())) ((((a.length:Nat):Int),()),(),()) (fun k=>(((k:Int),()),(),())) (fun k=>decide (a[k]? ≠b[k]?))
  (by simp only[ib]; rw[ed,if_neg (by omega)])
  (fun k hk=>by
    have c1: (k:Int)< (a.length:Int):=by omega
    have c2: (0:Int)<=(k:Int):=by omega
    by_cases hk':k<b.length
    ·have c3: (k:Int)< (b.length:Int):=by omega
     simp only[ib,PV,ed,eh,if_pos c1,if_pos c2,if_pos c3,aB,ah hk,ah hk',ae,dV ha hk];by_cases h:a[k] =b[k]<;>simp[h]
    ·have c3: ¬ (k:Int)< (b.length:Int):=by omega
     simp only[ib,ed,if_pos c1,if_neg c3,ah hk,b6 (show b.length<=k by omega)];simp) with ⟨k1,k2⟩| ⟨i,hi,k1,k2,k3⟩
 ·have eq: ∀k,k<a.length->a[k]? =b[k]? :=fun k hk=>by simpa using k2 k hk
  have hl:a.length<=b.length:=by
   rcases be a.length with h|h
   ·omega
   ·have:=eq (a.length-1) (by omega);rw[ah (by omega)] at this;have:=jL this.symm;omega
  refine⟨a.length,?_,aq _,hl,?_,fun h=>absurd h (db _)⟩
  ·unfold jR;rw[show oG ((a,b,0,()),(),())=_ from k1];rfl
  ·refine bA fun k=> ?_;rw[bh,bh];split
   ·exact eq k (by assumption)
   ·rfl
 ·have eq: ∀k,k<i->a[k]? =b[k]? :=fun k hk=>by simpa using k3 k hk
  have hl:i<=b.length:=by
   rcases be i with h|h
   ·omega
   ·have:=eq (i-1) (by omega);rw[ah (by omega)] at this;have:=jL this.symm;omega
  refine⟨i,?_,by omega,hl,?_,fun _ _=>by simpa using k2⟩
  ·unfold jR;rw[show oG ((a,b,0,()),(),())=_ from k1];rfl
  ·refine bA fun k=> ?_;rw[bh,bh];split
   ·exact eq k (by assumption)
   ·rfl
end Go.Proofs.YtadabkgmdllbfaaGreat.En
namespace Go.Proofs.YtadabkgmdllbfaaGreat.En
open Go
theorem Ho (x:fL):xi (oE x) (fiSafeTime x):=by
 obtain⟨b,h1,h2⟩:=tA x;unfold oE fiSafeTime;simp only[h1,h2,ae];cases b with
 |false=>simp only[Bool.not_false,ef];cases ((x.epoch==0)&&((x.holder==0)&&((x.ends==0)&&true)))<;>exact⟨_,rfl,rfl⟩
 |true=>
  simp only[cg,fB];cases he:x.ends==0 with
  |true=>
   cases hz: ((x.epoch==0)&&((x.holder==0)&&(true&&true))) with
   |true=>exact⟨_,rfl,rfl⟩
   |false=>
    exfalso;unfold qh at h2;rw[he,hz] at h2;simp only[fB,p9,ae] at h2
    have hw:kK x.ends 1 1049=false:=by rw[Bool.eq_false_iff];intro hw;have:=eF.1 hw;simp only[beq_iff_eq] at he;omega
    rw[hw] at h2;revert h2;cases kK x.epoch 1 20<;>cases kK x.holder 0 4<;>intro h2<;>cases h2
  |false=>
   have hz: ((x.epoch==0)&&((x.holder==0)&&(false&&true)))=false:=by cases x.epoch==0<;>cases x.holder==0<;>rfl
   rw[hz];exact⟨_,rfl,rfl⟩
theorem zK (x:fL) (n:Int):xi (jD x n) (fiLeaseIsOver x n):=by obtain⟨b,h1,h2⟩:=tA x;obtain⟨t,t1,t2⟩:=Ho x;unfold jD fiLeaseIsOver;simp only[h1,h2,t1,t2,gr,p9,ae];cases b<;>cases kK n 0 999<;>exact⟨_,rfl,rfl⟩
end Go.Proofs.YtadabkgmdllbfaaGreat.En
namespace Go.Proofs.YtadabkgmdllbfaaGreat.En
open Go
theorem yW {l:List eD} (hl:l.length<=maxLen) (hv:fm l=some (true,())):l.length=5:=by
 obtain⟨b,h1,h2⟩:=qj l hl;rw[hv] at h1;simp only[af,an,and_true] at h1;subst h1;unfold ni at h2;cases h: ((l.length:Int)==5) with
 |false=>rw[h] at h2; cases h2
 |true=>simp only[beq_iff_eq] at h; omega
end Go.Proofs.YtadabkgmdllbfaaGreat.En
namespace Go.Proofs.YtadabkgmdllbfaaGreat.En
open Go
theorem Ck (a b:List Int) (ha:rv a) (hb:b.length<=maxLen):fI a b=some (a.filter fun x=> !decide (x∈b),()):=by
 have hl:=ha.len;have hm:a.length<=maxLen:=by unfold maxLen; omega
 have hp:=ha.pair
 have gg:=l9 (B:=ia) a (fun k (out:List Int)=>((a,b,(),(k:Int),()),(),(out,()))) (fun k out=>out=(a.take k).filter fun x=> !decide (x∈b)) (fun k r out=>(((),()),(),(out++r.filter fun x=> !decide (x∈b),())))
  (fun out hb=>by simp only[ia];rw[ed,if_neg (by omega)];simp)
  (fun k out x hx hout=>by
    have hk:=jL hx;have c1: (k:Int)< (a.length:Int):=by omega
    have c2: (0:Int)<=(k:Int):=by omega
    have hxe:a[k] =x:=by rw[ah hk] at hx; exact Option.some.inj hx
    simp only[ia,dS,ed,eh,if_pos c1,if_pos c2,aB,hx,ae,(ga b x hb).1,dV hm hk];by_cases hin:x∈b
    ·simp only[if_pos hin];refine .inl ⟨out,rfl,?_,?_⟩
     ·rw[hout,bM,hx,ca];simp[hin]
     ·simp[hin]
    ·have hlt: ∀y∈out,y<x:=by
      intro y hy;rw[hout,cF] at hy;obtain⟨i,hi,he⟩:=aP hy.1;have hi':i<k:=by simp at hi; omega
      rw[dk] at he;rw[<-he,<-hxe];exact bW.1 hp i k (by omega) hk hi'
     have hol:out.length<=1000:=by rw[hout];have:=cX (fun x=> !decide (x∈b)) (a.take k);simp only[aZ] at this;omega
     simp only[if_neg hin,Fh out x hol hlt,ae];refine .inl ⟨out++ [x],rfl,?_,?_⟩
     ·rw[hout,bM,hx,ca];simp[hin]
     ·simp[hin])
  0 [] (ay _) rfl
 unfold fI;rw[show qK ((a,b,(),0,()),(),([],()))=_ from gg];rfl
end Go.Proofs.YtadabkgmdllbfaaGreat.En
namespace Go.Proofs.YtadabkgmdllbfaaGreat.En
open Go
theorem uV {l:List Int} (h:SS l) (hr: ∀y∈l,0<=y/\y<5):rv l:=by intro k hk;have:=hr _ (bw hk);exact⟨by omega,fun h0=>bW.1 h _ _ (by omega) hk (by omega)⟩
theorem vu {l:List Int} (h:rv l):fY l=some (true,())/\iC l=some (true,()):=by
 have hl:=h.len;have hm:l.length<=maxLen:=by unfold maxLen; omega
 obtain⟨_,_,h1,h2⟩:=Pi (B1:=gG) (B2:=gO) l.length (fun k (_:Unit)=>((l,(k:Int),()),(),())) (fun k _=>((l,l,(l.length:Int),(k:Int),()),(),())) (fun _ _=>True) (fun _=> .inr (((),()),(),())) (fun _=> .inr (((),()),(),()))
  (fun _ _=>by simp only[gG,gO,ed];exact⟨if_neg (by omega),if_neg (by omega)⟩)
  (fun k _ hk _=>by
    have c1: (k:Int)< (l.length:Int):=by omega
    have c2: (0:Int)<=(k:Int):=by omega
    obtain⟨r1,r2⟩:=h k hk;have w:kK l[k] 0 4=true:=eF.2 r1;refine⟨(),?_⟩;simp only[gG,gO,ed,eh,if_pos c1,if_pos c2,aB,ah hk,ae,gr,p9,w,cg,fB,dV hm hk];by_cases h0:0<k
    ·have c3: (k:Int)>0:=by omega
     have c4: (0:Int)<=((k-1:Nat):Int):=by omega
     have e2:l[k-1]? =some l[k-1] :=ah (by omega);have:=r2 h0;simp only[if_pos c3,ou h0 (by omega),if_pos c4,aB,e2,ae,if_neg (show ¬l[k-1] ≥l[k] by omega),if_neg (show ¬l[k] <=l[k-1] by omega),and_self]
    ·simp only[if_neg (show ¬ (k:Int)>0 by omega),and_self])
  () trivial
 unfold fY iC;rw[show nE ((l,0,()),(),())=_ from h1,show n9 ((l,l,(l.length:Int),0,()),(),())=_ from h2];exact⟨rfl,rfl⟩
end Go.Proofs.YtadabkgmdllbfaaGreat.En
namespace Go.Proofs.YtadabkgmdllbfaaGreat.En
open Go
end Go.Proofs.YtadabkgmdllbfaaGreat.En
namespace Go.Proofs.YtadabkgmdllbfaaGreat.En
open Go
theorem R0 {m:dW} (h:rd 1048576 m) (hv:fr m=some (true,())):m.configs.length<=20:=by
 obtain⟨f,_,_⟩:=Fi (kU h) hv;rcases be m.configs.length with h0|h0
 ·omega
 ·have hk:m.configs.length-1<m.configs.length:=by omega
  obtain⟨f1,f2⟩:=f _ hk;have:=(xQ (eO (h.2 _ (bw hk))) f1).2.2.2.2.1;omega
def pp (l:List dY):Nat:=l.length-3
theorem Ni (l:List dY) (hl:l.length<=1048576): (if IntKind.wrap .i64 ((l.length:Int)-3)>0 then IntKind.wrap .i64 ((l.length:Int)-3) else 0)=((pp l:Nat):Int):=by rw[eX (by omega) (by omega)];unfold pp;split<;>omega
end Go.Proofs.YtadabkgmdllbfaaGreat.En
namespace Go.Proofs.YtadabkgmdllbfaaGreat.En
open Go
end Go.Proofs.YtadabkgmdllbfaaGreat.En
namespace Go.Proofs.YtadabkgmdllbfaaGreat.En
open Go
end Go.Proofs.YtadabkgmdllbfaaGreat.En
namespace Go.Proofs.YtadabkgmdllbfaaGreat.En
open Go
end Go.Proofs.YtadabkgmdllbfaaGreat.En
namespace Go.Proofs.YtadabkgmdllbfaaGreat.En
open Go
end Go.Proofs.YtadabkgmdllbfaaGreat.En
namespace Go.Proofs.YtadabkgmdllbfaaGreat.En
open Go
abbrev fx (x:dN):Int×List dQ×List Int×List dR×Int×Int×Int×Int×Int×List eD×Unit:=(x.now,x.servers,x.sides,x.master.configs,x.master.activated,x.masterUp,x.lease.epoch,x.lease.holder,x.lease.ends,x.places,())
abbrev SZ (s:dQ):Bool×Bool×Int×Int×Int×Int×List Int×List Int×Int×List dY×Int×List dY×Unit:=(s.up,s.intact,s.version,s.epoch,s.config.epoch,s.config.primary,s.config.replicas,s.config.witnesses,s.first,s.log,s.commit,s.learned,())
structure R1 (x x':dN):Prop where
 sides:x'.sides=x.sides
 master:x'.master=x.master
 srv: ∀ (k:Nat) (s:dQ),x.servers[k]? =some s-> ∃e,x'.servers[k]? =some (⟨s.up,s.intact,s.version,e,s.config,s.first,s.log,s.commit,s.learned⟩:dQ)
theorem R1.refl (x:dN):R1 x x:=⟨rfl,rfl,fun _ s h=>⟨s.epoch,h⟩⟩
theorem R1.side {x x':dN} (h:R1 x x') (a:Int):IW x' a=IW x a:=by unfold IW; rw[h.sides]
section
variable {x x':dN} (ok:fj 1048576 x) (ok':fj 1048576 x') (hv:dT x=some (true,())) (hv':dT x'=some (true,())) (se:R1 x x') {id:Int} (hid:0<=id/\id<5)
include ok ok' hv hv' se hid
omit ok hv se in
theorem QP:gn x' id=some (true,()):=by obtain⟨v,w1,w2⟩:=gt x' ok';rw[hv'] at w1;simp only[af,an,and_true] at w1;subst w1;unfold gn;simp only[w2,ae,p9,eF.2 (show 0<=id/\id<=4 by omega),ef]
end
end Go.Proofs.YtadabkgmdllbfaaGreat.En
namespace Go.Proofs.YtadabkgmdllbfaaGreat.En
open Go
structure SV (m:dW) (s:dQ) (k:Int):Prop where
 val:eS s k=some (true,())
 ep:s.epoch<=(m.configs.length:Int)
 lrn: ∃e,nc s.learned=some (e,())/\e<=m.activated
 cfg:s.config=⟨0,0,[],[]⟩\/(iY m s.config.epoch=some (s.config,true,())/\s.config.epoch<=m.activated)
theorem QQ (x:dN) (ok:fj 1048576 x) (k:Nat) (hk:k<x.servers.length):
  (SV x.master x.servers[k] (k:Int)/\ei (((),(k:Int),()),((x.now,x.servers,x.sides,x.master.configs,x.master.activated,x.masterUp,x.lease.epoch,x.lease.holder,x.lease.ends,x.places,()),()),())=some (.inl (((),((k+1:Nat):Int),()),((x.now,x.servers,x.sides,x.master.configs,x.master.activated,x.masterUp,x.lease.epoch,x.lease.holder,x.lease.ends,x.places,()),()),())))\/
  (¬SV x.master x.servers[k] (k:Int)/\ei (((),(k:Int),()),((x.now,x.servers,x.sides,x.master.configs,x.master.activated,x.masterUp,x.lease.epoch,x.lease.holder,x.lease.ends,x.places,()),()),())=some (.inr (.inl ((false,()),(),())))):=by
 obtain⟨⟨hs1,hs2⟩,hsd,hml,hpl⟩:=ok;have hm:=eC hs1;have c1: (k:Int)< (x.servers.length:Int):=by omega
 have c2: (0:Int)<=(k:Int):=by omega
 have hsk:=hs2 _ (bw hk);obtain⟨b,v1,v2⟩:=rx x.servers[k] (k:Int) hsk;obtain⟨n,n1,n2⟩:=sM x.servers[k].learned (eC hsk.2.2);obtain⟨c,d,d1,d2,d3⟩:=xP x.master x.servers[k].config.epoch hml;have hcfg:=eO hsk.1
 simp only[ei,ed,eh,if_pos c1,if_pos c2,aB,ah hk,ae,v1,n1,dV hm hk,dS,
  show (⟨x.master.configs,x.master.activated⟩:dW)=x.master from rfl,d1,vq _ hcfg,(gR c x.servers[k].config d3).1]
 cases b with
 |false=>exact .inr ⟨(fun h=>(by have h:=v1.symm.trans h.val; cases h)),rfl⟩
 |true=>
  simp only[ef];by_cases h1:x.servers[k].epoch>(x.master.configs.length:Int)
  ·simp only[if_pos h1];exact .inr ⟨fun h=>by have:=h.ep; omega,trivial⟩
  ·simp only[if_neg h1];by_cases h2:n>x.master.activated
   ·simp only[if_pos h2];refine .inr ⟨fun h=> ?_,trivial⟩;obtain⟨e,e1,e2⟩:=h.lrn;rw[n1] at e1;simp only[af,an,and_true] at e1;omega
   ·simp only[if_neg h2];by_cases h3:x.servers[k].config=⟨0,0,[],[]⟩
    ·simp only[if_pos h3];exact .inl ⟨⟨v1,by omega,⟨n,n1,by omega⟩, .inl h3⟩,trivial⟩
    ·simp only[if_neg h3];cases d with
     |false=>
      refine .inr ⟨fun h=> ?_,rfl⟩;rcases h.cfg with h| ⟨h,_⟩
      ·exact h3 h
      ·rw[d1] at h;cases h
     |true=>
      simp only[ef];by_cases h4:c=x.servers[k].config
      ·simp only[if_pos h4];by_cases h5:x.servers[k].config.epoch>x.master.activated
       ·simp only[if_pos h5];refine .inr ⟨fun h=> ?_,trivial⟩;rcases h.cfg with h| ⟨_,h⟩
        ·exact h3 h
        ·omega
       ·simp only[if_neg h5];exact .inl ⟨⟨v1,by omega,⟨n,n1,by omega⟩, .inr ⟨by rw[d1,h4],by omega⟩⟩,trivial⟩
      ·simp only[if_neg h4];refine .inr ⟨fun h=> ?_,trivial⟩;rcases h.cfg with h| ⟨h,_⟩
       ·exact h3 h
       ·rw[d1] at h;simp only[af,an,and_true] at h;exact h4 h
theorem IX (x:dN) (ok:fj 1048576 x):
  ((∀k (hk:k<x.servers.length),SV x.master x.servers[k] (k:Int))/\hZ (((),0,()),((x.now,x.servers,x.sides,x.master.configs,x.master.activated,x.masterUp,x.lease.epoch,x.lease.holder,x.lease.ends,x.places,()),()),())=some (.inr (((),()),(),())))\/
  ((∃k,∃hk:k<x.servers.length,¬SV x.master x.servers[k] (k:Int))/\hZ (((),0,()),((x.now,x.servers,x.sides,x.master.configs,x.master.activated,x.masterUp,x.lease.epoch,x.lease.holder,x.lease.ends,x.places,()),()),())=some (.inl ((false,()),(),()))):=by
 have gg:=nB (B1:=ei) (B2:=ei) x.servers.length (fun k=>(((),(k:Int),()),((x.now,x.servers,x.sides,x.master.configs,x.master.activated,x.masterUp,x.lease.epoch,x.lease.holder,x.lease.ends,x.places,()),()),())) (fun k=>(((),(k:Int),()),((x.now,x.servers,x.sides,x.master.configs,x.master.activated,x.masterUp,x.lease.epoch,x.lease.holder,x.lease.ends,x.places,()),()),())) (.inr (((),()),(),())) (.inr (((),()),(),())) (fun _=> .inl ((false,()),(),())) (fun _=> .inl ((false,()),(),()))
  (fun k=> ∀hk:k<x.servers.length,SV x.master x.servers[k] (k:Int)) (fun k=> ∃hk:k<x.servers.length,¬SV x.master x.servers[k] (k:Int))
  (by simp only[ei]; rw[ed,if_neg (by omega)])
  (by simp only[ei]; rw[ed,if_neg (by omega)])
  (fun k hk=>by
    rcases QQ x ok k hk with ⟨h1,h2⟩| ⟨h1,h2⟩
    ·exact .inl ⟨h2,h2,fun _=>h1⟩
    ·exact .inr ⟨h2,h2,hk,h1⟩)
 rcases gg with ⟨k1,_,k3⟩| ⟨k,hk,k1,_,k3⟩
 ·exact .inl ⟨fun k hk=>k3 k hk hk,k1⟩
 ·exact .inr ⟨⟨k,k3⟩,k1⟩
theorem PW {x:dN} (ok:fj 1048576 x) (hv:dT x=some (true,())): ∀k (hk:k<x.servers.length),SV x.master x.servers[k] (k:Int):=by
 rcases IX x ok with ⟨h,_⟩| ⟨_,h⟩
 ·exact h
 ·exfalso;obtain⟨b1,a1,_⟩:=sL x.sides (eC ok.2.1);obtain⟨b2,m1,_⟩:=masterLog x.master (kU ok.2.2.1);obtain⟨b3,l1,_⟩:=tA x.lease;obtain⟨b4,p1,_⟩:=qj x.places (eC ok.2.2.2);unfold dT at hv;simp only[gr,a1,m1,l1,p1,ae,h,cU] at hv;revert hv;cases kK x.now 0 999<;>cases ((x.servers.length:Int)==5)<;>cases b1<;>cases b2<;>cases kK x.masterUp 0 3<;>cases b3<;>cases b4<;>cases decide (x.lease.epoch>x.master.activated)<;>intro hv<;>cases hv
theorem QR {x:dN} (ok:fj 1048576 x) (hv:dT x=some (true,())) (S:List dQ) (hl:S.length=x.servers.length) (hok: ∀s∈S,gb 1048576 s) (hS: ∀k (hk:k<S.length),SV x.master S[k] (k:Int)):
  fj 1048576 ⟨x.now,S,x.sides,x.master,x.masterUp,x.lease,x.places⟩/\dT ⟨x.now,S,x.sides,x.master,x.masterUp,x.lease,x.places⟩=some (true,()):=by
 have ok2:fj 1048576 ⟨x.now,S,x.sides,x.master,x.masterUp,x.lease,x.places⟩:=⟨⟨by show S.length<=_; rw[hl]; exact ok.1.1,hok⟩,ok.2.1,ok.2.2.1,ok.2.2.2⟩
 refine⟨ok2,?_⟩;rcases IX x ok with ⟨_,h1⟩| ⟨⟨k,hk,h0⟩,_⟩
 ·rcases IX ⟨x.now,S,x.sides,x.master,x.masterUp,x.lease,x.places⟩ ok2 with ⟨_,h2⟩| ⟨⟨k,hk,h0⟩,_⟩
  ·have hv':=hv;unfold dT at hv' ⊢;rw[h1] at hv';rw[h2];simp only[hl];exact hv'
  ·exact absurd (hS k hk) h0
 ·exact absurd (PW ok hv k hk) h0
theorem SV.old {m:dW} {s:dQ} {k:Int} (h:SV m s k) (hm:rd 1048576 m) (hv:fr m=some (true,())):s.config.epoch<=(m.configs.length:Int):=by
 obtain⟨_,f2,f3⟩:=Fi (kU hm) hv;rcases h.cfg with h| ⟨_,h⟩
 ·rw[h];show (0:Int)<=_;omega
 ·omega
end Go.Proofs.YtadabkgmdllbfaaGreat.En
namespace Go.Proofs.YtadabkgmdllbfaaGreat.En
open Go
abbrev PX (x:dN) (S:List dQ):dN:=⟨x.now,S,x.sides,x.master,x.masterUp,x.lease,x.places⟩
end Go.Proofs.YtadabkgmdllbfaaGreat.En
namespace Go.Proofs.YtadabkgmdllbfaaGreat.En
open Go
end Go.Proofs.YtadabkgmdllbfaaGreat.En
namespace Go.Proofs.YtadabkgmdllbfaaGreat.En
open Go
theorem rv.filter {l:List Int} (h:rv l) (p:Int->Bool):rv (l.filter p):=by refine uV (h.pair.filter p) fun y hy=> ?_;obtain⟨k,hk,rfl⟩:=aP (cF.1 hy).1;have:=(h k hk).1;omega
theorem J2:rv [0,1,2,3,4] :=by refine uV (by simp[SS]) fun y hy=> ?_;simp at hy;omega
end Go.Proofs.YtadabkgmdllbfaaGreat.En
namespace Go.Proofs.YtadabkgmdllbfaaGreat.En
open Go
theorem IY (l:fL) (e h n t:Int): ∃r b,nJ l e h n t=some (r,b,())/\fiGrantLease l e h n t=some (r,b,()):=by obtain⟨b,h1,h2⟩:=tA l;obtain⟨q,q1,q2⟩:=zK l n;unfold nJ fiGrantLease;simp only[h1,h2,q1,q2,gr,p9,ae];cases (l.epoch==e)<;>cases b<;>cases kK e 1 20<;>cases kK h 0 4<;>cases kK n 0 999<;>cases kK t 1 50<;>cases (l.holder==h)<;>cases q<;>exact⟨_,_,rfl,rfl⟩
end Go.Proofs.YtadabkgmdllbfaaGreat.En
namespace Go.Proofs.YtadabkgmdllbfaaGreat.En
open Go
def wO:List ej->Int->Nat
 | [],_=>0
 |x::l,c=>if x.client<c then wO l c+1 else 0
theorem Pn (l:List ej) (c:Int):wO l c<=l.length:=by
 induction l with
 |nil=>exact aq _
 |cons x l ih=>
  unfold wO;split
  ·simp only[bz]; omega
  ·exact ay _
theorem Po {l:List ej} {c:Int} (h: ∃x∈l,x.client=c):wO l c<l.length:=by
 induction l with
 |nil=>obtain⟨x,hx,_⟩:=h; cases hx
 |cons y l ih=>
  unfold wO;split
  ·rename_i hy;obtain⟨x,hx,hc⟩:=h;rcases bc.1 hx with rfl|hx
   ·omega
   ·have:=ih ⟨x,hx,hc⟩;simp only[bz]; omega
  ·simp
theorem S4 (b d:Bool) (v:Int) (o:Op) (objs:List Int) (l:List ej) (hl:l.length<=1000):pT (((),(),(),(),b,(),0,()),((o.client,o.seq,o.kind,o.object,o.old,o.value,()),((),(),()),(false,0,()),((),(),()),(d,v,()),()),objs,l,())=
  some (((),(),(),(),b,(),((wO l o.client:Nat):Int),()),((o.client,o.seq,o.kind,o.object,o.old,o.value,()),((),(),()),(false,0,()),((),(),()),(d,v,()),()),objs,l,()):=by
 have ml:l.length<=maxLen:=by unfold maxLen; omega
 have gg:=l9 (B:=lP) l (fun k (_:Unit)=>(((),(),(),(),b,(),(k:Int),()),((o.client,o.seq,o.kind,o.object,o.old,o.value,()),((),(),()),(false,0,()),((),(),()),(d,v,()),()),objs,l,())) (fun _ _=>True)
  (fun k r _=>(((),(),(),(),b,(),((k+wO r o.client:Nat):Int),()),((o.client,o.seq,o.kind,o.object,o.old,o.value,()),((),(),()),(false,0,()),((),(),()),(d,v,()),()),objs,l,()))
  (fun _ _=>by simp only[lP]; rw[ed,if_neg (by omega)]; rfl)
  (fun k _ x hx _=>by
    have hk:=jL hx;have c1: (k:Int)< (l.length:Int):=by omega
    have c2: (0:Int)<=(k:Int)/\(k:Int)< (l.length:Int):=by omega
    simp only[lP,ed,eh,if_pos c1,if_pos c2,aB,hx,ae,dV ml hk];by_cases h:x.client<o.client
    ·rw[if_pos h];refine .inl ⟨(),rfl,trivial,?_⟩;rw[wO,if_pos h,show k+(wO (l.drop (k+1)) o.client+1)=k+1+wO (l.drop (k+1)) o.client by omega]
    ·rw[if_neg h];refine .inr ?_;rw[wO,if_neg h];rfl) 0 () (ay _) trivial
 simp only[aR,bK] at gg;exact gg
theorem J3 {o:Op} (h:fb o=some (true,())):0<=o.object/\o.object<=2:=by
 unfold fb at h;simp only[gr,ae] at h;cases h1:kK o.client 0 2 with
 |false=>rw[h1] at h; cases h
 |true=>
  cases h2:kK o.seq 1 99 with
  |false=>rw[h1,h2] at h; cases h
  |true=>
   cases h3:kK o.object 0 2 with
   |false=>rw[h1,h2,h3] at h; cases h
   |true=>exact eF.1 h3
def QS (o:Op):Bool:=match fb o with |some (b,_)=>b|none=>false
theorem tB (o:Op):fb o=some (QS o,()):=by obtain⟨b,h,_⟩:=JY o;unfold QS;rw[h]
def Pp (l:List dY) (k:Nat):Bool:=match l[k]? with
 |some e=>kK e.epoch 1 20&&(QS e.op&&(decide (k=0)||match l[k-1]? with |some d=> !decide (d.epoch>e.epoch)|none=>false))
 |none=>false
theorem Nj (l:List dY) (hl:l.length<=maxLen):gJ l=some (true,())↔l.length<=16/\ ∀k,k<l.length->Pp l k=true:=by
 have gg:=uT (B:=lO) l.length (fun k=>((l,(k:Int),()),(),())) (.inr ((l,(),()),(),())) (fun _=> .inl ((l,false,()),(),())) (fun k=> !Pp l k)
  (by simp only[lO]; rw[ed,if_neg (by omega)])
  (fun k hk=>by
    have c1: (k:Int)< (l.length:Int):=by omega
    have c2: (0:Int)<=(k:Int):=by omega
    simp only[lO,ed,eh,if_pos c1,if_pos c2,aB,ah hk,ae,tB,gr,dV hl hk,dS,Pp];cases kK l[k].epoch 1 20 with
    |false=>rfl
    |true=>
     cases QS l[k].op with
     |false=>rfl
     |true=>
      by_cases h0:0<k
      ·have c3: (k:Int)>0:=by omega
       have c4: (0:Int)<=((k-1:Nat):Int):=by omega
       have c5: ¬k=0:=by omega
       have e2:l[k-1]? =some l[k-1] :=ah (by omega);simp only[ef,if_pos c3,ou h0 (by omega),if_pos c4,aB,e2,ae,decide_eq_false c5,dq,ch,Bool.not_not];by_cases hlt:l[k-1].epoch>l[k].epoch
       ·rw[if_pos hlt,decide_eq_true hlt];rfl
       ·rw[if_neg hlt,decide_eq_false hlt];rfl
      ·have c3: ¬ (k:Int)>0:=by omega
       have c5:k=0:=by omega
       simp only[ef,if_neg c3,decide_eq_true c5];rfl)
 unfold gJ;rcases gg with ⟨k1,k2⟩| ⟨k,h0,k1,k2,_⟩
 ·rw[show sa ((l,0,()),(),())=_ from k1];simp only[ae,cO,af,an,and_true,decide_eq_true_eq];constructor
  ·intro h;exact⟨by omega,fun k hk=>by simpa using k2 k hk⟩
  ·intro h;omega
 ·rw[show sa ((l,0,()),(),())=_ from k1];simp only[ae,cU,af,an,and_true];constructor
  ·intro h;cases h
  ·rintro⟨_,h⟩
   have:=h k h0;rw[this] at k2;cases k2
structure VM (m:fF):Prop where
 vlen:m.objects.length=3
 vobj: ∀v∈m.objects,kK v 0 9=true
 vses: ∀x∈m.sessions,kK x.client 0 2=true/\kK x.seq 1 99=true/\kK x.result.value 0 9=true
 vasc:m.sessions.Pairwise fun x y=>x.client<y.client
theorem QT {o:Op} (h:QS o=true):kK o.client 0 2=true/\kK o.seq 1 99=true/\kK o.value 0 9=true:=by
 have h0:fb o=some (true,()):=by rw[tB,h]
 unfold fb at h0;simp only[gr,ae] at h0;cases h1:kK o.client 0 2 with
 |false=>rw[h1] at h0; cases h0
 |true=>
  cases h2:kK o.seq 1 99 with
  |false=>rw[h1,h2] at h0; cases h0
  |true=>
   cases h3:kK o.object 0 2 with
   |false=>rw[h1,h2,h3] at h0; cases h0
   |true=>
    cases h4:kK o.value 0 9 with
    |false=>rw[h1,h2,h3,h4] at h0; cases h0
    |true=>exact⟨rfl,rfl,rfl⟩
end Go.Proofs.YtadabkgmdllbfaaGreat.En
namespace Go.Proofs.YtadabkgmdllbfaaGreat.En
open Go
theorem vv (x:dN) (ok:fj 1048576 x) (id:Int): ∃b,ig x id=some (b,())/\fiisPrimaryAt x id=some (b,())/\(b=true->dT x=some (true,())/\0<=id/\id<5/\ ∀s,x.servers[id.toNat]? =some s->gl s id=some (true,())):=by
 obtain⟨v,v1,v2⟩:=gt x ok;cases v with
 |false=>
  refine⟨false,?_,?_,nofun⟩
  ·unfold ig; simp only[v1,ae,fB]
  ·unfold fiisPrimaryAt gn; simp only[v2,ae,fB]
 |true=>
  cases hw:kK id 0 4 with
  |false=>
   refine⟨false,?_,?_,nofun⟩
   ·unfold ig; simp only[v1,gr,hw,ae,ef,fB]
   ·unfold fiisPrimaryAt gn; simp only[v2,p9,hw,ae,ef,fB]
  |true=>
   have hid:=eF.1 hw;obtain⟨s,s1,s2,s3⟩:=zJ ok (i8 ok v1) (a:=id) (by omega);obtain⟨b,b1,b2⟩:=q9 s id s2;refine⟨b,?_,?_,fun hb=>⟨v1,hid.1,by omega,fun s' hs=> ?_⟩⟩
   ·unfold ig; simp only[v1,gr,hw,ae,ef,eh,if_pos hid.1,s1,b1]
   ·unfold fiisPrimaryAt gn; simp only[v2,p9,hw,ae,ef,eh,if_pos hid.1,s1,b2]
   ·rw[s1] at hs;obtain rfl:=Option.some.inj hs;rw[b1,hb]
theorem Nk (l:List dY) (hl:l.length<=1048576) (hv:gJ l=some (true,())):uv l=some (((pp l:Nat):Int),l.drop (pp l),()):=by
 unfold uv vm;have hc:pp l<=l.length:=by unfold pp; omega
 have c1: (0:Int)<=((pp l:Nat):Int)/\((pp l:Nat):Int)<=(l.length:Int)/\(l.length:Int)<=(l.length:Int):=by omega
 have ht: ((l.drop (pp l)).take (l.length-pp l))=l.drop (pp l):=bJ (by simp);simp only[hv,ae,cg,fB,Ni l hl,eh,if_pos c1,aB,ht,(vt (l.drop (pp l)) (by simp; omega)).1]
end Go.Proofs.YtadabkgmdllbfaaGreat.En
namespace Go.Proofs.YtadabkgmdllbfaaGreat.En
open Go
def Tt {α:Type} (Q:α->Prop) (r:Option α):Prop:= ∃a,r=some a/\Q a
section
variable {α β σ ε:Type} {Q:α->Prop} {Q':β->Prop}
theorem Tt.ret {a:α} (h:Q a):Tt Q (some a):=⟨a,rfl,h⟩
theorem Tt.bind {r:Option α} {k:α->Option β} (h:Tt Q r) (hk: ∀a,Q a->Tt Q' (k a)):Tt Q' (r.bind k):=by obtain⟨a,rfl,h⟩:=h;exact hk a h
theorem Tt.mono {Q2:α->Prop} {r:Option α} (h:Tt Q r) (hq: ∀a,Q a->Q2 a):Tt Q2 r:=h.imp fun _ h=>⟨h.1,hq _ h.2⟩
theorem Tt.ip {p:Prop} {d:Decidable p} {x y:Option α} (hp:p) (h:Tt Q x):Tt Q (@iteP _ p d x y):=by rw[hQ hp];exact h
theorem Tt.br {b:Bool} {x y:Option α} (h1:b=true->Tt Q x) (h2:b=false->Tt Q y):Tt Q (br b x y):=by
 cases b with
 |true=>exact h1 rfl
 |false=>exact h2 rfl
theorem Tt.get {γ:Type} {l:List γ} {i:Nat} {k:γ->Option α} (hi:i<l.length) (h: ∀x,l[i]? =some x->x∈l->Tt Q (k x)):Tt Q ((l[i]?).bind k):=by rw[ah hi];exact h _ (ah hi) (bw hi)
theorem Tt.loop {B:σ->Option (σ⊕ε)} {E:ε->Prop} (I:σ->Prop) (μ:σ->Nat) (h: ∀s,I s->Tt (Sum.elim (fun s'=>I s'/\μ s'<μ s) E) (B s)) {s:σ} (hs:I s):Tt E (gV B s):=
 xh I μ E (fun s hs=>by
  obtain⟨r,h1,h2⟩:=h s hs;cases r with
  |inl s'=>exact .inl ⟨s',h1,h2.1,h2.2⟩
  |inr e=>exact .inr ⟨e,h1,h2⟩) hs
theorem Tt.go {p:Prop} [Decidable p] {x y:Option α} (hp:p) (h:Tt Q x):Tt Q (Go.Proofs.YtadabkgmdllbfaaGreat.En.br (decide p) x y):=by rw[ed,if_pos hp];exact h
theorem Tt.end {p:Prop} [Decidable p] {x y:Option α} (hp: ¬p) (h:Tt Q y):Tt Q (Go.Proofs.YtadabkgmdllbfaaGreat.En.br (decide p) x y):=by rw[ed,if_neg hp];exact h
theorem Tt.count {B:σ->Option (σ⊕ε)} {E:ε->Prop} (n:Nat) (m:Nat->β->σ) (J:Nat->β->Prop) (h0: ∀b,J n b->Tt (Sum.elim (fun _=>False) E) (B (m n b)))
  (h1: ∀k b,k<n->J k b->Tt (Sum.elim (fun s=> ∃b',s=m (k+1) b'/\J (k+1) b') E) (B (m k b))) (b:β) (hb:J 0 b):Tt E (gV B (m 0 b)):=by
 have go: ∀ (d k:Nat) (b:β),k+d=n->J k b->Tt E (gV B (m k b)):=by
  intro d
  induction d with
  |zero=>
   intro k b hk hb;obtain rfl:k=n:=hk;obtain⟨r,e1,e2⟩:=h0 b hb;cases r with
   |inl s=>exact e2.elim
   |inr e=>exact⟨e,by rw[qy,e1]; rfl,e2⟩
  |succ d ih=>
   intro k b hk hb;obtain⟨r,e1,e2⟩:=h1 k b (by omega) hb;cases r with
   |inl s=>obtain⟨b',rfl,hb'⟩:=e2;rw[qy,e1];exact ih (k+1) b' (by omega) hb'
   |inr e=>exact⟨e,by rw[qy,e1]; rfl,e2⟩
 exact go n 0 b (aR n) hb
end
abbrev T1 {α:Type} (_:α):Prop:=True
theorem o2 {l:List Int} (ha:rv l): ∀y∈l,0<=y/\y<5:=by intro y hy;obtain⟨k,hk,rfl⟩:=aP hy;have:=(ha k hk).1;omega
theorem sN (c:dR) (h:iJ maxLen c):Tt (fun y=>y.1.length<=10/\ ∀z∈y.1,0<=z/\z<5) (gA c):=by obtain⟨v,v1,_⟩:=pn c h;unfold gA;rw[v1,ae,dS];refine .br (fun e=> ?_) fun _=> .ret ⟨ay _,nofun⟩;subst e;obtain⟨a1,a2,_⟩:=xQ h v1;have l1:=a1.len;have l2:=a2.len;obtain⟨r,r1,_,r4,r5⟩:=Ng c.replicas c.witnesses (by omega) (by omega);rw[r1];exact .ret ⟨by show r.length<=10; omega,fun z hz=>((r4 z).1 hz).elim (o2 a1 z) (o2 a2 z)⟩
theorem Hp {x:dN} (ok:fj 1048576 x) (vc:VC x) (a b:Int):Tt T1 (iu x.sides a b):=by have h5:=po (eC ok.2.1) vc.sides;unfold iu;simp only[vc.sides,gr,ae,ef];refine .br (fun ha=> .br (fun hb=> ?_) fun _=> .ret trivial) fun _=> .ret trivial;have ha:=eF.1 ha;have hb:=eF.1 hb;exact .ip ha.1 (.get (by omega) fun _ _ _=> .ip hb.1 (.get (by omega) fun _ _ _=> .ret trivial))
theorem Tt.srv {α:Type} {Q:α->Prop} {x:dN} (ok:fj 1048576 x) (vc:VC x) {a:Int} (ha:0<=a/\a<5) {k:dQ->Option α} (h: ∀s,x.servers[a.toNat]? =some s->gb 1048576 s->eS s a=some (true,())->Tt Q (k s)):Tt Q (iteP (0<=a) ((x.servers[a.toNat]?).bind k) none):=by obtain⟨s,s1,s2,s3⟩:=zJ ok vc ha;refine .ip ha.1 ?_;rw[s1];exact h s s1 s2 s3
theorem Nl {x:dN} (ok:fj 1048576 x) (vc:VC x) {a b:Int} (ha:0<=a/\a<5) (hb:0<=b/\b<5):Tt T1 (oC x a b):=by unfold oC;refine .srv ok vc hb fun m m1 m2 _=> .bind (Hp ok vc a b) fun _ _=> .br (fun _=> .br (fun _=> .srv ok vc ha fun p p1 p2 _=> .br (fun _=> .srv ok vc ha fun _ _ _ _=> .br (fun _=> .srv ok vc ha fun q _ _ _=> ?_) fun _=> .ret trivial) fun _=> .ret trivial) fun _=> .ret trivial) fun _=> .ret trivial;rw[(gR m.config q.config (eO m2.1)).1];exact .ret trivial
theorem uW {l:List dY} (h:l.length<=maxLen): ∃b,gJ l=some (b,())/\(b=true->l.length<=16):=by
 rcases Hk l h with ⟨h1,_,h2⟩| ⟨h1,_⟩
 ·exact⟨true,h1,fun _=>h2⟩
 ·exact⟨false,h1,nofun⟩
theorem xS {l:List dY} (h:l.length<=1048576):ij l=some (l,()):=(vt l h).1
theorem PY (l:List dY) (c q:Int) (hl:l.length<=maxLen):Tt (fun y=>y.1= -1\/0<=y.1/\y.1< (l.length:Int)) (sj l c q):=by
 unfold sj;refine .bind (.count (B:=oz) (E:=Sum.elim (fun y=>0<=y.1.1/\y.1.1< (l.length:Int)) fun _=>True) l.length (fun k (_:Unit)=>((l,c,q,(k:Int),()),(),())) (fun _ _=>True) (fun _ _=> ?_) (fun k _ hk _=> ?_) () trivial) fun y hy=> ?_
 ·unfold oz;simp only[ed];rw[if_neg (by omega)];exact .ret trivial
 ·unfold oz;simp only[ed];rw[if_pos (by omega)];refine .ip (by omega) (.get (by omega) fun _ _ _=> .br (fun _=> .ip (by omega) (.get (by omega) fun _ _ _=> .br (fun _=> .ret ?_) fun _=> .ret ⟨(),by rw[dV hl hk],trivial⟩)) fun _=> .ret ⟨(),by rw[dV hl hk],trivial⟩);exact⟨by show (0:Int)<=k; omega,by show (k:Int)<_; omega⟩
 ·cases y with
  |inl y=>exact .ret (.inr hy)
  |inr y=>exact .ret (.inl rfl)
end Go.Proofs.YtadabkgmdllbfaaGreat.En
namespace Go.Proofs.YtadabkgmdllbfaaGreat.En
open Go
theorem uX {l:List dQ} (h:l.length<=1048576/\ ∀s∈l,gb 1048576 s) {s:dQ} (hs:gb 1048576 s) (i:Nat): (l.set i s).length<=1048576/\ ∀s'∈l.set i s,gb 1048576 s':=
 ⟨by rw[bg]; exact h.1,fun s' hm=>(cd hm).elim (h.2 s') fun e=>e ▸ hs⟩
theorem QU (x:dN) (ok:fj 1048576 x) (id:Int): ∃y n,iH x id=some (y,n,())/\fj 1048576 y/\y.servers.length=x.servers.length:=by
 obtain⟨b,b1,_,b2⟩:=yV x id ok;unfold iH;simp only[(gp x ok).1,b1,ae,dS];cases b with
 |false=>exact⟨x,1,rfl,ok,rfl⟩
 |true=>
  obtain⟨hv,h0,h5⟩:=b2 rfl;obtain⟨s,s1,_⟩:=zJ ok (i8 ok hv) ⟨h0,h5⟩;have hlt:=jL s1;have hs:=ok.1.2 s (au s1);simp only[ef,eh,if_pos h0,s1,ae];rw[if_pos ⟨h0,by omega⟩];cases s.up with
  |false=>exact⟨x,2,rfl,ok,rfl⟩
  |true=>exact⟨_,0,rfl,⟨uX ok.1 (show gb 1048576 ⟨false,s.intact,s.version,s.epoch,s.config,s.first,s.log,s.commit,s.learned⟩ from hs) _,ok.2⟩,bg⟩
theorem Nm (x:dN) (ok:fj 1048576 x) (id:Int): ∃y n,kD x id=some (y,n,())/\fj 1048576 y/\y.servers.length=x.servers.length:=by
 obtain⟨b,b1,_,b2⟩:=yV x id ok;unfold kD;simp only[(gp x ok).1,b1,ae,dS];cases b with
 |false=>exact⟨x,1,rfl,ok,rfl⟩
 |true=>
  obtain⟨hv,h0,h5⟩:=b2 rfl;obtain⟨s,s1,_⟩:=zJ ok (i8 ok hv) ⟨h0,h5⟩;have hlt:=jL s1;have hs:=ok.1.2 s (au s1);simp only[ef,eh,if_pos h0,s1,ae];rw[if_pos ⟨h0,by omega⟩];cases s.up with
  |true=>exact⟨x,1,rfl,ok,rfl⟩
  |false=>exact⟨_,0,rfl,⟨uX ok.1 (show gb 1048576 ⟨true,s.intact,s.version,s.epoch,s.config,s.first,s.log,s.commit,s.learned⟩ from hs) _,ok.2⟩,bg⟩
theorem R2 (x:dN) (ok:fj 1048576 x) (id:Int): ∃y n,lz x id=some (y,n,())/\fj 1048576 y/\y.servers.length=x.servers.length:=by
 obtain⟨b,b1,_,b2⟩:=yV x id ok;unfold lz;simp only[(gp x ok).1,b1,ae,dS];cases b with
 |false=>exact⟨x,1,rfl,ok,rfl⟩
 |true=>obtain⟨hv,h0,h5⟩:=b2 rfl;obtain⟨s,s1,_⟩:=zJ ok (i8 ok hv) ⟨h0,h5⟩;have hlt:=jL s1;simp only[ef,eh,if_pos h0,s1,ae,nT];rw[if_pos ⟨h0,by omega⟩];exact⟨_,0,rfl,⟨uX ok.1 ⟨⟨ay _,ay _⟩,ay _,ay _⟩ _,ok.2⟩,bg⟩
theorem Nn (x:dN) (ok:fj 1048576 x) (n:Int): ∃y k,jr x n=some (y,k,())/\fj 1048576 y/\y.servers.length=x.servers.length:=by
 obtain⟨v,v1,_⟩:=gt x ok;unfold jr;simp only[(gp x ok).1,v1,gr,ae,dS];cases v with
 |false=>exact⟨x,1,rfl,ok,rfl⟩
 |true=>
  simp only[ef];cases kK n 0 3 with
  |false=>exact⟨x,1,rfl,ok,rfl⟩
  |true=>exact⟨_,0,rfl,ok,rfl⟩
theorem R3 (x:dN) (ok:fj 1048576 x) (a b:Int): ∃y k,jq x a b=some (y,k,())/\fj 1048576 y/\y.servers.length=x.servers.length:=by
 obtain⟨v,v1,_⟩:=gt x ok;obtain⟨u,u1,_⟩:=sL x.sides (eC ok.2.1)
 have hm: ∃l t,mR x.sides a b=some (l,t,())/\l.length=x.sides.length:=by
  unfold mR;simp only[aY,eh,u1,gr,ae,dS];rw[if_pos (show x.sides.length*8<=2 ^ 40 by have:=ok.2.1; omega)];cases u with
  |false=>exact⟨_,_,rfl,rfl⟩
  |true=>
   simp only[ef];cases hw:kK a 0 4 with
   |false=>exact⟨_,_,rfl,rfl⟩
   |true=>
    simp only[ef];cases kK b 0 3 with
    |false=>exact⟨_,_,rfl,rfl⟩
    |true=>have hw:=eF.1 hw;have hl:=po (eC ok.2.1) u1;simp only[ef];rw[if_pos ⟨hw.1,by omega⟩,ah (by omega)];exact⟨_,_,rfl,bg⟩
 obtain⟨l,t,l1,l2⟩:=hm;unfold jq;simp only[(gp x ok).1,v1,l1,ae,dS];cases v with
 |false=>exact⟨x,1,rfl,ok,rfl⟩
 |true=>
  cases t with
  |false=>exact⟨x,1,rfl,ok,rfl⟩
  |true=>exact⟨_,0,rfl,⟨ok.1,by show l.length<=1048576; rw[l2]; exact ok.2.1,ok.2.2⟩,rfl⟩
theorem Hq (x:dN) (ok:fj 1048576 x) (id:Int): ∃n:Int,ne x id=some (n,())/\(n=0->dT x=some (true,())/\0<=id/\id<5):=by
 obtain⟨v,v1,_⟩:=gt x ok;unfold ne;simp only[v1,gr,ae,dS];cases v with
 |false=>exact⟨1,rfl,fun h=>absurd h (by decide)⟩
 |true=>
  simp only[ef];cases hw:kK id 0 4 with
  |false=>exact⟨1,rfl,fun h=>absurd h (by decide)⟩
  |true=>
   have hw:=eF.1 hw;obtain⟨s,s1,_⟩:=zJ ok (i8 ok v1) ⟨hw.1,by omega⟩;simp only[ef,eh,if_pos hw.1,s1,ae];cases s.up with
   |false=>exact⟨2,rfl,fun h=>absurd h (by decide)⟩
   |true=>exact⟨0,rfl,fun _=>⟨trivial,hw.1,by omega⟩⟩
end Go.Proofs.YtadabkgmdllbfaaGreat.En
namespace Go.Proofs.YtadabkgmdllbfaaGreat.En
open Go
theorem tn {k n:Nat} (h:k<n): (k:Int).toNat<n:=h
theorem Hr (m:fF) (ho:m.objects.length<=1000) (hs:m.sessions.length<=1000):Tt (fun y=>y.1=true->m.objects.length=3) (iM m):=by
 have mo:m.objects.length<=maxLen:=by unfold maxLen; omega
 have ms:m.sessions.length<=maxLen:=by unfold maxLen; omega
 unfold iM;refine .bind (.count (B:=kg) (E:=Sum.elim (fun y=>y.1.2=(false,())) fun y=>y.2.1=((m.objects,m.sessions,()),())) m.objects.length (fun k (_:Unit)=>(((),(k:Int),()),((m.objects,m.sessions,()),()),())) (fun _ _=>True) (fun _ _=> .end (aW _) (.ret rfl)) (fun k _ hk _=> .go (aG.2 hk) (.ip (aw k) (.get (tn hk) fun x _ _=> ?_))) () trivial) fun y hy=> ?_
 ·rw[gr,ae,dS];exact .br (fun _=> .ret ⟨(),by rw[dV mo hk],trivial⟩) fun _=> .ret rfl
 cases y with
 |inl y=>exact .ret (by rw[show y.1.2=_ from hy]; nofun)
 |inr y=>
  show Tt _ ((qE (((),0,()),y.2.1,())).bind _);rw[show y.2.1=_ from hy];refine .bind (.count (B:=kh) (E:=Sum.elim (fun y=>y.1.2=(false,())) fun y=>y.2.1=((m.objects,m.sessions,()),())) m.sessions.length (fun k (_:Unit)=>(((),(k:Int),()),((m.objects,m.sessions,()),()),())) (fun _ _=>True) (fun _ _=> .end (aW _) (.ret rfl)) (fun k _ hk _=> .go (aG.2 hk) (.ip (aw k) (.get (tn hk) fun x _ _=> ?_))) () trivial) fun y hy=> ?_
  ·simp only[gr,ae,dS]
   have hw: (k:Int)>0->IntKind.wrap .i64 ((k:Int)-1)=(k:Int)-1:=fun h=>by unfold maxLen at ms;exact eX (by omega) (by omega)
   refine .br (fun _=> .br (fun _=> .br (fun _=> .br (fun h=> ?_) fun _=> .ret ⟨(),by rw[dV ms hk],trivial⟩) fun _=> .ret rfl) fun _=> .ret rfl) fun _=> .ret rfl;have h:=of_decide_eq_true h;rw[hw h];exact .ip (by omega) (.get (by omega) fun _ _ _=> .br (fun _=> .ret rfl) fun _=> .ret ⟨(),by rw[dV ms hk],trivial⟩)
  cases y with
  |inl y=>exact .ret (by rw[show y.1.2=_ from hy]; nofun)
  |inr y=>show Tt _ (some (((y.2.1.1.1.length:Int)==3),()));rw[show y.2.1=_ from hy];exact .ret fun h=>by have : (m.objects.length:Int)=3:=eq_of_beq h; omega
theorem Np (m:fF) (c:Int) (hs:m.sessions.length<=1000):Tt (fun y=>y.2.1=true-> ∃x∈m.sessions,x.client=c) (pa m c):=by
 have ms:m.sessions.length<=maxLen:=by unfold maxLen; omega
 unfold pa;refine .bind (.count (B:=oP) (E:=Sum.elim (fun y=> ∃x∈m.sessions,x.client=c) fun _=>True) m.sessions.length (fun k (_:Unit)=>((c,(),(),(k:Int),()),((m.objects,m.sessions,()),(0,0,false,0,()),()),())) (fun _ _=>True) (fun _ _=> .end (aW _) (.ret trivial)) (fun k _ hk _=> .go (aG.2 hk) (.ip (aw k) (.get (tn hk) fun x _ hx=> .br (fun e=> .ip (aw k) (.get (tn hk) fun _ _ _=> .ret ⟨x,hx,eq_of_beq e⟩)) fun _=> .ret ⟨(),by rw[dV ms hk],trivial⟩))) () trivial) fun y hy=> ?_;cases y with
 |inl y=>exact .ret fun _=>hy
 |inr y=>exact .ret nofun
theorem IZ (m:fF) (o:Op) (ho:m.objects.length<=1000) (hs:m.sessions.length<=900):Tt (fun y=>y.1.sessions.length<=m.sessions.length+1/\y.1.objects.length=m.objects.length) (oA m o):=by
 obtain⟨⟨b,_⟩,v1,v2⟩:=Hr m ho (by omega);unfold oA
 have cp:ut m=some (m,()):=by unfold ut;simp only[aY];rw[hQ (by omega),hQ (by omega)]
 rw[cp,ae,v1,ae,dS,tB];refine .br (fun e=> ?_) fun _=> .ret ⟨cc _,rfl⟩;have h3:=v2 e;rw[ae,dS];refine .br (fun eo=> .bind (Np m o.client (by omega)) fun y hy=> ?_) fun _=> .ret ⟨cc _,rfl⟩;have hob:=J3 (show fb o=some (true,()) by rw[tB]; rw[show QS o=true from eo]);have hle:=Pn m.sessions o.client;have hlt:y.2.1=true->wO m.sessions o.client<m.sessions.length:=fun h=>Po (hy h);have hw:IntKind.wrap .i64 (((wO m.sessions o.client:Nat):Int)+1)=((wO m.sessions o.client:Nat):Int)+1:=eX (by omega) (by omega);generalize hp:wO m.sessions o.client=p at hle hlt hw
 have ln: ∀ (k:Nat) (z:ej),k<=m.sessions.length+1->p<=k->(m.sessions.take p++ [z] ++(m.sessions.drop k).take (m.sessions.length-k)).length=p+1+(m.sessions.length-k):=fun k z h1 h2=>by simp only[aA,aZ,bk,az];omega
 have g0:0<=(p:Int):=aw p;have g1: (p:Int)<=(m.sessions.length:Int):=Int.ofNat_le.2 hle;have g3:0<=(p:Int)+1:=by omega
 have g2:y.2.1=true->(p:Int)+1<=(m.sessions.length:Int):=fun h=>by have:=hlt h; omega
 have l1: (m.sessions.take p).length<=900:=by rw[aZ]; omega
 extract_lets+lift j44 j45
 have h44:Tt (fun y=>y.1.sessions.length<=m.sessions.length+1/\y.1.objects.length=m.objects.length) j44:=by
  unfold j44;refine .ip hob.1 (.get (by show o.object.toNat<_; omega) fun x _ _=> .br (fun _=> .ip (by show 0<=o.object/\o.object< (m.objects.length:Int); omega) (.get (by show o.object.toNat<m.objects.length; omega) fun _ _ _=> ?_)) fun _=> .br (fun _=> .ip (by show 0<=o.object/\o.object< (m.objects.length:Int); omega) (.get (by show o.object.toNat<m.objects.length; omega) fun _ _ _=> ?_)) fun _=> ?_)
  all_goals
   show Tt _ ((pT (((),(),(),(),y.2.1,(),0,()),((o.client,o.seq,o.kind,o.object,o.old,o.value,()),((),(),()),(false,0,()),((),(),()),(_,_,()),()),_,m.sessions,())).bind _);rw[S4 _ _ _ _ _ _ (by omega),hp,ae];simp only[hw,aY,aR,bK,aB,show (0:Int).toNat=0 from rfl,cT,show ((p:Int)+1).toNat=p+1 from rfl];refine .ip ⟨g0,g1,bP _⟩ (.br (fun e=> ?_) fun _=> ?_)
   ·have:=hlt e;refine .ip ⟨g3,g2 e,bP _⟩ (.ip ⟨bP _,g0,g1⟩ (.ip hle (.ip (by omega) (.ip (by rw[aA,az]; omega) (.ip (by omega) (.ip (by rw[ln _ _ (by omega) (by omega)]; omega) (.ret ⟨?_,by first |rfl|exact bg⟩)))))));show List.length _<=_;rw[ln _ _ (by omega) (by omega)];omega
   ·refine .ip ⟨bP _,g0,g1⟩ (.ip hle (.ip (by omega) (.ip (by rw[aA,az]; omega) (.ip (by omega) (.ip (by rw[ln _ _ (by omega) (by omega)]; omega) (.ret ⟨?_,by first |rfl|exact bg⟩))))));show List.length _<=_;rw[ln _ _ (by omega) (by omega)];omega
 have h45:Tt (fun y=>y.1.sessions.length<=m.sessions.length+1/\y.1.objects.length=m.objects.length) j45:= .br (fun _=> .br (fun _=> .ret ⟨cc _,rfl⟩) fun _=>h44) fun _=>h44;exact .br (fun _=> .br (fun _=> .ret ⟨cc _,rfl⟩) fun _=>h45) fun _=>h45
theorem Fn (l:List dY) (hl:l.length<=maxLen):Tt (fun y=>y.1.objects.length<=3/\y.1.sessions.length<=16) (lu l):=by obtain⟨b,b1,b2⟩:=uW hl;unfold lu pS;rw[ae,b1,ae,dS];refine .br (fun e=> ?_) fun _=> .ret ⟨ay _,ay _⟩;have h16:=b2 e;refine .bind (.count (B:=oQ) (E:=fun y=>y.2.2.1.length<=3/\y.2.2.2.1.length<=16) l.length (fun k (b:List Int×List ej)=>((l,(),(),(k:Int),()),(((),(),()),((),(),()),()),b.1,b.2,())) (fun k b=>b.1.length<=3/\b.2.length<=k) (fun b hb=> .end (aW _) (.ret ⟨hb.1,aO hb.2 h16⟩)) (fun k b hk hb=> .go (aG.2 hk) (.ip (aw k) (.get (tn hk) fun x _ _=> .bind (IZ ⟨b.1,b.2⟩ x.op (aO hb.1 (by omega)) (aO hb.2 (by omega))) fun y hy=> .ret ⟨(y.1.objects,y.1.sessions),by rw[dV hl hk],by rw[hy.2]; exact hb.1,aO hy.1 (Nat.succ_le_succ hb.2)⟩))) ([0,0,0],[]) ⟨aq _,aq _⟩) fun y hy=> .ret hy
theorem J4 (l:List dY) (i:Int) (hl:l.length<=maxLen):Tt T1 (oD l i):=by obtain⟨b,b1,b2⟩:=uW hl;unfold oD;rw[b1,ae,dS];refine .br (fun e=> ?_) fun _=> .ret trivial;have h16:=b2 e;rw[eX (n:=(l.length:Int)-1) (by omega) (by omega),gr,ae,dS];refine .br (fun h=> ?_) fun _=> .ret trivial;have h:=eF.1 h;refine .ip (by omega) (.bind (Fn _ ?_) fun y hy=> .ip h.1 (.get (by omega) fun x _ _=> .bind (IZ _ _ (by omega) (by omega)) fun z _=> .ret trivial));refine aO ?_ hl;rw[aZ,bk];omega
theorem wP (s:dQ) (h:gb 1048576 s) (hf:0<=s.first/\s.first<=16/\s.log.length<=16):Tt (fun y=>y.1.length<=16) (fC s):=by
 unfold fC;rw[eX (n:=s.first+(s.log.length:Int)) (by omega) (by omega)];simp only[gr,ae,dS];refine .br (fun h1=> ?_) fun _=> .ret (ay _);have h1:=eF.1 h1;refine .br (fun _=> .ret (ay _)) fun _=> ?_;rw[eX (n:=s.commit-s.first) (by omega) (by omega)]
 have hlen: ((s.log.drop (0:Int).toNat).take ((s.commit-s.first).toNat-(0:Int).toNat)).length<=16:=by rw[aZ,bk];omega
 refine .ip (by omega) ?_;rw[xS (by omega)];exact .ret hlen
theorem R4 (m:fF) (i:Int) (ho:m.objects.length<=1000) (hs:m.sessions.length<=1000):Tt T1 (nI m i):=by obtain⟨⟨b,_⟩,b1,b2⟩:=Hr m ho hs;unfold nI;rw[b1,ae,dS];refine .br (fun e=> ?_) fun _=> .ret trivial;have h3:=b2 e;rw[gr,ae,dS];refine .br (fun h=> ?_) fun _=> .ret trivial;have h:=eF.1 h;exact .ip h.1 (.get (by omega) fun _ _ _=> .ret trivial)
theorem Fo {s:dQ} {id:Int} (h:gb 1048576 s) (hv:eS s id=some (true,())):0<=s.first/\s.first<=16/\s.log.length<=16:=by obtain⟨h1,h2,h3,_⟩:=Hl h hv;exact⟨h1,h2,h3⟩
theorem QV (s:dQ) (i:Int) (h:gb 1048576 s) (hf:0<=s.first/\s.first<=16/\s.log.length<=16):Tt T1 (qH s i):=by unfold qH;exact .bind (wP s h hf) fun y hy=> .bind (Fn _ (by unfold maxLen; omega)) fun z hz=> .bind (R4 _ _ (by omega) (by omega)) fun _ _=> .ret trivial
theorem QW (l:fL) (a b c:Int):Tt T1 (nH l a b c):=by obtain⟨v,v1,_⟩:=tA l;unfold nH;rw[v1,ae,gr,ae];exact .br (fun _=> .br (fun _=> .br (fun _=> .br (fun _=> .br (fun _=> .ret trivial) fun _=> .ret trivial) fun _=> .ret trivial) fun _=> .ret trivial) fun _=> .ret trivial) fun _=> .ret trivial
theorem Nq (x:dN) (ok:fj 1048576 x) (id:Int):Tt T1 (jP x id):=by obtain⟨b,b1,_,b2⟩:=vv x ok id;unfold jP;rw[b1,ae];refine .br (fun e=> ?_) fun _=> .ret trivial;obtain⟨hv,h0,h5,_⟩:=b2 e;exact .srv ok (i8 ok hv) ⟨h0,h5⟩ fun s _ _ _=> .bind (QW _ _ _ _) fun _ _=> .ret trivial
theorem I0 (x:dN) (ok:fj 1048576 x) (id i:Int):Tt T1 (pb x id i):=by obtain⟨n,n1,n2⟩:=Hq x ok id;unfold pb;rw[n1,ae,dS];refine .br (fun e=> ?_) fun _=> .ret trivial;obtain⟨hv,h0,h5⟩:=n2 (eq_of_beq e);have vc:=i8 ok hv;rw[gr,ae,dS];refine .br (fun _=> .srv ok vc ⟨h0,h5⟩ fun s _ s2 _=> ?_) fun _=> .ret trivial;obtain⟨b,b1,_⟩:=q9 s id s2;rw[b1,ae,dS];refine .br (fun _=> .bind (Nq x ok id) fun y _=> ?_) fun _=> .ret trivial;rw[dS];exact .br (fun _=> .srv ok vc ⟨h0,h5⟩ fun s _ s2 s3=> .bind (QV s i s2 (Fo s2 s3)) fun _ _=> .ret trivial) fun _=> .ret trivial
end Go.Proofs.YtadabkgmdllbfaaGreat.En
namespace Go.Proofs.YtadabkgmdllbfaaGreat.En
open Go
def Kp (x y:dN):Prop:=fj 1048576 y/\y.servers.length=x.servers.length
theorem Kp.self {x:dN} (ok:fj 1048576 x):Kp x x:=⟨ok,rfl⟩
theorem Kp.trans {x y z:dN} (h:Kp x y) (k:Kp y z):Kp x z:=⟨k.1,k.2.trans h.2⟩
theorem Kp.srvs {x y:dN} (h:Kp x y) {S:List dQ} (hl:S.length=y.servers.length) (hs: ∀s∈S,gb 1048576 s):Kp x ⟨y.now,S,y.sides,y.master,y.masterUp,y.lease,y.places⟩:=
 ⟨⟨⟨by rw[hl]; exact h.1.1.1,hs⟩,h.1.2⟩,hl.trans h.2⟩
theorem Kp.set {x y:dN} (h:Kp x y) {s:dQ} (hs:gb 1048576 s) (i:Nat):Kp x ⟨y.now,y.servers.set i s,y.sides,y.master,y.masterUp,y.lease,y.places⟩:=
 h.srvs bg (uX h.1.1 hs i).2
theorem Tt.at {α:Type} {Q:α->Prop} {l:List dQ} (h5:l.length=5) {a:Int} (ha:0<=a/\a<5) {k:dQ->Option α} (h: ∀s,l[a.toNat]? =some s->s∈l->Tt Q (k s)):Tt Q (iteP (0<=a/\a< (l.length:Int)) ((l[a.toNat]?).bind k) none):=
 .ip (by rw[h5]; exact ha) (.get (by omega) h)
theorem QX (x:dN) (ok:fj 1048576 x) (id:Int):Tt T1 (md x id):=by obtain⟨b,b1,_,b2⟩:=vv x ok id;unfold md;rw[b1,ae,dS];refine .br (fun e=> ?_) fun _=> .ret trivial;obtain⟨hv,h0,h5,_⟩:=b2 e;have vc:=i8 ok hv;refine .srv ok vc ⟨h0,h5⟩ fun s _ s2 _=> .bind (sN _ (eO s2.1)) fun y hy=> .bind (.count (B:=mz) (E:=fun _=>True) y.1.length (fun k (b:Int)=>(((),b,(),(k:Int),()),(fx x,()),y.1,())) (fun _ _=>True) (fun _ _=> .end (aW _) (.ret trivial)) (fun k b hk _=> .go (aG.2 hk) (.ip ⟨aw k,aG.2 hk⟩ (.get (tn hk) fun z _ hz=> .srv ok vc (hy.2 z hz) fun t _ _ _=> .ret ⟨_,by rw[dV (by have:=hy.1; unfold maxLen; omega) hk],trivial⟩))) 2 trivial) fun _ _=> .ret trivial
theorem Pq (x:dN) (ok:fj 1048576 x) (id:Int) (o:Op):Tt (fun y=>Kp x y.1/\(y.2.1=0->y.1.servers.length=5/\0<=id/\id<5)) (jn x id o):=by
 obtain⟨v,v1,_⟩:=gt x ok;unfold jn;rw[(gp x ok).1,ae,v1,ae,dS];have bad: ∀n:Int,n≠0->Tt (fun y:dN×Int×Unit=>Kp x y.1/\(y.2.1=0->y.1.servers.length=5/\0<=id/\id<5)) (some (x,n,())):=fun n hn=> .ret ⟨.self ok,fun h=>absurd h hn⟩;refine .br (fun e=> ?_) fun _=>bad 1 (by decide);subst e;have vc:=i8 ok v1;rw[gr,ae,dS];refine .br (fun h=> ?_) fun _=>bad 1 (by decide);have h:=eF.1 h;have hid:0<=id/\id<5:=by omega
 rw[tB,ae,dS];refine .br (fun _=> .srv ok vc hid fun s s1 s2 s3=> ?_) fun _=>bad 1 (by decide);rw[dS];refine .br (fun _=> ?_) fun _=>bad 2 (by decide);obtain⟨b,b1,_⟩:=q9 s id s2;rw[b1,ae,dS];refine .br (fun _=> .bind (PY s.log _ _ (eC s2.2.1)) fun y hy=> ?_) fun _=>bad 3 (by decide);have good: ∀n:Int,Tt (fun y:dN×Int×Unit=>Kp x y.1/\(y.2.1=0->y.1.servers.length=5/\0<=id/\id<5)) (some (x,n,())):=fun n=> .ret ⟨.self ok,fun _=>⟨vc.len,hid⟩⟩
 extract_lets+lift j17 j18
 have h17:Tt (fun y=>Kp x y.1/\(y.2.1=0->y.1.servers.length=5/\0<=id/\id<5)) j17:=by
  unfold j17;refine .at vc.len hid fun s' e' hs'=> ?_;show Tt _ ((x.servers[id.toNat]?).bind _);rw[e',ae];have hs:=ok.1.2 s' hs';have hs3:=hs.2.1;obtain rfl:s'=s:=by rw[s1] at e'; exact (Option.some.inj e').symm
  have hl:=(Fo s2 s3).2.2;refine .ip rfl ?_;have e1: ∀X Y:Option (dN×Int×Unit),iteP (s'.log.length<s'.log.length) X Y=Y:=fun X Y=>by rw[eh,if_neg (db _)]
  rw[e1]
  have hl2: (s'.log.take s'.log.length++([(⟨s'.epoch,o⟩:dY)]:List dY)).length<=17:=by rw[aA,aZ,az];omega
  refine .ip (by omega) (.ip (by show 0<=id/\id< (x.servers.length:Int); rw[vc.len]; exact hid) (.ip rfl (.ret ⟨(Kp.self ok).set (s:=⟨s'.up,s'.intact,s'.version,s'.epoch,s'.config,s'.first,s'.log.take s'.log.length++ [⟨s'.epoch,o⟩],s'.commit,s'.learned⟩) ⟨hs.1,aO hl2 (by omega),hs.2.2⟩ _,fun _=>⟨by show (x.servers.set _ _).length=5; rw[bg]; exact vc.len,hid⟩⟩)))
 have h18:Tt (fun y=>Kp x y.1/\(y.2.1=0->y.1.servers.length=5/\0<=id/\id<5)) j18:=by unfold j18;refine .bind (Fn s.log (eC s2.2.1)) fun m hm=> .bind (IZ m.1 o (by omega) (by omega)) fun z _=> ?_;rw[dS];refine .br (fun _=> .bind (Q:=T1) (by unfold kP; exact .ret trivial) fun w _=> ?_) fun _=>good 11;exact .br (fun _=> .bind (QX x ok id) fun _ _=> .br (fun _=>good 6) fun _=> .br (fun _=>good 5) fun _=>h17) fun _=> .br (fun _=>good 5) fun _=>h17
 refine .br (fun h=> .ip (of_decide_eq_true h) (.get ?_ fun e _ _=> ?_)) fun _=> .br (fun _=>good 0) fun _=>h18
 ·have h:=of_decide_eq_true h;omega
 ·rw[dS];exact .br (fun _=> .br (fun _=>good 0) fun _=>h18) fun _=>good 11
theorem R5 (x:dN) (ok:fj 1048576 x) (id m:Int):Tt (fun y=>Kp x y.1/\(y.2.1=true->0<=m/\m<5)) (ly x id m):=by
 obtain⟨b,b1,_,b2⟩:=vv x ok id;have bad:Tt (fun y:dN×Bool×Unit=>Kp x y.1/\(y.2.1=true->0<=m/\m<5)) (some (x,false,())):= .ret ⟨.self ok,nofun⟩;unfold ly;rw[(gp x ok).1,ae,b1,ae,dS];refine .br (fun e=> ?_) fun _=>bad;obtain⟨hv,h0,h5,hp⟩:=b2 e;have vc:=i8 ok hv;refine .srv ok vc ⟨h0,h5⟩ fun s s1 s2 s3=> .bind (sN _ (eO s2.1)) fun y hy=> ?_;rw[(ga y.1 m (by have:=hy.1; unfold maxLen; omega)).1,ae,dS];refine .br (fun hm=> ?_) fun _=>bad;have hm:=hy.2 m (of_decide_eq_true hm);refine .bind (Nl ok vc ⟨h0,h5⟩ hm) fun z _=> ?_;rw[dS];refine .br (fun _=> .srv ok vc ⟨h0,h5⟩ fun t t1 t2 t3=> .srv ok vc ⟨h0,h5⟩ fun u _ u2 _=> ?_) fun _=>bad;obtain⟨n,n1,_⟩:=wN u.config m (eO u2.1);rw[n1,ae];have five: ∀ (i:Nat) (s:dQ),(x.servers.set i s).length=5:=fun i s=>by rw[bg]; exact vc.len
 refine .br (fun _=> ?_) fun _=> ?_
 ·rw[Nk t.log t2.2.1 (Hl t2 t3).2.2.2.2.2.1,ae];refine .ip (by show 0<=m/\m< (x.servers.length:Int); rw[vc.len]; exact hm) (.at vc.len hm fun w _ hw=> ?_);have hw:=ok.1.2 w hw;refine .get (by rw[five]; omega) fun w' _ hw'=> .ret ⟨.srvs (.self ok) (by rw[bg,bg]) fun s hs=> ?_,fun _=>hm⟩;have all:=(uX ok.1 (s:=⟨w.up,w.intact,w.version,w.epoch,w.config,((pp t.log:Nat):Int),w.log,w.commit,w.learned⟩) hw m.toNat)
  have hw':=all.2 w' hw';exact (uX all (s:=⟨w'.up,w'.intact,w'.version,w'.epoch,w'.config,w'.first,t.log.drop (pp t.log),w'.commit,w'.learned⟩) ⟨hw'.1,by show List.length _<=_; rw[bk]; have:=t2.2.1; omega,hw'.2.2⟩ m.toNat).2 s hs
 ·rw[xS t2.2.1,ae];exact .at vc.len hm fun w _ hw=> .ret ⟨(Kp.self ok).set (s:=⟨w.up,w.intact,w.version,w.epoch,w.config,w.first,t.log,w.commit,w.learned⟩) ⟨(ok.1.2 w hw).1,t2.2.1,(ok.1.2 w hw).2.2⟩ _,fun _=>hm⟩
theorem I1 {l:List dQ} (h:l.length=5/\ ∀s∈l,gb 1048576 s) {s:dQ} (hs:gb 1048576 s) (i:Nat): (l.set i s).length=5/\ ∀t∈l.set i s,gb 1048576 t:=⟨by rw[bg]; exact h.1,fun t ht=>(cd ht).elim (h.2 t) fun e=>e ▸ hs⟩
abbrev fz:Int×Unit×Unit×Unit×Int×Int×Int×Int×Int×Unit×Unit:=(0,(),(),(),0,0,0,0,0,(),())
abbrev fc (x:dN):Int×Unit×Unit×Unit×Int×Int×Int×Int×Int×Unit×Unit:=(x.now,(),(),(),x.master.activated,x.masterUp,x.lease.epoch,x.lease.holder,x.lease.ends,(),())
theorem J5 (x:dN) (ok:fj 1048576 x) (id:Int):Tt (fun y=>Kp x y.1) (jf x id):=by
 obtain⟨b,b1,_,b2⟩:=vv x ok id;unfold jf;rw[(gp x ok).1,ae,b1,ae,dS];refine .br (fun e=> ?_) fun _=> .ret (.self ok);obtain⟨hv,h0,h5,hp⟩:=b2 e;have vc:=i8 ok hv;refine .srv ok vc ⟨h0,h5⟩ fun s s1 s2 s3=> .bind (sN _ (eO s2.1)) fun y hy=> ?_;have hl:y.1.length<=maxLen:=by have:=hy.1; unfold maxLen; omega
 refine .bind (.count (B:=kZ) (E:=fun e=> ∃ (c:dN) (a:Bool),Kp x c/\e=((id,(),(),(),a,()),(fz,fc c,()),y.1,c.servers,c.sides,c.master.configs,c.places,())) y.1.length (fun k (b:dN×Bool)=>((id,(),(),(),b.2,(k:Int),()),(fz,fc b.1,()),y.1,b.1.servers,b.1.sides,b.1.master.configs,b.1.places,())) (fun _ b=>Kp x b.1) (fun b hb=> .end (aW _) (.ret ⟨b.1,b.2,hb,rfl⟩)) (fun k b hk hb=> .go (aG.2 hk) (.ip ⟨aw k,aG.2 hk⟩ (.get (tn hk) fun z _ hz=> .bind (R5 b.1 hb.1 id z) fun w hw=> .br (fun _=> .ret ⟨(w.1,w.2.1),by rw[dV hl hk],hb.trans hw.1⟩) fun _=> .ret ⟨(w.1,false),by rw[dV hl hk],hb.trans hw.1⟩))) (x,true) (.self ok)) ?_
 rintro _ ⟨c,a,hc,rfl⟩
 refine .bind (.count (B:=ki) (E:=fun e=> ∃ (c:dN) (a:Bool),Kp x c/\e=(((),(),a,()),(fz,fc c,()),c.servers,c.sides,c.master.configs,c.places,())) y.1.length (fun k (b:List dQ)=>((id,(),(),(),a,(k:Int),()),(fz,fc c,()),y.1,b,c.sides,c.master.configs,c.places,())) (fun _ b=>b.length=5/\ ∀s∈b,gb 1048576 s) (fun b hb=> .end (aW _) (.ret ⟨⟨c.now,b,c.sides,c.master,c.masterUp,c.lease,c.places⟩,a,hc.srvs (by rw[hb.1,hc.2,vc.len]) hb.2,rfl⟩)) (fun k b hk hb=> .go (aG.2 hk) (.br (fun _=> .ip ⟨aw k,aG.2 hk⟩ (.get (tn hk) fun z _ hz=> .at hb.1 ⟨h0,h5⟩ fun p _ _=> .at hb.1 (hy.2 z hz) fun q _ hq=> .ret ⟨b.set z.toNat ⟨q.up,q.intact,q.version,q.epoch,q.config,q.first,q.log,((p.log.length:Nat):Int),q.learned⟩,by rw[dV hl hk],I1 hb (s:=⟨q.up,q.intact,q.version,q.epoch,q.config,q.first,q.log,((p.log.length:Nat):Int),q.learned⟩) (hb.2 q hq) _⟩)) fun _=> .ret ⟨⟨c.now,b,c.sides,c.master,c.masterUp,c.lease,c.places⟩,a,hc.srvs (by rw[hb.1,hc.2,vc.len]) hb.2,rfl⟩)) c.servers ⟨hc.2.trans vc.len,hc.1.1.2⟩) ?_
 rintro _ ⟨d,a',hd,rfl⟩
 exact .ret hd
theorem Pr (x:dN) (ok:fj 1048576 x) (id:Int) (o:Op):Tt (fun y=>Kp x y.1) (qG x id o):=by
 unfold qG;refine .bind (Pq x ok id o) fun y hy=> ?_;rw[dS];refine .br (fun e=> ?_) fun _=> .ret hy.1;obtain⟨h5,hid⟩:=hy.2 (eq_of_beq e)
 have same: ∀ {α:Type} {Q:α->Prop} {l:List dQ} {k:dQ->dQ->Option α},l.length=5->(∀s∈l,gb 1048576 s)->(∀s,gb 1048576 s->Tt Q (k s s))->Tt Q (iteP (0<=id/\id< (l.length:Int)) ((l[id.toNat]?).bind fun a=>(l[id.toNat]?).bind fun b=>k a b) none):=fun h5 hs h=> .at h5 hid fun s e1 e2=>by rw[e1,ae];exact h s (hs s e2)
 have Lk: ∀s:dQ,(s.log.drop 0).take s.log.length=s.log:=fun s=>by rw[bK,bU]
 refine same h5 hy.1.1.1.2 fun s hs=> .ip (by omega) ?_;rw[Lk];refine .bind (PY _ _ _ (eC hs.2.1)) fun i _=> .at h5 hid fun t _ _=> .br (fun _=> .bind (J5 y.1 hy.1.1 id) fun z hz=> ?_) fun _=>same h5 hy.1.1.1.2 fun s hs=> .ip (by omega) ?_
 ·rw[dS];refine .br (fun _=>same (hz.2.trans h5) hz.1.1.2 fun s hs=> .ip (by omega) ?_) fun _=> .ret (hy.1.trans hz);rw[Lk];exact .bind (J4 _ _ (eC hs.2.1)) fun _ _=> .ret (hy.1.trans hz)
 ·rw[Lk];exact .bind (J4 _ _ (eC hs.2.1)) fun _ _=> .ret hy.1
end Go.Proofs.YtadabkgmdllbfaaGreat.En
namespace Go.Proofs.YtadabkgmdllbfaaGreat.En
open Go
theorem pC (x:dN) (ok:fj 1048576 x):Tt (fun y=>y.1=true->VC x) (dT x):=by obtain⟨v,v1,_⟩:=gt x ok;exact⟨(v,()),v1,fun e=>i8 ok (by rw[v1,show v=true from e])⟩
theorem J6 (x:dN) (ok:fj 1048576 x) (e:Int): ∃c b,iY x.master e=some (c,b,())/\iJ maxLen c/\(VC x->c.replicas.length<=5/\c.witnesses.length<=5/\(∀z∈c.replicas,0<=z/\z<5)/\(∀z∈c.witnesses,0<=z/\z<5)/\(b=true->ey c=some (true,())/\0<=c.primary/\c.primary<5)/\rv c.replicas):=by
 obtain⟨c,b,h1,_,h2⟩:=xP x.master e ok.2.2.1;refine⟨c,b,h1,h2,fun vc=> ?_⟩;obtain⟨c',b',g1,_,g2,_,g3,g4⟩:=Cj x.master e ok.2.2.1 vc.ml;rw[h1] at g1;obtain⟨rfl,rfl⟩:c=c'/\b=b':=by simpa using g1
 cases b with
 |false=>rw[g4 rfl];exact⟨ay _,ay _,nofun,nofun,nofun,fun k hk=>by simp at hk⟩
 |true=>obtain⟨a1,a2,a3,_⟩:=xQ g2 (g3 rfl).1;exact⟨a1.len,a2.len,o2 a1,o2 a2,fun _=>⟨(g3 rfl).1,o2 a1 _ a3⟩,a1⟩
theorem I2 (x:dN) (ok:fj 1048576 x): ∃c b,fD x.master=some (c,b,())/\iJ maxLen c/\(VC x->c.replicas.length<=5/\c.witnesses.length<=5/\(∀z∈c.replicas,0<=z/\z<5)/\(∀z∈c.witnesses,0<=z/\z<5)/\(b=true->ey c=some (true,())/\0<=c.primary/\c.primary<5)/\rv c.replicas):=by obtain⟨c,b,h1,h2⟩:=J6 x ok x.master.activated;exact⟨c,b,by unfold fD; rw[h1]; rfl,h2⟩
theorem Hs (s:dQ) (e:Int) (h:gb 1048576 s):Tt (fun y=>gb 1048576 y.1) (jo s e):=by unfold jo;rw[(Aq s h).1,ae,gr,ae,dS];exact .br (fun _=> .br (fun _=> .ret h) fun _=> .br (fun _=> .ret h) fun _=> .ret h) fun _=> .ret h
theorem R6 (x:dN) (ok:fj 1048576 x) (id e:Int):Tt (fun y=>Kp x y.1) (mf x id e):=by
 obtain⟨c,b,c1,c2,c3⟩:=I2 x ok;unfold mf;rw[(gp x ok).1,ae,c1,ae];refine .bind (pC x ok) fun v hv=> ?_;rw[dS];refine .br (fun h=> ?_) fun _=> .ret (.self ok);have vc:=hv h;rw[dS];refine .br (fun _=> ?_) fun _=> .ret (.self ok);rw[gr,ae,dS];refine .br (fun _=> .bind (sN c c2) fun m hm=> ?_) fun _=> .ret (.self ok);have hl:m.1.length<=maxLen:=by have:=hm.1; unfold maxLen; omega
 refine .bind (.count (B:=mC) (E:=fun e=> ∃S:List dQ,(S.length=5/\ ∀s∈S,gb 1048576 s)/\e=(((),(),()),(fz,fc x,()),S,x.sides,x.master.configs,x.places,())) m.1.length (fun k (S:List dQ)=>((id,e,(),(),(),(),(k:Int),()),(fx x,fz,fc x,()),m.1,S,x.sides,x.master.configs,x.places,())) (fun _ S=>S.length=5/\ ∀s∈S,gb 1048576 s) (fun S hS=> .end (aW _) (.ret ⟨S,hS,rfl⟩)) (fun k S hk hS=> .go (aG.2 hk) (.ip ⟨aw k,aG.2 hk⟩ (.get (tn hk) fun z hz' hz=> .srv ok vc (hm.2 z hz) fun s _ _ _=> .br (fun _=> .ip ⟨aw k,aG.2 hk⟩ (.get (tn hk) fun z2 _ hz2=> .bind (Hp ok vc id z2) fun _ _=> .br (fun _=> .ip ⟨aw k,aG.2 hk⟩ (.get (tn hk) fun z3 _ hz3=> .ip ⟨aw k,aG.2 hk⟩ (.get (tn hk) fun z4 _ hz4=> .srv ok vc (hm.2 z4 hz4) fun t _ t2 _=> .bind (Hs t e t2) fun u hu=> .at hS.1 (hm.2 z3 hz3) fun _ _ _=> .ret ⟨S.set z3.toNat u.1,by rw[dV hl hk],I1 hS hu _⟩))) fun _=> .ret ⟨S,by rw[dV hl hk],hS⟩)) fun _=> .ret ⟨S,by rw[dV hl hk],hS⟩))) x.servers ⟨vc.len,ok.1.2⟩) ?_
 rintro _ ⟨S,hS,rfl⟩
 exact .ret ((Kp.self ok).srvs (by rw[hS.1,vc.len]) hS.2)
section
variable {x:dN} (ok:fj 1048576 x) (vc:VC x) (id:Int)
include ok vc
theorem Nr:Tt (fun y=>y.1.length<=5/\ ∀z∈y.1,0<=z/\z<5) (nN x id):=by
 obtain⟨c,d,c1,c2,c3⟩:=I2 x ok;obtain⟨r5,_,inr,_⟩:=c3 vc;have rm:c.replicas.length<=maxLen:=by unfold maxLen; omega
 unfold nN;rw[c1,ae];refine .bind (.count (B:=nM) (E:=fun e=>e.2.2.1.length<=5/\ ∀z∈e.2.2.1,0<=z/\z<5) c.replicas.length (fun k (b:List Int)=>((id,(),(),(),d,(k:Int),()),(fx x,(c.epoch,c.primary,(),(),()),()),b,c.replicas,c.witnesses,())) (fun k b=>b.length<=k/\ ∀z∈b,0<=z/\z<5) (fun b hb=> .end (aW _) (.ret ⟨aO hb.1 r5,hb.2⟩)) (fun k b hk hb=> ?_) [] ⟨aq _,nofun⟩) fun y hy=> .ret hy;have ex:b.length<=5/\ ∀z∈b,0<=z/\z<5:=⟨by omega,hb.2⟩
 have st:b.length<=k+1/\ ∀z∈b,0<=z/\z<5:=⟨by omega,hb.2⟩
 refine .go (aG.2 hk) (.br (fun _=> .bind (pC x ok) fun _ _=> .br (fun _=> ?_) fun _=> .ret ex) fun _=> .ret ex);rw[gr,ae];refine .br (fun _=> .ip ⟨aw k,aG.2 hk⟩ (.get (tn hk) fun z _ hz=> .srv ok vc (inr z hz) fun s _ _ _=> .br (fun _=> .br (fun _=> .ip ⟨aw k,aG.2 hk⟩ (.get (tn hk) fun z2 _ hz2=> .bind (Hp ok vc id z2) fun _ _=> .br (fun _=> .ip ⟨aw k,aG.2 hk⟩ (.get (tn hk) fun z3 _ hz3=> .ip ?_ (.ret ⟨b++ [z3],by rw[dV rm hk],?_⟩))) fun _=> .ret ⟨b,by rw[dV rm hk],st⟩)) fun _=> .ret ⟨b,by rw[dV rm hk],st⟩) fun _=> .ret ⟨b,by rw[dV rm hk],st⟩)) fun _=> .ret ex
 ·show (b++ [z3]).length*8<=2 ^ 40;rw[aA,az];omega
 ·exact⟨by rw[aA,az]; omega,fun y hy=>(bf.1 hy).elim (hb.2 y) fun h=>by rw[aE.1 h]; exact inr z3 hz3⟩
theorem R7:Tt (fun y=>y.1= -1\/0<=y.1/\y.1<5) (nQ x id):=by
 unfold nQ;refine .bind (Nr ok vc id) fun l hl=> ?_;have lm:l.1.length<=maxLen:=by have:=hl.1; unfold maxLen; omega
 refine .bind (.count (B:=nP) (E:=fun e=>e.1.1= -1\/0<=e.1.1/\e.1.1<5) l.1.length (fun k (b:Int)=>(((),b,(),(k:Int),()),(fx x,()),l.1,())) (fun _ b=>b= -1\/0<=b/\b<5) (fun b hb=> .end (aW _) (.ret hb)) (fun k b hk hb=> ?_) (-1) (.inl rfl)) fun y hy=> .ret hy;refine .go (aG.2 hk) (.br (fun _=> .ip ⟨aw k,aG.2 hk⟩ (.get (tn hk) fun z _ hz=> .ret ⟨z,by rw[dV lm hk], .inr (hl.2 z hz)⟩)) fun hn=> .ip ⟨aw k,aG.2 hk⟩ (.get (tn hk) fun z _ hz=> .srv ok vc (hl.2 z hz) fun s _ _ _=> .srv ok vc (a:=b) ?_ fun t _ _ _=> .br (fun _=> .ip ⟨aw k,aG.2 hk⟩ (.get (tn hk) fun z2 _ hz2=> .ret ⟨z2,by rw[dV lm hk], .inr (hl.2 z2 hz2)⟩)) fun _=> .ret ⟨b,by rw[dV lm hk],hb⟩));have hn: ¬b<0:=of_decide_eq_false hn;omega
omit ok vc in
theorem Lb (f:Int) (l:List dY) (hl:l.length<=maxLen):Tt (fun y=>y.1=true->0<=f/\l.length<=3) (sA f l):=by obtain⟨b,b1,b2⟩:=uW hl;unfold sA;rw[b1,ae];refine .br (fun _=> .br (fun h=> ?_) fun _=> .ret nofun) fun _=> .ret nofun;have h: (l.length:Int)<=3:=of_decide_eq_true h;rw[gr,ae];refine .br (fun w=> ?_) fun _=> .ret nofun;have w:=eF.1 w;exact .br (fun _=> .ret fun _=>⟨w.1,by omega⟩) fun _=> .ret fun _=>⟨w.1,by omega⟩
omit ok vc in
theorem R8 (a:List dY) (f:Int) (t:List dY) (ha:a.length<=1048576) (ht:t.length<=1048576):Tt (fun y=>y.1.length<=19) (qO a f t):=by
 obtain⟨b,b1,b2⟩:=uW (eC ha);unfold qO;rw[b1,ae,dS];refine .br (fun e=> ?_) fun _=> .ret (ay _);have h16:=b2 e;refine .bind (Lb f t (eC ht)) fun g hg=> ?_;rw[dS];refine .br (fun e=> ?_) fun _=> .ret (ay _);obtain⟨f0,t3⟩:=hg e;refine .br (fun _=> .ret (ay _)) fun hn=> ?_;have hn: ¬f>(a.length:Int):=of_decide_eq_false hn;obtain⟨n,n1,n2,n3,_⟩:=Fm ((a.drop f.toNat).take ((a.length:Int).toNat-f.toNat)) t (aO (by rw[aZ,bk]; omega) (eC ha));refine .ip (by omega) ?_;rw[n1,ae,eX (n:=(a.length:Int)-f) (by omega) (by omega)];refine .br (fun _=> .ret (ay _)) fun _=> ?_;rw[xS ha,ae]
 have hl: (a++((t.drop (n:Int).toNat).take ((t.length:Int).toNat-(n:Int).toNat))).length<=19:=by rw[aA,aZ,bk];omega
 refine .ip (by omega) (.ip (aO (bo 56 hl) (by omega)) ?_);obtain⟨d,d1,_⟩:=uW (l:=a++((t.drop (n:Int).toNat).take ((t.length:Int).toNat-(n:Int).toNat))) (by unfold maxLen; omega);rw[show gJ _=_ from d1,ae,dS];exact .br (fun _=> .ret hl) fun _=> .ret (ay _)
omit ok vc in
theorem R9 (s:dQ) (id:Int) (h:gb 1048576 s) (hf:0<=s.first/\s.first<=16/\s.log.length<=16):Tt (fun y=>y.1.length<=1048576) (sy s id):=by obtain⟨n,n1,_⟩:=wN s.config id (eO h.1);unfold sy;rw[n1,ae,xS h.2.2,ae];have gg:Tt (fun y:List dY×Unit=>y.1.length<=1048576) ((fC s).bind fun y3=>br (decide ((y3.1.length:Int)>(s.learned.length:Int))) (some (y3.1,())) (some (s.learned,()))):= .bind (wP s h hf) fun y hy=> .br (fun _=> .ret (by show y.1.length<=_; omega)) fun _=> .ret h.2.2;exact .br (fun _=>gg) fun _=> .br (fun _=>gg) fun _=> .ret h.2.2
theorem QY {c:dR} {w:dQ} (hw:gb 1048576 w) (j:Int) (d:Bool) (b:List dY×Bool) (hb:b.1.length<=19):Tt (fun e=> ∃r:List dY×Bool,r.1.length<=19/\e=((id,(),(),r.2,(),d,j,()),(fx x,(c.epoch,c.primary,(),(),()),()),r.1,c.replicas,c.witnesses,())) (tQ ((id,(),(),b.2,(),d,j,(),0,()),(fx x,(c.epoch,c.primary,(),(),()),SZ w,()),b.1,c.replicas,c.witnesses,())):=by
 refine .count (B:=mD) (E:=fun e=> ∃r:List dY×Bool,r.1.length<=19/\e=((id,(),(),r.2,(),d,j,()),(fx x,(c.epoch,c.primary,(),(),()),()),r.1,c.replicas,c.witnesses,())) 5 (fun k (b:List dY×Bool)=>((id,(),(),b.2,(),d,j,(),(k:Int),()),(fx x,(c.epoch,c.primary,(),(),()),SZ w,()),b.1,c.replicas,c.witnesses,())) (fun _ b=>b.1.length<=19) (fun b hb=> .end (aW _) (.ret ⟨b,hb,rfl⟩)) (fun k b hk hb=> ?_) b hb;have hkk:0<=(k:Int)/\(k:Int)<5:=⟨aw k,aG.2 hk⟩
 have sw:=dV (n:=5) (by decide) hk;refine .go hkk.2 (.srv ok vc hkk fun s _ _ _=> ?_);dsimp only;rw[sw,dS];refine .br (fun _=> .bind (Hp ok vc id k) fun y _=> ?_) fun _=> .ret ⟨b,rfl,hb⟩;rw[dS];refine .br (fun _=> .srv ok vc hkk fun t _ t2 t3=> .bind (R9 t k t2 (Fo t2 t3)) fun y hy=> .bind (R8 y.1 w.first w.log hy hw.2.1) fun z hz=> .br (fun _=> ?_) fun _=> .ret ⟨b,rfl,hb⟩) fun _=> .ret ⟨b,rfl,hb⟩;rw[dS];exact .br (fun _=> .br (fun _=> .ret ⟨(z.1,true),rfl,hz⟩) fun _=> .ret ⟨b,rfl,hb⟩) fun _=> .ret ⟨(z.1,true),rfl,hz⟩
theorem Ns:Tt (fun y=>y.1.length<=19) (nS x id):=by
 obtain⟨c,d,c1,c2,c3⟩:=I2 x ok;obtain⟨_,r5,_,inw,_⟩:=c3 vc;have rm:c.witnesses.length<=maxLen:=by unfold maxLen; omega
 unfold nS;rw[c1,ae];refine .bind (.count (B:=nR) (E:=fun e=>e.2.2.1.length<=19) c.witnesses.length (fun k (b:List dY×Bool)=>((id,(),(),b.2,(),d,(k:Int),()),(fx x,(c.epoch,c.primary,(),(),()),()),b.1,c.replicas,c.witnesses,())) (fun _ b=>b.1.length<=19) (fun b hb=> .end (aW _) (.ret hb)) (fun k b hk hb=> ?_) ([],false) (ay _)) fun y hy=> .ret hy;refine .go (aG.2 hk) (.br (fun _=> .bind (pC x ok) fun _ _=> .br (fun _=> ?_) fun _=> .ret hb) fun _=> .ret hb);rw[gr,ae];refine .br (fun _=> .ip ⟨aw k,aG.2 hk⟩ (.get (tn hk) fun z _ hz=> .srv ok vc (inw z hz) fun s _ s2 _=> ?_)) fun _=> .ret hb;have sw:=dV rm hk;rw[dS];refine .br (fun _=> ?_) fun _=> .ret ⟨b,by rw[sw],hb⟩;rw[dS];refine .br (fun _=> .ip ⟨aw k,aG.2 hk⟩ (.get (tn hk) fun z2 _ _=> .bind (Hp ok vc id z2) fun y _=> ?_)) fun _=> .ret ⟨b,by rw[sw],hb⟩;rw[dS];refine .br (fun _=> .bind (QY ok vc id (c:=c) s2 k d b hb) ?_) fun _=> .ret ⟨b,by rw[sw],hb⟩
 rintro _ ⟨r,hr,rfl⟩
 exact .ret ⟨r,by rw[<-sw],hr⟩
theorem Ps:Tt (fun y=>y.1.length<=1048576) (pd x id):=by unfold pd;refine .bind (pC x ok) fun v _=> ?_;rw[dS];refine .br (fun _=> ?_) fun _=> .ret (ay _);rw[gr,ae,dS];refine .br (fun _=> .br (fun _=> .ret (ay _)) fun _=> .bind (R7 ok vc id) fun n hn=> .br (fun h=> ?_) fun _=> .bind (Ns ok vc id) fun y hy=> .ret (by show y.1.length<=_; omega)) fun _=> .ret (ay _);have h:n.1≥0:=of_decide_eq_true h;refine .srv ok vc (by omega) fun s _ s2 _=> ?_;rw[xS s2.2.1];exact .ret s2.2.1
end
theorem Ar (l:List dY) (hl:l.length<=maxLen):Tt T1 (iZ l):=by unfold iZ;refine .bind (.count (B:=lS) (E:=fun _=>True) l.length (fun k (_:Unit)=>((l,(k:Int),()),(),())) (fun _ _=>True) (fun _ _=> .end (aW _) (.ret trivial)) (fun k _ hk _=> .go (aG.2 hk) (.ip (aw k) (.get (tn hk) fun e _ _=> .bind (Q:=T1) (by unfold kP; exact .ret trivial) fun _ _=> .br (fun _=> .ret trivial) fun _=> .ret ⟨(),by rw[dV hl hk],trivial⟩))) () trivial) fun y _=> ?_;cases y<;>exact .ret trivial
theorem Ht (s:dQ) (c:dR) (id:Int) (l:List dY) (hs:gb 1048576 s) (hc:iJ 1048576 c) (hl:l.length<=1048576):Tt (fun y=>gb 1048576 y.1) (jh s c id l):=by
 obtain⟨n,n1,_⟩:=wN c id (eO hc);obtain⟨b,b1,_⟩:=uW (eC hl);obtain⟨e,e1,_⟩:=sM l (eC hl);unfold jh;simp only[n1,b1,e1,(Aq s hs).1,(vr c hc).1,xS hl,gr,ae,dS,Ni l hl];have hk:pp l<=l.length:=Nat.sub_le _ _
 have hl2: ((l.drop (pp l)).take ((l.length:Int).toNat-pp l)).length<=1048576:=by rw[aZ,bk];omega
 refine .br (fun _=> .ret hs) fun _=> .br (fun _=> .br (fun _=> .br (fun _=> .br (fun _=> .ret hs) fun _=> .br (fun _=> .bind (Ar l (eC hl)) fun _ _=> .br (fun _=> .ret hs) fun _=> ?_) fun _=> ?_) fun _=> .ret hs) fun _=> .ret hs) fun _=> .ret hs
 all_goals
  exact .br (fun _=> .ip (by omega) (.bind (Q:=fun y=>y.1.length<=1048576) ⟨_,xS hl2,hl2⟩ fun y hy=> .ret ⟨hc,hy,ay _⟩)) fun _=> .ret ⟨hc,hl,ay _⟩
theorem Cm (m:dW) (h:rd 1048576 m) (e:Int):Tt (fun y=>rd 1048576 y.1/\y.1.configs.length=m.configs.length) (iQ m e):=by obtain⟨b,b1,_⟩:=masterLog m (kU h);unfold iQ;rw[(Fj m h).1,ae,b1,ae,dS];refine .br (fun _=> ?_) fun _=> .ret ⟨h,rfl⟩;rw[dS];exact .br (fun _=> .br (fun _=> .ret ⟨h,rfl⟩) fun _=> .ret ⟨h,rfl⟩) fun _=> .ret ⟨h,rfl⟩
theorem yX (x:dN) (ok:fj 1048576 x):Tt (fun y=>Kp x y.1) (mQ x):=by
 obtain⟨c,b,c1,c2,c3⟩:=J6 x ok (x.master.configs.length:Int);unfold mQ pV;rw[(gp x ok).1,ae,c1,ae,ae];refine .bind (pC x ok) fun v hv=> ?_;rw[dS];refine .br (fun h=> ?_) fun _=> .ret (.self ok);have vc:=hv h;rw[dS];refine .br (fun hb=> .br (fun _=> .ret (.self ok)) fun _=> .br (fun _=> .ret (.self ok)) fun _=> ?_) fun _=> .ret (.self ok);obtain⟨r5,w5,_,_,hp,_⟩:=c3 vc;have hp:=(hp hb).2;have hc:iJ 1048576 c:=⟨by omega,by omega⟩
 have s5:=po (eC ok.2.1) vc.sides;refine .srv ok vc hp fun s _ _ _=> ?_;rw[dS];refine .br (fun _=> .ip hp.1 (.get (by show c.primary.toNat<x.sides.length; omega) fun sd _ _=> ?_)) fun _=> .ret (.self ok);rw[dS];refine .br (fun _=> ?_) fun _=> .ret (.self ok);obtain⟨o,o1,_⟩:=zK x.lease x.now;rw[o1,ae,dS];refine .br (fun _=> .bind (R6 x ok c.primary c.epoch) fun y hy=> .bind (Ps ok vc c.primary) fun l hl=> ?_) fun _=> .ret (.self ok);rw[dS];refine .br (fun _=> .bind (sN c c2) fun m hm=> ?_) fun _=> .ret hy;have ml:m.1.length<=maxLen:=by have:=hm.1; unfold maxLen; omega
 have hyS:y.1.servers.length=5/\ ∀s∈y.1.servers,gb 1048576 s:=⟨hy.2.trans vc.len,hy.1.1.2⟩
 refine .bind (.count (B:=oT) (E:=Sum.elim (fun e=> ∃n:Int,e=(((),(),n,(),(),(),(),()),(fx x,fc y.1,(fc y.1,(c.epoch,c.primary,(),(),()),())),l.1,m.1,y.1.servers,y.1.sides,y.1.master.configs,y.1.places,c.replicas,c.witnesses,())) fun e=>e.2=((fx x,fz,fc y.1,(c.epoch,c.primary,(),(),()),()),l.1,m.1,y.1.servers,y.1.sides,y.1.master.configs,y.1.places,c.replicas,c.witnesses,())) m.1.length (fun k (_:Unit)=>(((),(),(),(),(),(),(k:Int),()),(fx x,fz,fc y.1,(c.epoch,c.primary,(),(),()),()),l.1,m.1,y.1.servers,y.1.sides,y.1.master.configs,y.1.places,c.replicas,c.witnesses,())) (fun _ _=>True) (fun _ _=> .end (aW _) (.ret rfl)) (fun k _ hk _=> ?_) () trivial) fun e he=> ?_
 ·refine .go (aG.2 hk) (.ip ⟨aw k,aG.2 hk⟩ (.get (tn hk) fun z _ hz=> .srv ok vc (hm.2 z hz) fun s _ _ _=> ?_));rw[dS];refine .br (fun _=> .ip ⟨aw k,aG.2 hk⟩ (.get (tn hk) fun z2 _ hz2=> .ip (hm.2 z2 hz2).1 (.get (by have:=hm.2 z2 hz2; show z2.toNat<x.sides.length; omega) fun w _ _=> ?_))) fun _=> .ret ⟨_,rfl⟩;rw[dS];exact .br (fun _=> .ret ⟨(),by rw[dV ml hk],trivial⟩) fun _=> .ret ⟨_,rfl⟩
 cases e with
 |inl e=>obtain⟨n,rfl⟩:=he;exact .ret hy
 |inr e=>
  show Tt _ ((vR (((),(),(),(),(),(),0,()),e.2)).bind _);rw[show e.2=_ from he];refine .bind (.count (B:=oU) (E:=Sum.elim (fun e=> ∃n:Int,e=(((),(),n,(),(),(),(),()),(fx x,fc y.1,(fc y.1,(c.epoch,c.primary,(),(),()),())),l.1,m.1,y.1.servers,y.1.sides,y.1.master.configs,y.1.places,c.replicas,c.witnesses,())) fun e=>e.2=((fx x,fz,fc y.1,(c.epoch,c.primary,(),(),()),()),l.1,m.1,y.1.servers,y.1.sides,y.1.master.configs,y.1.places,c.replicas,c.witnesses,())) m.1.length (fun k (_:Unit)=>(((),(),(),(),(),(),(k:Int),()),(fx x,fz,fc y.1,(c.epoch,c.primary,(),(),()),()),l.1,m.1,y.1.servers,y.1.sides,y.1.master.configs,y.1.places,c.replicas,c.witnesses,())) (fun _ _=>True) (fun _ _=> .end (aW _) (.ret rfl)) (fun k _ hk _=> .go (aG.2 hk) (.ip ⟨aw k,aG.2 hk⟩ (.get (tn hk) fun z _ hz=> .srv ok vc (hm.2 z hz) fun s _ _ _=> .br (fun _=> .bind (Ar l.1 (eC hl)) fun _ _=> .br (fun _=> .ret ⟨_,rfl⟩) fun _=> .ret ⟨(),by rw[dV ml hk],trivial⟩) fun _=> .ret ⟨(),by rw[dV ml hk],trivial⟩))) () trivial) fun e he=> ?_;cases e with
  |inl e=>obtain⟨n,rfl⟩:=he;exact .ret hy
  |inr e=>
   show Tt _ ((vT (((),(),(),(),(),(),0,()),e.2)).bind _);rw[show e.2=_ from he];refine .bind (.count (B:=oV) (E:=fun e=> ∃S:List dQ,(S.length=5/\ ∀s∈S,gb 1048576 s)/\e=(((),(),(),(),()),(fx x,fz,fc y.1,(c.epoch,c.primary,(),(),()),()),S,y.1.sides,y.1.master.configs,y.1.places,c.replicas,c.witnesses,())) m.1.length (fun k (S:List dQ)=>(((),(),(),(),(),(),(k:Int),()),(fx x,fz,fc y.1,(c.epoch,c.primary,(),(),()),()),l.1,m.1,S,y.1.sides,y.1.master.configs,y.1.places,c.replicas,c.witnesses,())) (fun _ S=>S.length=5/\ ∀s∈S,gb 1048576 s) (fun S hS=> .end (aW _) (.ret ⟨S,hS,rfl⟩)) (fun k S hk hS=> ?_) y.1.servers hyS) ?_
   ·refine .go (aG.2 hk) (.ip ⟨aw k,aG.2 hk⟩ (.get (tn hk) fun z _ hz=> .ip ⟨aw k,aG.2 hk⟩ (.get (tn hk) fun z2 _ hz2=> .at hS.1 (hm.2 z2 hz2) fun s e' hs=> .ip ⟨aw k,aG.2 hk⟩ (.get (tn hk) fun z3 _ _=> ?_))));dsimp only;simp only[e',ae,bK,bU,aR];refine .ip (aq _) (.ip (aq _) (.ip (aq _) (.ip (aq _) (.bind (Ht s c z3 l.1 (hS.2 s hs) hc hl) fun u hu=> .at hS.1 (hm.2 z hz) fun _ _ _=> .ret ⟨S.set z.toNat u.1,by rw[dV ml hk],I1 hS hu _⟩))))
   ·rintro _ ⟨S,hS,rfl⟩
    refine .bind (Cm x.master ok.2.2.1 c.epoch) fun w hw=> .ret ?_;exact⟨⟨⟨by show S.length<=_; rw[hS.1]; decide,hS.2⟩,hy.1.2.1,hw.1,hy.1.2.2.2⟩,by show S.length=_; rw[hS.1,vc.len]⟩
end Go.Proofs.YtadabkgmdllbfaaGreat.En
namespace Go.Proofs.YtadabkgmdllbfaaGreat.En
open Go
theorem zL (m:dW) (h:rd 1048576 m) (c:dR) (hc:iJ 1048576 c):Tt (fun y=>rd 1048576 y.1/\y.1.configs.length<=m.configs.length+1) (jg m c):=by
 have self:rd 1048576 m/\m.configs.length<=m.configs.length+1:=⟨h,cc _⟩
 obtain⟨b,b1,_⟩:=masterLog m (kU h);obtain⟨d,d1,_⟩:=pn c (eO hc);unfold jg;rw[(Fj m h).1,ae,b1,ae,dS];refine .br (fun e=> ?_) fun _=> .ret self;subst e;have hl:=R0 h b1;rw[d1,ae,dS];refine .br (fun _=> ?_) fun _=> .ret self;rw[dS];refine .br (fun _=> ?_) fun _=> .ret self;rw[(vr c hc).1,ae];have h2: (m.configs++ [c]).length<=21:=by rw[aA,az]; omega
 exact .ip (aO (bo 64 h2) (by omega)) (.ret ⟨⟨aO h2 (by omega),fun d hd=>(bf.1 hd).elim (h.2 d) fun e=>by rw[aE.1 e]; exact hc⟩,by show (m.configs++ [c]).length<=_; rw[aA]; exact aq _⟩)
theorem yY (x:dN) (ok:fj 1048576 x) (c:dR) (hc:iJ 1048576 c):Tt (fun y=>Kp x y.1) (jE x c):=by unfold jE;rw[(gp x ok).1,ae];refine .bind (pC x ok) fun v _=> ?_;rw[dS];refine .br (fun _=> .br (fun _=> .ret (.self ok)) fun _=> .bind (zL x.master ok.2.2.1 c hc) fun m hm=> ?_) fun _=> .ret (.self ok);rw[dS];exact .br (fun _=> .ret ⟨⟨ok.1,ok.2.1,hm.1,ok.2.2.2⟩,rfl⟩) fun _=> .ret (.self ok)
theorem PZ (x:dN) (ok:fj 1048576 x) (n:Int):Tt (fun y=>Kp x y.1) (kj x n):=by unfold kj;rw[(gp x ok).1,ae];refine .bind (pC x ok) fun v _=> ?_;rw[dS];refine .br (fun _=> ?_) fun _=> .ret (.self ok);rw[gr,ae,dS];exact .br (fun _=> .ret ⟨ok,rfl⟩) fun _=> .ret (.self ok)
theorem P0 (x:dN) (ok:fj 1048576 x) (id:Int):Tt (fun y=>y.1=true->VC x/\0<=id/\id<5) (kR x id):=by obtain⟨b,b1,_,b2⟩:=yV x id ok;exact⟨_,b1,fun e=>⟨i8 ok (b2 e).1,(b2 e).2⟩⟩
theorem Nt (x:dN) (ok:fj 1048576 x) (id:Int):Tt (fun y=>Kp x y.1) (kE x id):=by unfold kE;rw[(gp x ok).1,ae];refine .bind (P0 x ok id) fun v hv=> ?_;rw[dS];refine .br (fun e=> ?_) fun _=> .ret (.self ok);obtain⟨vc,hid⟩:=hv e;refine .srv ok vc hid fun s _ _ _=> .br (fun _=> .ret (.self ok)) fun _=> .srv ok vc hid fun t _ _ _=> ?_;rw[dS];exact .br (fun _=> .at vc.len hid fun u _ hu=> .ret ((Kp.self ok).set (s:=⟨u.up,u.intact,2,u.epoch,u.config,u.first,u.log,u.commit,u.learned⟩) (ok.1.2 u hu) _)) fun _=> .ret (.self ok)
theorem I3 (x:dN) (ok:fj 1048576 x) (id:Int):Tt (fun y=>Kp x y.1) (jt x id):=by
 unfold jt;rw[(gp x ok).1,ae];refine .bind (P0 x ok id) fun v hv=> ?_;rw[dS];refine .br (fun e=> ?_) fun _=> .ret (.self ok);obtain⟨vc,hid⟩:=hv e;refine .srv ok vc hid fun s _ _ _=> .br (fun _=> .ret (.self ok)) fun _=> .srv ok vc hid fun t _ _ _=> ?_;rw[dS];refine .br (fun _=> .srv ok vc hid fun s _ s2 _=> .bind (Q:=T1) ?_ fun _ _=> .br (fun _=> .ret (.self ok)) fun _=> .bind (.count (B:=js) (E:=Sum.elim (fun e=> ∃n:Int,e=((id,(),n,(),()),(fc x,fc x,()),x.servers,x.sides,x.master.configs,x.places,())) fun e=>e=((id,(),(),(),()),(fz,fc x,()),x.servers,x.sides,x.master.configs,x.places,())) x.servers.length (fun k (_:Unit)=>((id,(),(),(),(),(k:Int),()),(fx x,fz,fc x,SZ s,()),x.servers,x.sides,x.master.configs,x.places,())) (fun _ _=>True) (fun _ _=> .end (aW _) (.ret rfl)) (fun k _ hk _=> ?_) () trivial) fun e he=> ?_) fun _=> .ret (.self ok)
 ·unfold jS;exact .bind (Ar _ (eC s2.2.2)) fun _ _=> .ret trivial
 ·have sw:=dV (eC ok.1.1) hk;refine .go (aG.2 hk) ?_;rw[show kO _=_ from vq s.config (eO s2.1),ae,dS];refine .br (fun _=> .ret rfl) fun _=> .ip (aw k) (.get (tn hk) fun t _ ht=> ?_);have ht:=ok.1.2 t ht;rw[show gK _ _=_ from (gR t.config s.config (eO ht.1)).1,ae];refine .br (fun _=> .ip (aw k) (.get (tn hk) fun u _ hu=> .bind (Q:=T1) ?_ fun _ _=> .br (fun _=> .ret ⟨_,rfl⟩) fun _=> .ret ⟨(),by rw[sw],trivial⟩)) fun _=> .ret ⟨(),by rw[sw],trivial⟩;unfold jS;exact .bind (Ar _ (eC (ok.1.2 u hu).2.1)) fun _ _=> .ret trivial
 cases e with
 |inl e=>obtain⟨n,rfl⟩:=he;exact .ret (.self ok)
 |inr e=>obtain rfl:=he;exact .at vc.len hid fun u _ hu=> .ret ((Kp.self ok).set (s:=⟨u.up,u.intact,1,u.epoch,u.config,u.first,u.log,u.commit,u.learned⟩) (ok.1.2 u hu) _)
theorem Nu (x:dN) (ok:fj 1048576 x):Tt T1 (jT x):=by
 obtain⟨c,b,c1,c2,c3⟩:=I2 x ok;unfold jT;rw[c1,ae];refine .bind (pC x ok) fun v hv=> ?_;rw[dS];refine .br (fun h=> ?_) fun _=> .ret trivial;have vc:=hv h;rw[dS];refine .br (fun hb=> ?_) fun _=> .ret trivial;obtain⟨_,_,_,_,hp,_⟩:=c3 vc;have hp:=(hp hb).2;refine .srv ok vc hp fun s _ s2 _=> ?_;obtain⟨d,d1,_⟩:=q9 s c.primary s2;rw[d1,ae,dS];refine .br (fun _=> .srv ok vc hp fun t _ _ _=> ?_) fun _=> .ret trivial;rw[dS];refine .br (fun _=> .bind (sN c c2) fun m hm=> .bind (.count (B:=km) (E:=fun _=>True) m.1.length (fun k (_:Unit)=>(((),(),(),(k:Int),()),(fx x,(c.epoch,c.primary,(),(),()),()),m.1,c.replicas,c.witnesses,())) (fun _ _=>True) (fun _ _=> .end (aW _) (.ret trivial)) (fun k _ hk _=> .go (aG.2 hk) (.ip ⟨aw k,aG.2 hk⟩ (.get (tn hk) fun z _ hz=> .bind (Nl ok vc hp (hm.2 z hz)) fun y _=> ?_))) () trivial) fun e _=> ?_) fun _=> .ret trivial
 ·rw[dS];exact .br (fun _=> .ret ⟨(),by rw[dV (by have:=hm.1; unfold maxLen; omega) hk],trivial⟩) fun _=> .ret trivial
 ·cases e<;>exact .ret trivial
theorem J7 (x:dN) (ok:fj 1048576 x):Tt T1 (nh x):=by unfold nh;exact .bind (Nu x ok) fun _ _=> .ret trivial
section
variable {l:List eD} (hl:l.length<=maxLen) (hv:fm l=some (true,()))
include hl hv
theorem QZ (m:List Int) (hm:rv m):Tt (fun y=>y.1.length<=5) (sr l m):=by have h5:=yW hl hv;have ml:=hm.len;unfold sr;refine .bind (.count (B:=rt) (E:=fun e=>e.2.2.1.length<=5) m.length (fun k (b:List Int)=>((l,m,(),(k:Int),()),(),b,())) (fun k b=>b.length<=k/\SS b) (fun b hb=> .end (aW _) (.ret (aO hb.1 ml))) (fun k b hk hb=> ?_) [] ⟨aq _,List.Pairwise.nil⟩) fun y hy=> .ret hy;refine .go (aG.2 hk) ?_;dsimp only;rw[hv,ae,(vu hm).1,ae];refine .br (fun _=> .br (fun _=> .ip (aw k) (.get (tn hk) fun z _ hz=> .ip (o2 hm z hz).1 (.get (by have:=o2 hm z hz; omega) fun p _ _=> ?_))) (fun h=>by cases h)) (fun h=>by cases h);obtain⟨r,r1,r2,_,r4,_⟩:=Pk b p.rack (by omega) hb.2;rw[r1,ae];exact .ret ⟨r,by rw[dV (by unfold maxLen; omega) hk],by omega,r2⟩
theorem Sa (i:Int):Tt T1 (sx l i):=by have h5:=yW hl hv;unfold sx;rw[hv,ae,gr,ae];refine .br (fun _=> .br (fun h=> ?_) fun _=> .ret trivial) fun _=> .ret trivial;have h:=eF.1 h;exact .ip h.1 (.get (by omega) fun _ _ _=> .ip h.1 (.get (by omega) fun _ _ _=> .ret trivial))
theorem Pt (r:List Int) (hr:r.length<=5) {a b:Int} (ha:0<=a/\a<5) (hb:0<=b/\b<5):Tt T1 (qL l r a b):=by
 have h5:=yW hl hv;have rm:r.length<=maxLen:=by unfold maxLen; omega
 unfold qL;refine .ip ha.1 (.get (by omega) fun p _ _=> ?_);rw[(ga r p.rack rm).1,ae];refine .ip hb.1 (.get (by omega) fun q _ _=> ?_);rw[(ga r q.rack rm).1,ae,dS];exact .br (fun _=> .ip ha.1 (.get (by omega) fun _ _ _=> .ip hb.1 (.get (by omega) fun _ _ _=> .ret trivial))) fun _=> .ret trivial
theorem Nv (m d:List Int) (hm:rv m) (hd:d.length<=maxLen):Tt (fun y=>y.1= -1\/(0<=y.1/\y.1<5/\y.1∉m)) (nf l m d):=by
 have ml:m.length<=maxLen:=by have:=hm.len; unfold maxLen; omega
 unfold nf;refine .bind (QZ hl hv m hm) fun r hr=> .bind (.count (B:=oS) (E:=fun e=>e.1.1= -1\/(0<=e.1.1/\e.1.1<5/\e.1.1∉m)) 5 (fun k (b:Int)=>((l,m,d,b,(),(k:Int),()),(),r.1,())) (fun _ b=>b= -1\/(0<=b/\b<5/\b∉m)) (fun b hb=> .end (aW _) (.ret hb)) (fun k b hk hb=> ?_) (-1) (.inl rfl)) fun y hy=> .ret hy;have hkk:0<=(k:Int)/\(k:Int)<5:=⟨aw k,aG.2 hk⟩
 refine .go hkk.2 ?_;dsimp only;rw[(vu hm).1,ae,dV (n:=5) (by decide) hk];refine .br (fun _=> .bind (Sa hl hv k) fun y _=> ?_) (fun h=>by cases h);rw[dS,(ga m k ml).1,(ga d k hd).1];refine .br (fun _=> .br (fun _=> .ret ⟨b,rfl,hb⟩) fun hn=> .br (fun _=> .ret ⟨b,rfl,hb⟩) fun _=> ?_) fun _=> .ret ⟨b,rfl,hb⟩;have hn: (k:Int)∉m:=of_decide_eq_false hn;refine .br (fun _=> .ret ⟨(k:Int),rfl, .inr ⟨hkk.1,hkk.2,hn⟩⟩) fun h0=> ?_;have h0: ¬b<0:=of_decide_eq_false h0;exact .bind (Pt hl hv r.1 hr hkk (by omega)) fun _ _=> .br (fun _=> .ret ⟨(k:Int),rfl, .inr ⟨hkk.1,hkk.2,hn⟩⟩) fun _=> .ret ⟨b,rfl,hb⟩
omit hv in
theorem Sb (m a:List Int) (hm:rv m) (ha:rv a) (want:Int):Tt (fun y=>rv y.1) (me l m a want):=by
 have am:a.length<=maxLen:=by have:=ha.len; unfold maxLen; omega
 obtain⟨v,v1,_⟩:=qj l hl;have nil:rv [] :=fun k hk=>by simp at hk
 unfold me;rw[xO m a hm am,Ck _ a J2 am,ae,ae,v1,ae,dS,(vu hm).1,(vu ha).1];refine .br (fun e=> .br (fun h=>by cases h) fun _=> .br (fun h=>by cases h) fun _=> ?_) fun _=> .ret nil;subst e;rw[gr,ae,dS];refine .br (fun _=> ?_) fun _=> .ret nil;have dl:=(J2.filter fun x=> !decide (x∈a)).len;have dm: (([0,1,2,3,4]:List Int).filter fun x=> !decide (x∈a)).length<=maxLen:=by unfold maxLen; omega
 generalize ([0,1,2,3,4]:List Int).filter (fun x=> !decide (x∈a))=dead at dm;refine .bind (.loop (B:=mB) (E:=Sum.elim (fun e=>rv e.2.2.1) fun e=>rv e.2.2.1) (fun s=> ∃out:List Int,s=((l,want,(),(),()),(),out,dead,())/\rv out) (fun s=>(want-s.2.2.1.length).toNat) ?_ ⟨_,rfl,hm.filter _⟩) fun y hy=> ?_
 ·rintro _ ⟨out,rfl,ho⟩
  have ol:=ho.len;refine .br (fun c=> ?_) fun _=> .ret ho;have c: (out.length:Int)<want:=of_decide_eq_true c;refine .bind (Nv hl v1 out dead ho dm) fun n hn=> .br (fun _=> .ret ho) fun h=> ?_;have h: ¬n.1<0:=of_decide_eq_false h
  obtain⟨n0,n5,nm⟩:0<=n.1/\n.1<5/\n.1∉out:=by
   rcases hn with h'|h'
   ·omega
   ·exact h'
  obtain⟨r,r1,r2,r3,_,r5⟩:=Pk out n.1 (by omega) ho.pair;rw[show jJ _ _=_ from r1,ae];refine .ret ⟨⟨r,rfl,uV r2 fun y hy=>((r3 y).1 hy).elim (fun e=>by rw[e]; exact⟨n0,n5⟩) (o2 ho y)⟩,?_⟩;show (want-(r.length:Int)).toNat< (want-(out.length:Int)).toNat;have:=r5 nm;omega
 ·cases y with
  |inl y=>exact .ret hy
  |inr y=>exact .ret hy
end
theorem P1 (x:dN) (ok:fj 1048576 x) (want wit:Int):Tt (fun y=>iJ 1048576 y.1) (lR x want wit):=by
 have zero:iJ 1048576 ⟨0,0,[],[]⟩:=⟨ay _,ay _⟩
 obtain⟨v,v1,_⟩:=gt x ok;unfold lR;rw[v1,ae,dS];refine .br (fun e=> ?_) fun _=> .ret zero;subst e;have vc:=i8 ok v1;rw[gr,ae,dS];refine .br (fun _=> ?_) fun _=> .ret zero;rw[gr,ae,dS];refine .br (fun _=> .br (fun _=> .ret zero) fun _=> ?_) fun _=> .ret zero;obtain⟨c,b,c1,c2,c3⟩:=I2 x ok;obtain⟨r5,w5,inr,_,_,rasc⟩:=c3 vc;have rm:c.replicas.length<=maxLen:=by unfold maxLen; omega
 rw[RZ x ok v1,ae,c1,ae];have up:=J1 (Fl x) (n:=5) (by omega);generalize xR (Fl x) 5=u at up;have um:u.length<=maxLen:=by have:=up.len; unfold maxLen; omega
 refine .bind (.count (B:=nL) (E:=fun e=> ∃have':List Int,rv have'/\e=((want,wit,(),(),(),(),(),()),(fx x,(0,0,(),(),()),(c.epoch,c.primary,(),(),()),()),u,have',c.replicas,c.witnesses,())) c.replicas.length (fun k (b:List Int)=>((want,wit,(),(),(),(),(),(k:Int),()),(fx x,(0,0,(),(),()),(c.epoch,c.primary,(),(),()),()),u,b,c.replicas,c.witnesses,())) (fun k b=>b.Sublist (c.replicas.take k)) (fun b hb=> .end (aW _) (.ret ⟨b,?_,rfl⟩)) (fun k b hk hb=> ?_) [] (List.nil_sublist _)) ?_
 ·rw[bU] at hb;exact uV (rasc.pair.sublist hb) fun y hy=>inr y (hb.subset hy)
 ·have sw:=dV rm hk;have st:b.Sublist (c.replicas.take (k+1)):=hb.trans (List.take_sublist_take_left (cc k));refine .go (aG.2 hk) (.ip ⟨aw k,aG.2 hk⟩ (.get (tn hk) fun z _ hz=> ?_));rw[show eZ _ _=_ from (ga u z um).1,ae];refine .br (fun _=> .ip ⟨aw k,aG.2 hk⟩ (.get (tn hk) fun z2 _ hz2=> .srv ok vc (inr z2 hz2) fun s _ _ _=> .br (fun _=> .ip ⟨aw k,aG.2 hk⟩ (.get (tn hk) fun z3 e3 _=> ?_)) fun _=> .ret ⟨b,by rw[sw],st⟩)) fun _=> .ret ⟨b,by rw[sw],st⟩;have e3:c.replicas[k]? =some z3:=e3
  have h2: (b++ [z3]).Sublist (c.replicas.take (k+1)):=by rw[bM,e3];exact hb.append (List.Sublist.refl _)
  have h3:=h2.length_le;rw[aZ] at h3;exact .ip (by show (b++ [z3]).length*8<=2 ^ 40; omega) (.ret ⟨b++ [z3],by rw[sw],h2⟩)
 ·rintro _ ⟨hv,ha,rfl⟩
  refine .bind (Sb (eC ok.2.2.2) hv u ha up want) fun p hp=> .br (fun _=> .ret zero) fun h0=> ?_;have pl:=hp.len
  have p0:0<p.1.length:=by
   rcases be p.1.length with h|h
   ·rw[h] at h0;cases h0
   ·exact h
  refine .ip ⟨bP _,aG.2 p0⟩ (.get p0 fun q _ _=> ?_);rw[show eZ _ _=_ from (ga p.1 c.primary (by unfold maxLen; omega)).1,ae];have gg: ∀w:List Int,w.length<=1-> ∀ (e p':Int) (d:Bool),Tt (fun y:dR×Bool×Unit=>iJ 1048576 y.1) (some (⟨e,p',p.1,w⟩,d,())):=fun w hw _ _ _=> .ret ⟨by show p.1.length<=_; omega,by show w.length<=_; omega⟩
  extract_lets j43
  have h43: ∀p',Tt (fun y=>iJ 1048576 y.1) (j43 p'):=fun p'=>by unfold j43;refine .br (fun _=> ?_) fun _=>gg [] (by decide) _ _ _;rw[show fI _ _=_ from Ck _ u J2 um,ae];refine .bind (Nv (eC ok.2.2.2) vc.places p.1 _ hp ?_) fun _ _=> .br (fun _=>gg [_] (aq 1) _ _ _) fun _=>gg [] (by decide) _ _ _;have:=(J2.filter fun x=> !decide (x∈u)).len;exact aO this (by unfold maxLen; omega)
  refine .br (fun _=> ?_) fun _=>h43 _;rw[show kO _=_ from vq c c2,ae];exact .br (fun _=>h43 _) fun _=>h43 _
theorem Nw (x:dN) (ok:fj 1048576 x) (id t:Int):Tt (fun y=>Kp x y.1) (lQ x id t):=by obtain⟨n,n1,n2⟩:=Hq x ok id;unfold lQ;rw[(gp x ok).1,ae,n1,ae,dS];refine .br (fun e=> ?_) fun _=> .ret (.self ok);obtain⟨hv,h0,h5⟩:=n2 (eq_of_beq e);have vc:=i8 ok hv;have s5:=po (eC ok.2.1) vc.sides;refine .srv ok vc ⟨h0,h5⟩ fun s _ s2 _=> ?_;obtain⟨b,b1,_⟩:=q9 s id s2;rw[b1,ae,dS];refine .br (fun _=> .br (fun _=> .ret (.self ok)) fun _=> .ip h0 (.get (by omega) fun _ _ _=> ?_)) fun _=> .ret (.self ok);rw[dS];refine .br (fun _=> ?_) fun _=> .ret (.self ok);rw[dS];refine .br (fun _=> ?_) fun _=> .ret (.self ok);obtain⟨l,d,g1,_⟩:=IY x.lease s.config.epoch id x.now t;rw[g1,ae,dS];exact .br (fun _=> .ret ⟨ok,rfl⟩) fun _=> .ret (.self ok)
theorem Pu (x:dN) (ok:fj 1048576 x) (want term:Int):Tt (fun y=>Kp x y.1) (mi x want term):=by unfold mi;rw[(gp x ok).1,ae];refine .bind (pC x ok) fun v _=> ?_;rw[dS];refine .br (fun _=> ?_) fun _=> .ret (.self ok);rw[gr,ae,dS];refine .br (fun _=> .bind (J7 x ok) fun _ _=> .br (fun _=> .ret (.self ok)) fun _=> .bind (P1 x ok want 0) fun n hn=> ?_) fun _=> .ret (.self ok);rw[dS];refine .br (fun _=> .bind (yY x ok n.1 hn) fun y hy=> ?_) fun _=> .ret (.self ok);rw[dS];refine .br (fun _=> ?_) fun _=> .ret (.self ok);obtain⟨t,t1,_⟩:=Ho x.lease;rw[t1,ae];refine .bind (PZ y.1 hy.1 _) fun z hz=> ?_;rw[dS];refine .br (fun _=> .bind (yX z.1 hz.1) fun a ha=> ?_) fun _=> .ret (.self ok);rw[dS];exact .br (fun _=> .bind (Nw a.1 ha.1 _ _) fun r hr=> .ret (hy.trans (hz.trans (ha.trans hr)))) fun _=> .ret (hy.trans (hz.trans ha))
theorem S5 (x:dN) (ok:fj 1048576 x) (to:Int):Tt (fun y=>y.1=0->VC x) (pg x to):=by obtain⟨c,b,c1,c2,c3⟩:=I2 x ok;unfold pg;rw[c1,ae];refine .bind (pC x ok) fun v hv=> ?_;rw[dS];refine .br (fun h=> ?_) fun _=> .ret nofun;have vc:=hv h;have s5:=po (eC ok.2.1) vc.sides;rw[dS];refine .br (fun hb=> ?_) fun _=> .ret nofun;obtain⟨r5,_,_,_,hp,_⟩:=c3 vc;have hp:=(hp hb).2;rw[(ga c.replicas to (by unfold maxLen; omega)).1,ae,dS];refine .br (fun _=> .br (fun _=> .ret nofun) fun _=> ?_) fun _=> .ret nofun;rw[dS];refine .br (fun _=> .br (fun _=> .ret nofun) fun _=> .br (fun _=> .ret nofun) fun _=> .bind (J7 x ok) fun _ _=> ?_) fun _=> .ret nofun;rw[dS];refine .br (fun _=> .ip hp.1 (.get (by show c.primary.toNat<x.sides.length; omega) fun _ _ _=> ?_)) fun _=> .ret nofun;rw[dS];refine .br (fun _=> .br (fun _=> ?_) fun _=> .ret fun _=>vc) fun _=> .ret nofun;rw[dS];exact .br (fun _=> .ret fun _=>vc) fun _=> .ret nofun
theorem Pv (x:dN) (ok:fj 1048576 x) (to:Int):Tt (fun y=>Kp x y.1) (kF x to):=by
 obtain⟨c,b,c1,c2,c3⟩:=I2 x ok;unfold kF;rw[(gp x ok).1,ae];refine .bind (S5 x ok to) fun n hn=> ?_;rw[dS];refine .br (fun h=> ?_) fun _=> .ret (.self ok);obtain⟨r5,w5,_⟩:=c3 (hn (eq_of_beq h));rw[c1,ae];refine .bind (J5 x ok c.primary) fun y hy=> ?_;have hy':Kp x ⟨y.1.now,y.1.servers,y.1.sides,y.1.master,y.1.masterUp,⟨0,0,0⟩,y.1.places⟩:=⟨hy.1,hy.2⟩
 exact .bind (yY _ hy'.1 ⟨_,to,c.replicas,c.witnesses⟩ ⟨by show c.replicas.length<=_; omega,by show c.witnesses.length<=_; omega⟩) fun z hz=> .bind (yX z.1 hz.1) fun w hw=> .ret (hy'.trans (hz.trans hw))
end Go.Proofs.YtadabkgmdllbfaaGreat.En
namespace Go.Proofs.YtadabkgmdllbfaaGreat.En
open Go
theorem Tt.byte {α:Type} {Q:α->Prop} {b:ByteArray} {i:Nat} {k:UInt8->Option α} (hi:i<b.size) (h: ∀x,Tt Q (k x)):Tt Q ((b[i]?).bind k):=by rw[getElem?_pos b i hi];exact h _
theorem Cn (b:Int): (Kd ((([b]:List Int).drop 0).take ([b]:List Int).length)).size=1:=rfl
theorem kt (n:Int) (h:n.natAbs<=1000):Tt (fun y=>y.1.size<=1001) (gW n):=by
 unfold gW;refine .br (fun _=> .ret (by decide)) fun _=> .bind (.loop (B:=oW) (E:=fun e=>e.1.1.size<=1000) (fun s=>s.1.2.1.size+s.1.1.natAbs<=1000) (fun s=>s.1.1.natAbs) ?_ (by simpa using h)) fun y hy=> .br (fun _=> .ip ?_ (.ret ?_)) fun _=> .ret (aO hy (by omega))
 ·rintro⟨⟨n,acc,neg,_⟩,_,_⟩ hs
  have hs:acc.size+n.natAbs<=1000:=hs;refine .br (fun h0=> ?_) fun _=> .ret (by show acc.size<=1000; omega);have h0:n≠0:=fun e=>by rw[e] at h0; cases h0
  have ha: (Int.tdiv n 10).natAbs=n.natAbs / 10:=Int.natAbs_tdiv n 10;have hw:IntKind.wrap .i64 (Int.tdiv n 10)=Int.tdiv n 10:=eX (by omega) (by omega);dsimp only;rw[hw];refine .br (fun _=> .ip ⟨dI,aq _⟩ (.ip (by rw[Cn]; omega) (.ret ⟨?_,?_⟩))) fun _=> .ip ⟨dI,aq _⟩ (.ip (by rw[Cn]; omega) (.ret ⟨?_,?_⟩))
  all_goals first
   | (show (_++acc).size+(Int.tdiv n 10).natAbs<=1000; rw[ByteArray.size_append,Cn]; omega)
   | (show (Int.tdiv n 10).natAbs<n.natAbs; omega)
 ·show (⟨⟨[45]⟩⟩:ByteArray).size+y.1.1.size<=2 ^ 40;have : (⟨⟨[45]⟩⟩:ByteArray).size=1:=rfl;omega
 ·show ((⟨⟨[45]⟩⟩:ByteArray)++y.1.1).size<=1001;have : (⟨⟨[45]⟩⟩:ByteArray).size=1:=rfl;rw[ByteArray.size_append];omega
theorem Q0 {o:Op} (h:QS o=true): (0<=o.client/\o.client<=2)/\(1<=o.seq/\o.seq<=99)/\(0<=o.object/\o.object<=2)/\(0<=o.value/\o.value<=9)/\(o.kind≠1->0<=o.old/\o.old<=9):=by
 obtain⟨h1,h2,h4⟩:=QT h;have h3:=J3 (show fb o=some (true,()) by rw[tB,h]);refine⟨eF.1 h1,eF.1 h2,h3,eF.1 h4,fun hk=> ?_⟩;have h0:fb o=some (true,()):=by rw[tB,h]
 unfold fb at h0;simp only[gr,ae,h1,h2,h4,eF.2 h3,cg,fB,beq_eq_false_iff_ne.2 hk] at h0;cases hk2: (o.kind==2) with
 |false=>rw[hk2] at h0; cases h0
 |true=>rw[hk2] at h0;simp only[ef,af,an,and_true] at h0;exact eF.1 h0
theorem Lc (o:Op):Tt (fun y=>y.1.size<=10000) (qQ o):=by
 unfold qQ;rw[tB,ae,dS];refine .br (fun h=> ?_) fun _=> .ret (by decide);obtain⟨n1,n2,n3,n4,n5⟩:=Q0 h;have e1: (⟨⟨[46]⟩⟩:ByteArray).size=1:=rfl;have e2: (⟨⟨[32]⟩⟩:ByteArray).size=1:=rfl;have e3: (⟨⟨[119,114,105,116,101,32]⟩⟩:ByteArray).size=6:=rfl;have e4: (⟨⟨[115,119,97,112,32]⟩⟩:ByteArray).size=5:=rfl;refine .bind (kt _ (by omega)) fun a ha=> .ip (by omega) (.bind (kt _ (by omega)) fun b hb=> .ip (by rw[ByteArray.size_append]; omega) (.ip (by simp only[ByteArray.size_append]; omega) (.br (fun _=> .ip (by simp only[ByteArray.size_append]; omega) (.bind (kt _ (by omega)) fun c hc=> .ip (by simp only[ByteArray.size_append]; omega) (.ip (by simp only[ByteArray.size_append]; omega) (.bind (kt _ (by omega)) fun d hd=> .ip (by simp only[ByteArray.size_append]; omega) (.ret ?_))))) fun hk=> ?_)))
 ·show ByteArray.size _<=_;simp only[ByteArray.size_append];omega
 ·have n5:=n5 fun e=>by rw[e] at hk; cases hk
  refine .ip (by simp only[ByteArray.size_append]; omega) (.bind (kt _ (by omega)) fun c hc=> .ip (by simp only[ByteArray.size_append]; omega) (.ip (by simp only[ByteArray.size_append]; omega) (.bind (kt _ (by omega)) fun d hd=> .ip (by simp only[ByteArray.size_append]; omega) (.ip (by simp only[ByteArray.size_append]; omega) (.bind (kt _ (by omega)) fun e he=> .ip (by simp only[ByteArray.size_append]; omega) (.ret ?_))))));show ByteArray.size _<=_;simp only[ByteArray.size_append];omega
theorem I4 (l:List dY) (hl:l.length<=maxLen):Tt (fun y=>y.1.size<=1000000) (pf l):=by
 obtain⟨b,b1,b2⟩:=uW hl;unfold pf;rw[b1,ae,dS];refine .br (fun e=> ?_) fun _=> .ret (by decide);have h16:=b2 e;subst e;have hlog:=((Nj l hl).1 b1).2;refine .br (fun _=> .ret (by decide)) fun _=> .bind (.count (B:=oX) (E:=fun e=>e.1.1.size<=1000000) l.length (fun k (b:ByteArray)=>((l,b,(k:Int),()),(),())) (fun k b=>b.size<=k*20000) (fun b hb=> .end (aW _) (.ret (by show b.size<=_; omega))) (fun k b hk hb=> ?_) ByteArray.empty (ay _)) fun y hy=> .ret hy;have sw:=dV hl hk;have e1: (⟨⟨[58]⟩⟩:ByteArray).size=1:=rfl;have e2: (⟨⟨[59]⟩⟩:ByteArray).size=1:=rfl;have hb:b.size<=k*20000:=hb;have hk2:k*20000<=16*20000:=bo _ (by omega);refine .go (aG.2 hk) (.br (fun _=> .ip (by rw[e2]; show b.size+1<=_; omega) (.ip (aw k) (.get (tn hk) fun e he _=> .bind (kt _ ?_) fun y hy=> ?_))) fun _=> .ip (aw k) (.get (tn hk) fun e he _=> .bind (kt _ ?_) fun y hy=> ?_))
 case refine_1|refine_3=>have:=hlog k hk;unfold Pp at this;rw[show l[k]? =some e from he] at this;simp only[al] at this;have:=eF.1 this.1;omega
 all_goals
  dsimp only;rw[sw];refine .ip (by first |omega| (simp only[ByteArray.size_append]; omega)) (.ip (by simp only[ByteArray.size_append]; omega) (.ip (aw k) (.get (tn hk) fun e2 _ _=> .bind (Lc e2.op) fun z hz=> .ip (by simp only[ByteArray.size_append]; omega) (.ret ⟨_,rfl,?_⟩))));simp only[ByteArray.size_append];omega
theorem Ld (b:ByteArray) (hb:b.size<=1000000):Tt T1 (qR b):=by unfold qR;exact .bind (.count (B:=pW) (E:=fun _=>True) b.size (fun k (n:Int)=>((b,n,(k:Int),()),(),())) (fun _ _=>True) (fun _ _=> .end (aW _) (.ret trivial)) (fun k n hk _=> .go (aG.2 hk) (.ip (aw k) (.byte hk fun x=> .ret ⟨_,by rw[dV (n:=b.size) (by unfold maxLen; omega) hk],trivial⟩))) 5 trivial) fun _ _=> .ret trivial
theorem Nx (l:List dY) (hl:l.length<=maxLen):Tt (fun y=>y.1.length<=l.length+1/\y.1.length<=17) (nV l):=by
 obtain⟨b,b1,b2⟩:=uW hl;unfold nV;rw[b1,ae,dS];refine .br (fun e=> ?_) fun _=> .ret ⟨ay _,ay _⟩;have h16:=b2 e;refine .ip (by simp) (.bind (.count (B:=nU) (E:=fun e=>e.2.2.1.length<=l.length+1/\e.2.2.1.length<=17) l.length (fun k (b:Int×List Int)=>((l,(),b.1,(k:Int),()),(),b.2,())) (fun k b=>b.2.length=k+1) (fun b hb=> .end (aW _) (.ret (by show b.2.length<=_/\b.2.length<=_; omega))) (fun k b hk hb=> ?_) (11,[11]) rfl) fun y hy=> .ret hy);have sw:=dV hl hk;refine .go (aG.2 hk) ?_;dsimp only;rw[sw];refine .ip ⟨aw k,by omega,Int.ofNat_le.2 hk⟩ (.bind (I4 _ (aO (by rw[aZ,bk]; omega) hl)) fun y hy=> .bind (Ld y.1 hy) fun z _=> .ip ?_ (.ret ⟨(_,_),rfl,?_⟩))
 ·rw[aA,az,hb];omega
 ·rw[aA,az,hb]
theorem J8 (l:List dY) (k:Int) (hl:l.length<=maxLen):Tt (fun y=>y.1≠ -1->0<=k/\k<=(l.length:Int)) (oH l k):=by unfold oH;refine .bind (Nx l hl) fun y hy=> ?_;rw[eX (n:=(y.1.length:Int)-1) (by omega) (by omega),gr,ae,dS];refine .br (fun h=> ?_) fun _=> .ret fun h=>absurd rfl h;have h:=eF.1 h;exact .ip (by omega) (.get (by omega) fun _ _ _=> .ret fun _=>by omega)
theorem Q1 (x:dN) (ok:fj 1048576 x) (a b:Int):Tt (fun y=>y.1=true->VC x/\(0<=a/\a<5)/\(0<=b/\b<5)) (pe x a b):=by
 unfold pe;refine .bind (pC x ok) fun v hv=> ?_;rw[dS];refine .br (fun h=> ?_) fun _=> .ret nofun;have vc:=hv h;have h5:=po (eC ok.2.1) vc.sides
 have side:Tt (fun y:Bool×Unit=>y.1=true->(0<=a/\a<5)/\(0<=b/\b<5)) (iu x.sides a b):=by unfold iu;simp only[vc.sides,gr,ae,ef];refine .br (fun ha=> .br (fun hb=> ?_) fun _=> .ret nofun) fun _=> .ret nofun;have ha:=eF.1 ha;have hb:=eF.1 hb;exact .ip ha.1 (.get (by omega) fun _ _ _=> .ip hb.1 (.get (by omega) fun _ _ _=> .ret fun _=>by omega))
 refine .bind side fun y hy=> ?_;rw[dS];refine .br (fun h=> ?_) fun _=> .ret nofun;obtain⟨ha,hb⟩:=hy h;refine .br (fun _=> .ret nofun) fun _=> .srv ok vc ha fun s _ s2 _=> ?_;obtain⟨n,n1,_⟩:=wN s.config a (eO s2.1);obtain⟨m,m1,_⟩:=wN s.config b (eO s2.1);rw[n1,ae,m1];have good: ∀d:Bool,Tt (fun y:Bool×Unit=>y.1=true->VC x/\(0<=a/\a<5)/\(0<=b/\b<5)) (some (d,())):=fun d=> .ret fun _=>⟨vc,ha,hb⟩
 exact .br (fun _=> .srv ok vc hb fun _ _ _ _=> .br (fun _=> .br (fun _=> .br (fun _=>good _) fun _=>good _) fun _=> .br (fun _=> .br (fun _=>good _) fun _=>good _) fun _=>good _) fun _=>good _) fun _=>good _
theorem Sc (x:dN) (ok:fj 1048576 x) (a b:Int):Tt (fun y=>0<=y.1->VC x/\(0<=a/\a<5)/\(0<=b/\b<5)/\ ∃s l,x.servers[a.toNat]? =some s/\fC s=some (l,())/\l.length<=16/\y.1<=(l.length:Int)) (mg x a b):=by
 unfold mg;refine .bind (Q1 x ok a b) fun v hv=> ?_;rw[dS];refine .br (fun h=> ?_) fun _=> .ret fun h=>absurd h (by decide);obtain⟨vc,ha,hb⟩:=hv h;refine .srv ok vc ha fun s s1 s2 s3=> ?_;obtain⟨⟨l,_⟩,l1,l2⟩:=wP s s2 (Fo s2 s3);have l2:l.length<=16:=l2;rw[l1,ae];refine .srv ok vc hb fun t _ t2 _=> .srv ok vc hb fun u _ u2 _=> .bind (Q:=T1) ?_ fun d _=> .bind (Q:=fun y=>y.1=true->(t.learned.length:Int)<=(l.length:Int)) ?_ fun p hp=> ?_
 ·unfold mE;exact .bind (J8 _ _ (eC u2.2.2)) fun _ _=> .ret trivial
 ·unfold nW;refine .br (fun hd=> .bind (J8 l _ (by unfold maxLen; omega)) fun y hy=> .ret fun e=> ?_) fun _=> .ret nofun;have hd:d.1≥0:=of_decide_eq_true hd;have e:=eq_of_beq e;exact (hy (by omega)).2
 ·have tl:=t2.2.2;rw[dS];refine .br (fun e=> .ret fun _=>⟨vc,ha,hb,s,l,s1,l1,l2,?_⟩) fun _=> .ret fun _=>⟨vc,ha,hb,s,l,s1,l1,l2,?_⟩
  ·have:=hp e;show IntKind.wrap .i64 ((l.length:Int)-(t.learned.length:Int))<=_;rw[eX (by omega) (by omega)];omega
  ·show IntKind.wrap .i64 ((l.length:Int)-0)<=_;rw[eX (by omega) (by omega)];omega
theorem Q3 (x:dN) (ok:fj 1048576 x) (a b n:Int):Tt (fun y=>Kp x y.1) (mh x a b n):=by
 unfold mh;rw[(gp x ok).1,ae];refine .bind (Sc x ok a b) fun y hy=> .br (fun _=> .ret (.self ok)) fun h=> ?_;have h: ¬y.1<0:=of_decide_eq_false h;obtain⟨vc,ha,hb,s,l,s1,l1,l2,le⟩:=hy (by omega);rw[gr,ae,dS];refine .br (fun w=> .ip ha.1 ?_) fun _=> .ret (.self ok);have w:=eF.1 w;rw[s1,ae,l1,ae];dsimp only;have hm: (if n<y.1 then n else y.1)<=y.1/\0<=(if n<y.1 then n else y.1):=by split<;>omega
 generalize (if n<y.1 then n else y.1)=m at hm;rw[eX (n:=(l.length:Int)-y.1) (by omega) (by omega),eX (n:=(l.length:Int)-y.1+m) (by omega) (by omega)]
 have hl: ((l.drop (0+(0:Int).toNat)).take (((l.length:Int)-y.1+m).toNat-(0:Int).toNat)).length<=1048576:=by rw[aZ,bk];omega
 refine .ip (by omega) (.ip (by omega) ?_);rw[xS hl,ae];exact .at vc.len hb fun u _ hu=> .ret ((Kp.self ok).set (s:=⟨u.up,u.intact,u.version,u.epoch,u.config,u.first,u.log,u.commit,(l.drop (0+(0:Int).toNat)).take (((l.length:Int)-y.1+m).toNat-(0:Int).toNat)⟩) ⟨(ok.1.2 u hu).1,(ok.1.2 u hu).2.1,hl⟩ _)
theorem Ny {x y:dN} {n:Int} {r:Option (dN×Int×Unit)} (h:r=some (y,n,())/\fj 1048576 y/\y.servers.length=x.servers.length):Tt (fun z=>Kp x z.1) r:=⟨_,h.1,h.2⟩
theorem Sd (x:dN) (ok:fj 1048576 x) (e:fk):Tt (fun y=>Kp x y.1) (sF x e):=by obtain⟨_,_,c1⟩:=QU x ok e.server;obtain⟨_,_,c2⟩:=Nm x ok e.server;obtain⟨_,_,c3⟩:=R2 x ok e.server;obtain⟨_,_,c4⟩:=R3 x ok e.server e.n;obtain⟨_,_,c5⟩:=Nn x ok e.n;unfold sF;refine .br (fun _=> .bind (Nw x ok _ _) fun y hy=> .ret hy) fun _=> .br (fun _=> .bind (P1 x ok _ _) fun n hn=> ?_) fun _=> .br (fun _=> .bind (yX x ok) fun y hy=> .ret hy) fun _=> .br (fun _=> .bind (Ny c1) fun y hy=> .ret hy) fun _=> .br (fun _=> .bind (Ny c2) fun y hy=> .ret hy) fun _=> .br (fun _=> .bind (Ny c3) fun y hy=> .ret hy) fun _=> .br (fun _=> .bind (Ny c4) fun y hy=> .ret hy) fun _=> .br (fun _=> .bind (Ny c5) fun y hy=> .ret hy) fun _=> .br (fun _=> .bind (PZ x ok _) fun y hy=> .ret hy) fun _=> .br (fun _=> .bind (Q3 x ok _ _ _) fun y hy=> .br (fun _=> .ret hy) fun _=> .ret hy) fun _=> .br (fun _=> .bind (Nt x ok _) fun y hy=> .ret hy) fun _=> .br (fun _=> .bind (I3 x ok _) fun y hy=> .ret hy) fun _=> .br (fun _=> .bind (Pv x ok _) fun y hy=> .ret hy) fun _=> .bind (Pu x ok _ _) fun y hy=> .ret hy;rw[dS];refine .br (fun _=> .bind (yY x ok _ hn) fun y hy=> .ret hy) fun _=> ?_;rw[(gp x ok).1];exact .ret (.self ok)
theorem Se (k:Int):Tt T1 (sg k):=by
 unfold sg
 repeat first |exact .ret trivial|refine .br (fun _=> ?_) fun _=> ?_
theorem Nz (e:fk):Tt T1 (lq e):=by
 unfold lq;simp only[gr,ae,tB];refine .br (fun _=> .ret trivial) fun _=> .br (fun _=> .ret trivial) fun _=> .br (fun _=> .ret trivial) fun _=> .br (fun _=> .ret trivial) fun _=> .bind (Se _) fun _ _=> ?_
 repeat first |exact .ret trivial|refine .br (fun _=> ?_) fun _=> ?_
theorem Le (x:dN) (ok:fj 1048576 x) (e:fk):Tt (fun y=>Kp x y.1) (qT x e):=by unfold qT;rw[(gp x ok).1];refine .bind (pC x ok) fun _ _=> .br (fun _=> .ret (Kp.self ok)) fun _=> .bind (Nz e) fun _ _=> .br (fun _=> .ret (Kp.self ok)) fun _=> .br (fun _=> .bind (Pr x ok _ _) fun y hy=> .ret hy) fun _=> .br (fun _=> ?_) fun _=> .bind (Sd x ok e) fun y hy=> .ret hy;exact .bind (Q:=fun y=>Kp x y.1) ⟨_,rfl,Kp.self ok⟩ fun y hy=> .bind (I0 x ok _ _) fun _ _=> .ret hy
theorem I5 (x:dN) (ok:fj 1048576 x) (l:List fk) (hl:l.length<=1048576):Tt (fun y=>Kp x y.1/\y.2.1.length<=l.length) (ph x l):=by
 have lm:=eC hl;unfold ph;rw[(gp x ok).1,ae];refine .bind (.count (B:=oY) (E:=fun e=> ∃ (c:dN) (r:List j8),Kp x c/\r.length<=l.length/\e=(((),(),(),()),(fz,fc c,()),r,c.servers,c.sides,c.master.configs,c.places,())) l.length (fun k (b:dN×List j8)=>((l,(),(),(),(k:Int),()),(fz,fc b.1,()),b.2,b.1.servers,b.1.sides,b.1.master.configs,b.1.places,())) (fun k b=>Kp x b.1/\b.2.length<=k) (fun b hb=> .end (aW _) (.ret ⟨b.1,b.2,hb.1,hb.2,rfl⟩)) (fun k b hk hb=> .go (aG.2 hk) (.br (fun _=> .ip (aw k) (.get (tn hk) fun e _ _=> .bind (Le b.1 hb.1.1 e) fun y hy=> .ip ?_ (.ret ⟨(y.1,b.2++ [y.2.1]),by rw[dV lm hk],hb.1.trans hy,?_⟩))) fun _=> .ret ⟨b.1,b.2,hb.1,by omega,rfl⟩)) (x,[]) ⟨.self ok,aq _⟩) ?_
 ·show (b.2++ [y.2.1]).length*32<=2 ^ 40;rw[aA,az];omega
 ·rw[aA,az];omega
 ·rintro _ ⟨c,r,hc,hr,rfl⟩
  exact .ret ⟨hc,hr⟩
end Go.Proofs.YtadabkgmdllbfaaGreat.En
