/- Plain laws. -/
import Derived.Test.YtadabkgmdllbfabGreatZBX
namespace Go.Proofs.YtadabkgmdllbfabGreat.En
open Go
def gb [dY] (c:gE):Prop:= ∃l,rn c.b=some l/\l.length<=maxLen/\(∀m∈l,0<=m/\m<=255)/\0<=c.i/\c.i<=c.b.n
def Dn [dY] {α:Type} (Q:α->Prop) (r:Option (List gE×α)):Prop:= ∃c a,r=some ([c],a)/\gb c/\Q a
section
variable [dY] {α β:Type} {Q:α->Prop} {Q':β->Prop}
theorem Dn.ret {c:gE} {a:α} (hc:gb c) (h:Q a):Dn Q (some ([c],a)):=⟨c,a,rfl,hc,h⟩
theorem Dn.bind {r:Option (List gE×α)} {k:List gE×α->Option (List gE×β)} (h:Dn Q r) (hk: ∀c a,gb c->Q a->Dn Q' (k ([c],a))):Dn Q' (r.bind k):=by obtain⟨c,a,rfl,h1,h2⟩:=h;exact hk c a h1 h2
theorem Dn.mono {Q2:α->Prop} {r:Option (List gE×α)} (h:Dn Q r) (hq: ∀a,Q a->Q2 a):Dn Q2 r:=by obtain⟨c,a,h1,h2,h3⟩:=h;exact⟨c,a,h1,h2,hq a h3⟩
theorem Dn.iteP {p:Prop} [Decidable p] {x y:Option (List gE×α)} (hp:p) (h:Dn Q x):Dn Q (iteP p x y):=by rw[gA hp];exact h
theorem Dn.br {b:Bool} {x y:Option (List gE×α)} (h1:b=true->Dn Q x) (h2:b=false->Dn Q y):Dn Q (br b x y):=by
 cases b with
 |true=>exact h1 rfl
 |false=>exact h2 rfl
theorem Dn.get {γ:Type} {l:List γ} {i:Nat} {k:γ->Option (List gE×α)} (hi:i<l.length) (h: ∀x∈l,Dn Q (k x)):Dn Q ((l[i]?).bind k):=by rw[ah hi];exact h _ (ba hi)
end
theorem Iw (x:Int):0<=bits .and .i64 x 255/\bits .and .i64 x 255<=255:=by
 have h: (BitVec.ofInt 64 x&&& BitVec.ofInt 64 255).toNat<=255:=by rw[BitVec.toNat_and];exact Nat.and_le_right
 show 0<=IntKind.wrap .i64 _/\IntKind.wrap .i64 _<=255;have e:IntKind.wrap .i64 ((BitVec.ofInt 64 x&&& BitVec.ofInt 64 255).toNat:Int)=((BitVec.ofInt 64 x&&& BitVec.ofInt 64 255).toNat:Int):=ff (by omega) (by omega);have e2:bits .and .i64 x 255=IntKind.wrap .i64 ((BitVec.ofInt 64 x&&& BitVec.ofInt 64 255).toNat:Int):=rfl;rw[<-e2] at e;constructor
 ·show 0<=bits .and .i64 x 255;omega
 ·show bits .and .i64 x 255<=255;omega
theorem K8 {x n:Int} (hx:0<=x) (hn:0<n):0<=x.tmod n/\x.tmod n<n:=⟨Int.tmod_nonneg _ hx,Int.tmod_lt_of_pos _ hn⟩
section
variable [dY]
theorem Sd {x:Hd} {l:List Int} (h:rn x=some l) (hl:l.length<=maxLen) (hb: ∀m∈l,0<=m/\m<=255):Dn (fun _:Unit=>True) (FT x):=by unfold FT FS;rw[h];exact⟨_,(),rfl,⟨l,h,hl,hb,bQ _,ax _⟩,trivial⟩
theorem yW {c:gE} (h:gb c):Dn (fun y:Int×Unit=>0<=y.1/\y.1<=255) (tp [c]):=by
 obtain⟨l,h1,h2,h3,h4,h5⟩:=h;show Dn _ ((ww c).map fun y=>([y.1],y.2,()));unfold ww;have hlen:=(xJ h1).1;by_cases hi:c.i< (c.b.n:Int)
 ·rw[if_pos hi,if_pos h4,h1,ae,ah (by omega)];refine⟨_,_,rfl,⟨l,h1,h2,h3,?_,?_⟩,Iw _⟩
  ·show 0<=RowKit.wrap64 (c.i+1);unfold RowKit.wrap64;simp only[maxLen] at h2;omega
  ·show RowKit.wrap64 (c.i+1)<=c.b.n;unfold RowKit.wrap64;simp only[maxLen] at h2;omega
 ·rw[if_neg hi];exact⟨_,_,rfl,⟨l,h1,h2,h3,h4,h5⟩,Iw _⟩
theorem gX {c:gE} (h:gb c) (n:Int):Dn (fun y:Int×Unit=>0<=y.1/\(y.1<n\/n<=0/\y.1=0)) (ew [c] n):=by
 unfold ew;refine .br (fun hn=> .ret h ⟨bQ _, .inr ⟨of_decide_eq_true hn,rfl⟩⟩) fun hn=> ?_;have hn:=of_decide_eq_false hn;refine .br (fun _=> .bind (yW h) fun c1 y h1 hy=> .iteP rfl ?_) fun _=> .bind (yW h) fun c1 y h1 hy=> .iteP rfl (.bind (yW h1) fun c2 y2 h2 hy2=> .iteP rfl (.bind (yW h2) fun c3 y3 h3 hy3=> .iteP rfl (.bind (yW h3) fun c4 y4 h4 hy4=> .iteP rfl ?_)))
 ·rw[H2 (by omega)];have:=K8 hy.1 (show 0<n by omega);exact .ret h1 ⟨this.1, .inl this.2⟩
 ·rw[H2 (by omega)];simp only;rw[ff (n:=y.1*16777216) (by omega) (by omega),ff (n:=y2.1*65536) (by omega) (by omega),ff (n:=y3.1*256) (by omega) (by omega),ff (n:=y.1*16777216+y2.1*65536) (by omega) (by omega),ff (n:=y.1*16777216+y2.1*65536+y3.1*256) (by omega) (by omega),ff (n:=y.1*16777216+y2.1*65536+y3.1*256+y4.1) (by omega) (by omega)];have:=K8 (show 0<=y.1*16777216+y2.1*65536+y3.1*256+y4.1 by omega) (show 0<n by omega);exact .ret h4 ⟨this.1, .inl this.2⟩
theorem nj {c:gE} (h:gb c) {n:Int} (hn:0<n):Dn (fun y:Int×Unit=>0<=y.1/\y.1<n) (ew [c] n):=(gX h n).mono fun y hy=>⟨hy.1,by omega⟩
theorem lg {c:gE} (h:gb c) (n:Int):Dn (fun _:Bool×Unit=>True) (gU [c] n):=by unfold gU;exact .bind (gX h n) fun c1 y h1 hy=> .iteP rfl (.ret h1 trivial)
theorem iX {c:gE} (h:gb c) {l:List Int} (hl:l≠ []):Dn (fun y:Int×Unit=>y.1∈l) (eI [c] l):=by unfold eI;have h0:0<l.length:=List.length_pos_iff.2 hl;refine .bind (nj h (show 0< (l.length:Int) by omega)) fun c1 y h1 hy=> .iteP rfl (.iteP hy.1 (.get (by show y.1.toNat<l.length; have:=hy.1; have:=hy.2; omega) fun x hx=> .ret h1 hx))
theorem Ix {c:gE} (h:gb c):Dn (fun _:Op×Unit=>True) (sP [c]):=by
 unfold sP
 repeat first |exact .ret (by assumption) trivial|refine .iteP rfl ?_|refine .br (fun _=> ?_) fun _=> ?_|refine .bind (gX (by assumption) _) fun _ _ _ _=> ?_|refine .bind (lg (by assumption) _) fun _ _ _ _=> ?_|refine .bind (iX (by assumption) (by simp)) fun _ _ _ _=> ?_
theorem Ok {c:gE} (h:gb c):Dn (fun _:fo×Unit=>True) (vK [c]):=by
 unfold vK;dsimp only
 repeat first |exact .ret (by assumption) trivial|refine .iteP rfl ?_|refine .br (fun _=> ?_) fun _=> ?_|refine .bind (gX (by assumption) _) fun _ _ _ _=> ?_|refine .bind (lg (by assumption) _) fun _ _ _ _=> ?_|refine .bind (iX (by assumption) (by simp)) fun _ _ _ _=> ?_
theorem Ol {c:gE} (h:gb c):Dn (fun _:fM×Unit=>True) (rp [c]):=by
 unfold rp;dsimp only
 repeat first |exact .ret (by assumption) trivial|refine .iteP rfl ?_|refine .br (fun _=> ?_) fun _=> ?_|refine .bind (gX (by assumption) _) fun _ _ _ _=> ?_|refine .bind (lg (by assumption) _) fun _ _ _ _=> ?_|refine .bind (iX (by assumption) (by simp)) fun _ _ _ _=> ?_|refine .bind (Ix (by assumption)) fun _ _ _ _=> ?_
def Ro {σ ε:Type} (I:σ->Prop) (E:ε->Prop) (r:Option (σ⊕ε)):Prop:=(∃s,r=some (.inl s)/\I s)\/ ∃e,r=some (.inr e)/\E e
section
variable {σ ε α:Type} {I:σ->Prop} {E:ε->Prop} {Q:α->Prop}
omit [dY] in
theorem Ro.again {s:σ} (h:I s):Ro I E (some (.inl s)):= .inl ⟨s,rfl,h⟩
omit [dY] in
theorem Ro.done {e:ε} (h:E e):Ro I E (some (.inr e)):= .inr ⟨e,rfl,h⟩
omit [dY] in
theorem Ro.iteP {p:Prop} [Decidable p] {x y:Option (σ⊕ε)} (hp:p) (h:Ro I E x):Ro I E (iteP p x y):=by rw[gA hp];exact h
omit [dY] in
theorem Ro.br {b:Bool} {x y:Option (σ⊕ε)} (h1:b=true->Ro I E x) (h2:b=false->Ro I E y):Ro I E (br b x y):=by
 cases b with
 |true=>exact h1 rfl
 |false=>exact h2 rfl
theorem Ro.draw {r:Option (List gE×α)} {k:List gE×α->Option (σ⊕ε)} (h:Dn Q r) (hk: ∀c a,gb c->Q a->Ro I E (k ([c],a))):Ro I E (r.bind k):=by obtain⟨c,a,rfl,h1,h2⟩:=h;exact hk c a h1 h2
omit [dY] in
theorem Gp {B:σ->Option (σ⊕ε)} (μ:σ->Nat) (h: ∀s,I s->Ro (fun s'=>I s'/\μ s'<μ s) E (B s)) {s:σ} (hs:I s): ∃e,ii B s=some e/\E e:=
 sq I μ E (fun s hs=>(h s hs).imp (fun ⟨s',a,b,c⟩=>⟨s',a,b,c⟩) id) hs
end
theorem Iy {c:gE} (h:gb c) {n:Int} (h0:0<=n) {evs:List fM} {M:Nat} (hM:evs.length+n.toNat<=M) (hM2:M<=1000):Dn (fun y:List fM×Unit=>y.1.length<=M) ((pp (((),(),n,()),(()),[c],evs,())).bind fun e=>some e.2.2):=by
 unfold pp
 obtain⟨⟨_,_,l,ps,_⟩,h1,c2,rfl,h2,h3⟩:=Gp (B:=mL) (I:=fun s=> ∃c,s.2.2.1= [c] /\gb c/\0<=s.1.2.2.1/\s.2.2.2.1.length+s.1.2.2.1.toNat<=M) (E:=fun e=> ∃c,e.2.2.1= [c] /\gb c/\e.2.2.2.1.length<=M) (fun s=>s.1.2.2.1.toNat) (by
  rintro⟨⟨_,_,k,_⟩,_,l,ps,_⟩ ⟨c,rfl,hc,h0,h1⟩
  simp only at h0 h1;unfold mL;refine .br (fun hk=> ?_) fun hk=> .done ⟨c,rfl,hc,by show ps.length<=M; omega⟩;have hk:k>0:=of_decide_eq_true hk;have e:IntKind.wrap .i64 (k-1)=k-1:=ff (by omega) (by omega)
  have gO: ∀ (c:gE) (x:fM),gb c->Ro (fun s': (Unit×Unit×Int×Unit)×Unit×List gE×List fM×Unit=>(∃c,s'.2.2.1= [c] /\gb c/\0<=s'.1.2.2.1/\s'.2.2.2.1.length+s'.1.2.2.1.toNat<=M)/\s'.1.2.2.1.toNat<k.toNat) (fun e: (Unit×Unit)×Unit×List gE×List fM×Unit=> ∃c,e.2.2.1= [c] /\gb c/\e.2.2.2.1.length<=M) (iteP ((ps++ [x]).length*80<=2 ^ 40) (some (.inl (((),(),IntKind.wrap .i64 (k-1),()),(()),[c],ps++ [x],()))) none):=fun c x hc=>by refine .iteP (by simp only[az,aB]; omega) (.again ?_);simp only[e];exact⟨⟨c,rfl,hc,by omega,by simp only[az,aB]; omega⟩,by omega⟩
  refine .draw (Ol hc) fun c1 _ h1 _=> .iteP rfl (.br (fun _=> .draw (lg h1 _) fun c2 _ h2 _=> .iteP rfl (.br (fun _=> .draw (iX h2 (by simp)) fun c3 _ h3 _=> .iteP rfl (gO _ _ h3)) fun _=>gO _ _ h2)) fun _=>gO _ _ h1)) (s:=(((),(),n,()),(()),[c],evs,())) ⟨c,rfl,h,h0,hM⟩
 rw[h1];exact⟨c2,_,rfl,h2,h3⟩
theorem Mm {c:gE} (h:gb c) {n:Int} (h0:0<=n) (hn:n<=100):Dn (fun y:List fM×Unit=>y.1.length<=200) (pN [c] n):=by
 unfold pN;rw[ff (n:=n+1) (by omega) (by omega)];refine .bind (gX h _) fun c1 _ h1 _=> .iteP rfl (.bind (gX h1 _) fun c2 _ h2 _=> .iteP rfl (.bind (lg h2 _) fun c3 _ h3 _=> .iteP rfl (.br (fun _=> ?_) fun _=> ?_)))
 ·exact .bind (nj h3 (by omega)) fun c4 y h4 hy=> .iteP rfl (Iy h4 hy.1 (by have:=hy.2; simp only[bB,cd]; omega) (by omega))
 ·exact .bind (nj h3 (by omega)) fun c4 y h4 hy=> .iteP rfl (Iy h4 hy.1 (by have:=hy.2; simp only[bB,cd]; omega) (by omega))
theorem Om {c:gE} (h:gb c):Dn (fun y:List Int×Unit=>y.1.length=5) (rN [c]):=by
 unfold rN yK
 obtain⟨⟨_,_,l,ps,_⟩,h1,c2,rfl,h2,h3⟩:=Gp (B:=oI) (I:=fun s=> ∃c,s.2.2.1= [c] /\gb c/\0<=s.1.2.2.1/\s.1.2.2.1<=5/\(s.2.2.2.1.length:Int)=s.1.2.2.1) (E:=fun e=> ∃c,e.2.2.1= [c] /\gb c/\e.2.2.2.1.length=5) (fun s=>(5-s.1.2.2.1).toNat) (by
  rintro⟨⟨_,_,k,_⟩,_,l,ps,_⟩ ⟨c,rfl,hc,h0,h1,h2⟩
  simp only at h0 h1 h2;unfold oI;refine .br (fun hk=> ?_) fun hk=> .done ⟨c,rfl,hc,by have : ¬k<5:=of_decide_eq_false hk; show ps.length=5; omega⟩;have hk:k<5:=of_decide_eq_true hk;refine .draw (iX hc (by simp)) fun c1 _ h1 _=> .iteP rfl (.iteP (by simp only[az,aB]; omega) (.again ?_));simp only;rw[ff (n:=k+1) (by omega) (by omega)];exact⟨⟨c1,rfl,h1,by omega,by omega,by simp only[az,aB]; omega⟩,by omega⟩) (s:=(((),(),0,()),(()),[c],([]:List Int),())) ⟨c,rfl,h,bQ _,by simp,by simp⟩
 rw[h1];exact⟨c2,_,rfl,h2,h3⟩
theorem Oo {c:gE} (h:gb c):Dn (fun y:List ek×Unit=>y.1.length<=6) (wB [c]):=by
 unfold wB;refine .bind (nj h (by decide)) fun c0 y0 hc0 hy0=> .iteP rfl ?_;unfold E0
 obtain⟨⟨_,_,l,ps,_⟩,h1,c2,rfl,h2,h3⟩:=Gp (B:=tR) (I:=fun s=> ∃c,s.2.2.1= [c] /\gb c/\0<=s.1.2.2.2.1/\s.2.2.2.1.length+s.1.2.2.2.1.toNat<=6) (E:=fun e=> ∃c,e.2.2.1= [c] /\gb c/\e.2.2.2.1.length<=6) (fun s=>s.1.2.2.2.1.toNat) (by
  rintro⟨⟨_,_,g,k,_⟩,_,l,ps,_⟩ ⟨c,rfl,hc,h0,h1⟩
  simp only at h0 h1;unfold tR;refine .br (fun hk=> ?_) fun hk=> .done ⟨c,rfl,hc,by show ps.length<=6; omega⟩;have hk:k>0:=of_decide_eq_true hk;have e:IntKind.wrap .i64 (k-1)=k-1:=ff (by omega) (by omega);refine .draw (lg hc _) fun c1 _ h1 _=> .iteP rfl (.br (fun _=> .draw (Ix h1) fun c2 _ h2 _=> .iteP rfl (.iteP (by simp only[az,aB]; omega) (.again ?_))) fun _=> .draw (Ix h1) fun c2 _ h2 _=> .iteP rfl (.iteP (by simp only[az,aB]; omega) (.again ?_)))
  all_goals
   simp only[e];exact⟨⟨c2,rfl,h2,by omega,by simp only[az,aB]; omega⟩,by omega⟩) (s:=(((),(),1,y0.1,()),(()),[c0],([]:List ek),())) ⟨c0,rfl,hc0,hy0.1,by have:=hy0.2; simp; omega⟩
 rw[h1];exact⟨c2,_,rfl,h2,h3⟩
theorem Oq {c:gE} (h:gb c):Dn (fun _:Op×Unit=>True) (yM [c]):=by
 unfold yM;refine .bind (Ix h) fun _ _ _ _=> ?_
 repeat first |exact .ret (by assumption) trivial|refine .iteP rfl ?_|refine .br (fun _=> ?_) fun _=> ?_|refine .bind (gX (by assumption) _) fun _ _ _ _=> ?_|refine .bind (lg (by assumption) _) fun _ _ _ _=> ?_|refine .bind (iX (by assumption) (by simp)) fun _ _ _ _=> ?_
theorem Mn {c:gE} (h:gb c):Dn (fun y:List ek×Unit=>y.1.length<=17) (yN [c]):=by
 unfold yN;refine .bind (Oo h) fun c1 y h1 hy=> .iteP rfl (.bind (gX h1 _) fun c2 _ h2 _=> .iteP rfl (.br (fun _=> ?_) fun _=> .br (fun _=> ?_) fun _=> .ret h2 (by show y.1.length<=17; omega)))
 ·refine .bind (iX h2 (by simp)) fun c3 _ h3 _=> .iteP rfl (.bind (Oq h3) fun c4 z h4 _=> .iteP rfl ?_);have e: ∀x:ek,(y.1++ [x]).length<=17:=fun x=>by simp only[az,aB]; omega
  exact .iteP (aO (bo _ (e _)) (by decide)) (.ret h4 (e _))
 ·unfold E4
  obtain⟨⟨_,_,l,ps,_⟩,h1,c2,rfl,h2,h3⟩:=Gp (B:=qR) (I:=fun s=> ∃c,s.2.2.1= [c] /\gb c/\s.2.2.2.1.length<=17) (E:=fun e=> ∃c,e.2.2.1= [c] /\gb c/\e.2.2.2.1.length<=17) (fun s=>17-s.2.2.2.1.length) (by
   rintro⟨⟨_,_,_⟩,_,l,ps,_⟩ ⟨c,rfl,hc,h0⟩
   simp only at h0;unfold qR;refine .br (fun hk=> ?_) fun hk=> .done ⟨c,rfl,hc,h0⟩;have hk: (ps.length:Int)<17:=of_decide_eq_true hk;refine .draw (Ix hc) fun c1 _ h1 _=> .iteP rfl (.iteP (by simp only[az,aB]; omega) (.again ?_));exact⟨⟨c1,rfl,h1,by simp only[az,aB]; omega⟩,by simp only[az,aB]; omega⟩) (s:=(((),(),()),(()),[c2],y.1,())) ⟨c2,rfl,h2,by show y.1.length<=17; omega⟩
  show Dn _ ((ii qR (((),(),()),(()),[_],y.1,())).bind _);rw[h1];exact⟨c2,_,rfl,h2,h3⟩
end
end Go.Proofs.YtadabkgmdllbfabGreat.En
namespace Go.Proofs.YtadabkgmdllbfabGreat.En
open Go
def iu (M:Nat) (c:ed):Prop:=c.replicas.length<=M/\c.witnesses.length<=M
def fX (M:Nat) (s:dZ):Prop:=iu M s.config/\s.log.length<=M/\s.learned.length<=M
def sb (M:Nat) (m:eh):Prop:=m.configs.length<=M/\ ∀c∈m.configs,iu M c
def ft (M:Nat) (c:dX):Prop:=(c.servers.length<=M/\ ∀s∈c.servers,fX M s)/\c.sides.length<=M/\sb M c.master/\c.places.length<=M
theorem eS {n:Nat} (h:n<=1048576):n<=maxLen:=by unfold maxLen; omega
end Go.Proofs.YtadabkgmdllbfabGreat.En
namespace Go.Proofs.YtadabkgmdllbfabGreat.En
open Go
theorem lh {ρ:Type} (a b:Int) (x y:ρ):br (a==b) x y=if a=b then x else y:=by rw[R0];by_cases h:a=b<;>simp[h]
theorem ef {ρ:Type} (b:Bool) (x y:ρ):br (!b) x y=br b y x:=by cases b<;>rfl
def j8 (x a b:Int):Bool:=decide (a<=x)&&decide (x<=b)
theorem gF (x a b:Int):eE x a b=some (j8 x a b,()):=by unfold eE j8;rw[ei];split<;>rename_i h<;>simp[h]
theorem qm (x a b:Int):eP x a b=some (j8 x a b,()):=by unfold eP j8;rw[ei];split<;>rename_i h<;>simp[h]
theorem eL {x a b:Int}:j8 x a b=true↔a<=x/\x<=b:=by simp[j8]
def sa (l:List Int):Prop:= ∀k (h:k<l.length),(0<=l[k] /\l[k] <=4)/\ ∀_:0<k,l[k-1]'(by omega)<l[k]
theorem uz (l:List Int) (hl:l.length<=maxLen): (gJ l=some (true,())/\jf l=some (true,())/\sa l)\/(gJ l=some (false,())/\jf l=some (false,())):=by
 have gO:=oc (B1:=il) (B2:=ir) l.length (fun k=>((l,(k:Int),()),(),())) (fun k=>((l,l,(l.length:Int),(k:Int),()),(),())) (.inr (((),()),(),())) (.inr (((),()),(),())) (fun _=> .inl ((false,()),(),())) (fun _=> .inl ((false,()),(),()))
  (fun k=> ∀h:k<l.length,(0<=l[k] /\l[k] <=4)/\ ∀_:0<k,l[k-1]'(by omega)<l[k]) (fun _=>True)
  (by simp only[il]; rw[ei,if_neg (by omega)])
  (by simp only[ir]; rw[ei,if_neg (by omega)])
  (fun k hk=>by
    have c1: (k:Int)< (l.length:Int):=by omega
    have c2: (0:Int)<=(k:Int):=by omega
    have e1:l[k]? =some l[k] :=ah hk;simp only[il,ir,ei,en,if_pos c1,if_pos c2,aw,e1,ae,gF,qm];cases hw:j8 l[k] 0 4 with
    |false=>exact .inr ⟨rfl,rfl,trivial⟩
    |true=>
     simp only[bC,eJ];have hw:=eL.1 hw;by_cases h0:0<k
     ·have c3: (k:Int)>0:=by omega
      have c4: (0:Int)<=((k-1:Nat):Int):=by omega
      have e2:l[k-1]? =some l[k-1] :=ah (by omega);simp only[if_pos c3,ku h0 (by omega),if_pos c4,aw,e2,ae];by_cases hlt:l[k-1]<l[k]
      ·rw[if_neg (by omega),if_neg (by omega),ec hl hk];exact .inl ⟨rfl,rfl,fun _=>⟨hw,fun _=>hlt⟩⟩
      ·rw[if_pos (by omega),if_pos (by omega)];exact .inr ⟨rfl,rfl,trivial⟩
     ·rw[if_neg (by omega),if_neg (by omega),ec hl hk];exact .inl ⟨rfl,rfl,fun _=>⟨hw,fun h=>absurd h h0⟩⟩)
 unfold gJ jf;rcases gO with ⟨k1,k2,k3⟩| ⟨k,_,k1,k2,_⟩
 ·rw[show og ((l,0,()),(),())=_ from k1,show oM ((l,l,(l.length:Int),0,()),(),())=_ from k2];exact .inl ⟨rfl,rfl,fun k hk=>k3 k hk hk⟩
 ·rw[show og ((l,0,()),(),())=_ from k1,show oM ((l,l,(l.length:Int),0,()),(),())=_ from k2];exact .inr ⟨rfl,rfl⟩
theorem sa.lt {l:List Int} (h:sa l): ∀ (d i:Nat) (h2:i+d+1<l.length),l[i]'(by omega)<l[i+d+1] :=by
 intro d
 induction d with
 |zero=>intro i h2;exact (h (i+1) h2).2 (by omega)
 |succ d ih=>intro i h2;have h1:=ih i (by omega);have h3:=(h (i+d+1+1) h2).2 (by omega);exact Int.lt_trans h1 h3
theorem sa.pair {l:List Int} (h:sa l):l.Pairwise (· < ·):=by rw[bE];intro i j hi hj hij;have:=h.lt (j-i-1) i (by omega);simpa [show i+(j-i-1)+1=j by omega] using this
theorem sa.len {l:List Int} (h:sa l):l.length<=5:=by
 have ge: ∀k (hk:k<l.length),(k:Int)<=l[k] :=by
  intro k
  induction k with
  |zero=>intro hk; exact (h 0 hk).1.1
  |succ k ih=>intro hk;have h1:=ih (by omega);have h2:=(h (k+1) hk).2 (by omega);simp only[bZ] at h2;omega
 rcases cW 5 l.length with hlt|hge
 ·have h1:=ge 5 hlt;have h2:=(h 5 hlt).1.2;omega
 ·exact hge
theorem fm (l:List Int) (x:Int) (hl:l.length<=maxLen):fB l x=some (decide (x∈l),())/\kQ l x=some (decide (x∈l),()):=by
 have gO:=oc (B1:=lD) (B2:=kI) l.length (fun k=>((l,x,(k:Int),()),(),())) (fun k=>((l,x,(l.length:Int),(k:Int),()),(),())) (.inr (((),()),(),())) (.inr (((),()),(),())) (fun _=> .inl ((true,()),(),())) (fun k=> .inl (((k:Int),()),(),()))
  (fun k=>l[k]? ≠some x) (fun k=>l[k]? =some x)
  (by simp only[lD]; rw[ei,if_neg (by omega)])
  (by simp only[kI]; rw[ei,if_neg (by omega)])
  (fun k hk=>by
    have c1: (k:Int)< (l.length:Int):=by omega
    have c2: (0:Int)<=(k:Int):=by omega
    have e1:l[k]? =some l[k] :=ah hk;simp only[lD,kI,ei,en,if_pos c1,if_pos c2,aw,e1,ae,ec hl hk,lh];by_cases he:l[k] =x
    ·rw[if_pos he,if_pos he.symm,he];exact .inr ⟨rfl,rfl,rfl⟩
    ·rw[if_neg he,if_neg (fun h=>he h.symm)];exact .inl ⟨rfl,rfl,fun h=>he (Option.some.inj h)⟩)
 unfold fB kQ ni qL;rcases gO with ⟨k1,k2,k3⟩| ⟨k,hk,k1,k2,k3⟩
 ·rw[show sQ ((l,x,0,()),(),())=_ from k1,show rO ((l,x,(l.length:Int),0,()),(),())=_ from k2]
  have hn:x∉l:=fun h=>by obtain⟨k,hk,he⟩:=aJ h;exact k3 k hk (by rw[ah hk,he])
  rw[decide_eq_false hn];exact⟨rfl,rfl⟩
 ·rw[show sQ ((l,x,0,()),(),())=_ from k1,show rO ((l,x,(l.length:Int),0,()),(),())=_ from k2];rw[decide_eq_true (au k3)];refine⟨rfl,?_⟩;simp only[ae,cZ];rw[decide_eq_true (by omega)]
end Go.Proofs.YtadabkgmdllbfabGreat.En
namespace Go.Proofs.YtadabkgmdllbfabGreat.En
open Go
theorem lP {n:Nat} (h:n<=1048576):n*8<=2 ^ 40:=by
 have : (2:Nat) ^ 40=1099511627776:=by decide
 omega
theorem Gq (l:List Int) (x:Int) (hl:l.length<=1000) (h: ∀y∈l,y<x):kr l x=some (l++ [x],()):=by
 have hm:l.length<=maxLen:=by unfold maxLen; omega
 have gO:=lq (B:=mt) l (fun k (_:Unit)=>((l,x,(k:Int),()),(),())) (fun _ _=>True) (fun k r _=>((l,x,((k+r.length:Nat):Int),()),(),()))
  (fun b hb=>by simp only[mt];rw[ei,if_neg (by omega)];rfl)
  (fun k b y hy hb=>by
    have hk:=je hy;have c1: (k:Int)< (l.length:Int):=by omega
    have c2: (0:Int)<=(k:Int):=by omega
    refine .inl ⟨(),?_,trivial,?_⟩
    ·simp only[mt,ei,en,if_pos c1,if_pos c2,aw,hy,ae,if_pos (h y (au hy)),ec hm hk]
    ·rw[bB,show k+((l.drop (k+1)).length+1)=k+1+(l.drop (k+1)).length by omega])
  0 () (aA _) trivial
 unfold kr;rw[show zN ((l,x,0,()),(),())=_ from gO];simp only[ae,bP,aQ];have c0: ¬ ((l.length:Int)< (l.length:Int)):=by omega
 have d1: (0:Int)<=0/\(0:Int)<=(l.length:Int)/\(l.length:Int)<=(l.length:Int):=by omega
 have d2: (0:Int)<=(l.length:Int)/\(l.length:Int)<=(l.length:Int)/\(l.length:Int)<=(l.length:Int):=by omega
 simp only[ei,if_neg c0,en,if_pos d1,if_pos d2,aw,dS,bP,cY,dg,df,bT,bG,be];rw[if_pos (lP (by omega)),if_pos (lP (by simp; omega))];exact if_pos (lP (by simp; omega))
theorem yX (a b:List Int) (ha:sa a) (hb:b.length<=maxLen):iY a b=some (a.filter fun x=>decide (x∈b),()):=by
 have hl:=ha.len;have hm:a.length<=maxLen:=by unfold maxLen; omega
 have hp:=ha.pair
 have gO:=lq (B:=iU) a (fun k (out:List Int)=>((a,b,(),(k:Int),()),(),(out,()))) (fun k out=>out=(a.take k).filter fun x=>decide (x∈b)) (fun k r out=>(((),()),(),(out++r.filter fun x=>decide (x∈b),())))
  (fun out hb=>by simp only[iU];rw[ei,if_neg (by omega)];simp)
  (fun k out x hx hout=>by
    have hk:=je hx;have c1: (k:Int)< (a.length:Int):=by omega
    have c2: (0:Int)<=(k:Int):=by omega
    have hxe:a[k] =x:=by rw[ah hk] at hx; exact Option.some.inj hx
    simp only[iU,ei,en,if_pos c1,if_pos c2,aw,hx,ae,(fm b x hb).1,ec hm hk];by_cases hin:x∈b
    ·have hlt: ∀y∈out,y<x:=by
      intro y hy;rw[hout,cO] at hy;obtain⟨i,hi,he⟩:=aJ hy.1;have hi':i<k:=by simp at hi; omega
      rw[cR] at he;rw[<-he,<-hxe];exact bE.1 hp i k (by omega) hk hi'
     have hol:out.length<=1000:=by rw[hout];have:=dp (fun x=>decide (x∈b)) (a.take k);simp at this;omega
     simp only[if_pos hin,Gq out x hol hlt,ae];refine .inl ⟨out++ [x],rfl,?_,?_⟩
     ·rw[hout,bH,hx,cf];simp[hin]
     ·simp[hin]
    ·simp only[if_neg hin];refine .inl ⟨out,rfl,?_,?_⟩
     ·rw[hout,bH,hx,cf];simp[hin]
     ·simp[hin])
  0 [] (aA _) rfl
 unfold iY;rw[show sy ((a,b,(),0,()),(),([],()))=_ from gO];rfl
theorem Dt {n:Nat} (hn:n<=5): ∃m,vU (IntKind.wrap .u64 (n:Int))=some (m,()):=by
 have :n=0\/n=1\/n=2\/n=3\/n=4\/n=5:=by omega
 rcases this with rfl|rfl|rfl|rfl|rfl|rfl
 ·exact⟨0,by kernel_rfl⟩
 ·exact⟨1,by kernel_rfl⟩
 ·exact⟨2,by kernel_rfl⟩
 ·exact⟨2,by kernel_rfl⟩
 ·exact⟨3,by kernel_rfl⟩
 ·exact⟨3,by kernel_rfl⟩
theorem Mo (l:List Int) (ha:sa l):eZ l 0 (l.length:Int)=some (l,()):=by
 have hl:=ha.len;have hm:l.length<=maxLen:=by unfold maxLen; omega
 have inner: ∀k (hk:k<l.length),0<k->gp (((),0,(l.length:Int),(k:Int),(k:Int),()),(),(l,()))=some (((),0,(l.length:Int),(k:Int),()),(),(l,())):=by
  intro k hk h0;refine i6 ?_;have c1: (k:Int)>0:=by omega
  have c2: (0:Int)<=(k:Int)/\(k:Int)< (l.length:Int):=by omega
  have c3: (0:Int)<=((k-1:Nat):Int)/\((k-1:Nat):Int)< (l.length:Int):=by omega
  have e1:l[k]? =some l[k] :=ah hk;have e2:l[k-1]? =some l[k-1] :=ah (by omega);have hlt:=(ha k hk).2 h0
  have less:lc l[k] l[k-1] =some (false,()):=by unfold lc lI;simp only[beq_self_eq_true,bC,ae,eJ];rw[decide_eq_false (by omega)]
  simp only[eW,ei,en,if_pos c1,if_pos c2,ku h0 (by omega),if_pos c3,aw,e1,e2,ae,less,eJ]
 have outer:=sq (B:=eC) (fun s=> ∃k:Nat,0<k/\s=(((),0,(l.length:Int),(k:Int),()),(),(l,()))) (fun s=>l.length-s.1.2.2.2.1.toNat) (fun e=>e=((()),(),(l,())))
  (fun s hs=>by
    obtain⟨k,h0,rfl⟩:=hs;by_cases hk:k<l.length
    ·have c1: (k:Int)< (l.length:Int):=by omega
     refine .inl ⟨(((),0,(l.length:Int),((k+1:Nat):Int),()),(),(l,())),?_,⟨k+1,by omega,rfl⟩,?_⟩
     ·simp only[eC,ei,if_pos c1,inner k hk h0,ae,ec hm hk]
     ·simp only[aw];omega
    ·have c1: ¬ (k:Int)< (l.length:Int):=by omega
     exact .inr ⟨_,by simp only[eC,ei,if_neg c1],rfl⟩)
  (s:=(((),0,(l.length:Int),((1:Nat):Int),()),(),(l,()))) ⟨1,by omega,rfl⟩
 obtain⟨e,h1,rfl⟩:=outer;unfold eZ;rw[show IntKind.wrap .i64 ((0:Int)+1)=((1:Nat):Int) from by rw[ff (by omega) (by omega)]; rfl,show gq (((),0,(l.length:Int),((1:Nat):Int),()),(),(l,()))=_ from h1];rfl
theorem Ot (l:List Int) (ha:sa l):jD l=some (l,()):=by
 have hl:=ha.len;obtain⟨m,hm⟩:=Dt hl
 have hp:fJ l 0 (l.length:Int) m=some (l,()):=by
  unfold fJ
  have :jC (((),0,(l.length:Int),m,true,true,()),(),(l,()))=some ((()),(),(l,())):=by refine i6 ?_;simp only[gD];rw[ff (by omega) (by omega),ei,if_pos (by omega),Mo l ha,ae,gA rfl]
  rw[this];rfl
 unfold jD;simp only[hm,ae,hp];exact gA trivial _ _
theorem Iz (l:List Int) (ha:sa l):it l=some (l,()):=by
 have hl:=ha.len;have hm:l.length<=maxLen:=by unfold maxLen; omega
 unfold it;rw[ei];split
 ·rfl
 ·have gO:=sq (B:=fv) (fun s=> ∃k:Nat,0<k/\k<=l.length/\s=(((),(k:Int),()),(),(l,()))) (fun s=>l.length-s.1.2.1.toNat) (fun e=>e= .inr (((),(),()),(),(l,())))
   (fun s hs=>by
     obtain⟨k,h0,hkl,rfl⟩:=hs;by_cases hk:k<l.length
     ·have c1: (k:Int)< (l.length:Int):=by omega
      have c2: (0:Int)<=(k:Int)/\(k:Int)< (l.length:Int):=by omega
      have c3: (0:Int)<=((k-1:Nat):Int)/\((k-1:Nat):Int)< (l.length:Int):=by omega
      have e1:l[k]? =some l[k] :=ah hk;have e2:l[k-1]? =some l[k-1] :=ah (by omega);have hlt:=(ha k hk).2 h0;refine .inl ⟨(((),((k+1:Nat):Int),()),(),(l,())),?_,⟨k+1,by omega,by omega,rfl⟩,?_⟩
      ·simp only[fv,ei,en,if_pos c1,if_pos c2,ku h0 (by omega),if_pos c3,aw,e1,e2,ae,lh,ec hm hk];rw[if_neg (by omega)]
      ·simp only[aw];omega
     ·have c1: ¬ (k:Int)< (l.length:Int):=by omega
      exact .inr ⟨_,by simp only[fv,ei,if_neg c1],rfl⟩)
   (s:=(((),((1:Nat):Int),()),(),(l,()))) ⟨1,by omega,by omega,rfl⟩
  obtain⟨e,h1,rfl⟩:=gO;rw[show mF (((),1,()),(),(l,()))=_ from h1];rfl
theorem Mp (l:List Int) (ha:sa l):kR l=some (l,()):=by have hl:=ha.len;unfold kR k9;rw[gA (lP (by omega)),ae,Ot l ha,ae,gA rfl,Iz l ha];rfl
end Go.Proofs.YtadabkgmdllbfabGreat.En
namespace Go.Proofs.YtadabkgmdllbfabGreat.En
open Go
theorem vX {σ ε:Type} {B:σ->Option (σ⊕ε)} (n:Nat) (m:Nat->σ) (t:ε) (f:Nat->ε) (p:Nat->Bool) (h0:B (m n)=some (.inr t)) (h: ∀k,k<n->B (m k)=some (if p k=true then .inr (f k) else .inl (m (k+1)))):
  (ii B (m 0)=some t/\ ∀k,k<n->p k=false)\/ ∃k,k<n/\ii B (m 0)=some (f k)/\p k=true/\ ∀j,j<k->p j=false:=by
 have gO: ∀d j,j+d=n->(ii B (m j)=some t/\ ∀k,j<=k->k<n->p k=false)\/ ∃k,k<n/\ii B (m j)=some (f k)/\p k=true/\ ∀i,j<=i->i<k->p i=false:=by
  intro d
  induction d with
  |zero=>
   intro j hj;have :j=n:=by omega
   subst this;exact .inl ⟨i6 h0,fun k a b=>by omega⟩
  |succ d ih=>
   intro j hj;have h1:=h j (by omega);cases hp:p j with
   |true=>rw[hp,if_pos rfl] at h1;exact .inr ⟨j,by omega,i6 h1,hp,fun i a b=>by omega⟩
   |false=>
    rw[hp,if_neg (by simp)] at h1;rw[rk h1];rcases ih (j+1) (by omega) with ⟨k1,k2⟩| ⟨k,k0,k1,k2,k3⟩
    ·refine .inl ⟨k1,fun k a b=> ?_⟩;rcases dW a with rfl|a
     ·exact hp
     ·exact k2 k a b
    ·refine .inr ⟨k,k0,k1,k2,fun i a b=> ?_⟩;rcases dW a with rfl|a
     ·exact hp
     ·exact k3 i a b
 rcases gO n 0 (by omega) with ⟨a,b⟩| ⟨k,a,b,c,d⟩
 ·exact .inl ⟨a,fun k hk=>b k (aA _) hk⟩
 ·exact .inr ⟨k,a,b,c,fun j hj=>d j (aA _) hj⟩
theorem yY {σ1 ε1 σ2 ε2 β:Type} {B1:σ1->Option (σ1⊕ε1)} {B2:σ2->Option (σ2⊕ε2)} (n:Nat) (m1:Nat->β->σ1) (m2:Nat->β->σ2) (J:Nat->β->Prop) (E1:β->ε1) (E2:β->ε2)
  (h0: ∀b,J n b->B1 (m1 n b)=some (.inr (E1 b))/\B2 (m2 n b)=some (.inr (E2 b)))
  (h1: ∀k b,k<n->J k b-> ∃b',B1 (m1 k b)=some (.inl (m1 (k+1) b'))/\B2 (m2 k b)=some (.inl (m2 (k+1) b'))/\J (k+1) b')
  (b:β) (hb:J 0 b): ∃b',J n b'/\ii B1 (m1 0 b)=some (E1 b')/\ii B2 (m2 0 b)=some (E2 b'):=by
 have go: ∀ (d k:Nat) (b:β),k+d=n->J k b-> ∃b',J n b'/\ii B1 (m1 k b)=some (E1 b')/\ii B2 (m2 k b)=some (E2 b'):=by
  intro d
  induction d with
  |zero=>
   intro k b hk hj;have :k=n:=by omega
   subst this;exact⟨b,hj,i6 (h0 b hj).1,i6 (h0 b hj).2⟩
  |succ d ih=>intro k b hk hj;obtain⟨b',p1,p2,p3⟩:=h1 k b (by omega) hj;obtain⟨c,q1,q2,q3⟩:=ih (k+1) b' (by omega) p3;exact⟨c,q1,by rw[rk p1]; exact q2,by rw[rk p2]; exact q3⟩
 exact go n 0 b (by omega) hb
theorem AL {l:List Int} {p:Int->Bool} (h: ∀x∈l,p x=true):l.filter p=l:=List.filter_eq_self.2 h
theorem J0 (a b:List Int) (ha:a.length<=1000) (hb:b.length<=maxLen):fe a b=some (a.filter fun x=> !decide (x∈b),()):=by
 have hm:a.length<=maxLen:=by unfold maxLen; omega
 have hm':a.length<=9223372036854775807:=hm
 have has: ∀x,iw x b=some (decide (x∈b),()):=by intro x;unfold iw;rw[(fm b x hb).2];rfl
 have find:=vX (B:=eV) a.length (fun k=>((a,(b,()),(a.length:Int),(k:Int),()),(),())) (.inr (((),()),(),())) (fun k=> .inl (((k:Int),()),(),())) (fun k=>match a[k]? with |some x=>decide (x∈b)|none=>false)
  (by simp only[eV]; rw[ei,if_neg (by omega)])
  (fun k hk=>by
    have c1: (k:Int)< (a.length:Int):=by omega
    have c2: (0:Int)<=(k:Int):=by omega
    simp only[eV,ei,en,if_pos c1,if_pos c2,aw,ah hk,ae,has,ec hm hk];by_cases hin:a[k] ∈b<;>simp[hin])
 unfold fe fT;rcases find with ⟨k1,k2⟩| ⟨i,hi,k1,k2,k3⟩
 ·rw[show gK ((a,(b,()),(a.length:Int),0,()),(),())=_ from k1];simp only[ae,c9,beq_self_eq_true,ev];rw[AL fun x hx=> ?_];obtain⟨k,hk,rfl⟩:=aJ hx;have:=k2 k hk;rw[ah hk] at this;simpa using this
 ·rw[show gK ((a,(b,()),(a.length:Int),0,()),(),())=_ from k1]
  have hne: ((i:Int)== -1)=false:=by simp only[beq_eq_false_iff_ne,ne_eq];omega
  simp only[ae,cZ,hne,eJ,ec hm hi];rw[ah hi] at k2
  have loop:=sq (B:=eN) (fun s=> ∃ (i j:Nat) (v:List Int),s=(((),(b,()),(i:Int),(j:Int),()),(),(v,()))/\i<=j/\j<=a.length/\v.length=a.length/\v.take i=(a.take j).filter (fun x=> !decide (x∈b))/\v.drop j=a.drop j) (fun s=>a.length-s.1.2.2.2.1.toNat)
   (fun e=> ∃ (i:Nat) (v:List Int),e=(((),(i:Int),()),(),(v,()))/\i<=a.length/\v.length=a.length/\v.take i=a.filter (fun x=> !decide (x∈b)))
   (fun s hs=>by
     obtain⟨i,j,v,rfl,hij,hj,hv,ht,hd⟩:=hs;by_cases hlt:j<a.length
     ·have c1: (j:Int)< (v.length:Int):=by omega
      have c2: (0:Int)<=(j:Int)/\(j:Int)< (v.length:Int):=by omega
      have c3: (0:Int)<=(i:Int)/\(i:Int)< (v.length:Int):=by omega
      have e1:v[j]? =some a[j] :=by have:=congrArg (fun l:List Int=>l[0]?) hd;simpa [bw,ah hlt] using this
      have e2:v[i]? =some (v[i]'(by omega)):=ah _;have hta:a.take (j+1)=a.take j++ [a[j]] :=by rw[bH,ah hlt]; rfl
      have hdd:v.drop (j+1)=a.drop (j+1):=by have:=congrArg (List.drop 1) hd;simpa [cr,cn] using this
      left;simp only[eN,ei,en,if_pos c1,if_pos c2,aw,e1,ae,has,if_pos c3,e2,ec hm hlt,ef,ec hm (show i<a.length by omega)];by_cases hin:a[j] ∈b
      ·rw[if_pos hin];refine⟨_,rfl,⟨i,j+1,v,rfl,by omega,by omega,hv,?_,hdd⟩,?_⟩
       ·rw[ht,hta,cf];simp[hin]
       ·simp only[aw];omega
      ·rw[if_neg hin];refine⟨_,rfl,⟨i+1,j+1,v.set i a[j],rfl,by omega,by omega,by simp[hv],?_,?_⟩,?_⟩
       ·rw[wQ _ (by omega),ht,hta,cf];simp[hin]
       ·rw[dy (by omega),hdd]
       ·simp only[aw];omega
     ·have :j=a.length:=by omega
      subst this;right;refine⟨_,by simp only[eN]; rw[ei,if_neg (by omega)],⟨i,v,rfl,hij,hv,?_⟩⟩;rw[ht,bG])
   (s:=(((),(b,()),(i:Int),((i+1:Nat):Int),()),(),(a,()))) ⟨i,i+1,a,rfl,by omega,by omega,rfl,by
     have hta:a.take (i+1)=a.take i++ [a[i]] :=by rw[bH,ah hi]; rfl
     rw[hta,cf,AL (l:=a.take i) fun x hx=> ?_]
     ·simp only[decide_eq_true_eq] at k2;simp[k2]
     ·obtain⟨j,hj,rfl⟩:=aJ hx;have hj':j<i:=by simp at hj; omega
      have:=k3 j hj';rw[ah (by omega)] at this;rw[cR];simpa using this,rfl⟩
  obtain⟨e,h1,i',v,rfl,h2,h3,h4⟩:=loop;rw[show iB (((),(b,()),(i:Int),((i+1:Nat):Int),()),(),(a,()))=_ from h1];have d1: (0:Int)<=(i':Int)/\(i':Int)<=(v.length:Int)/\(v.length:Int)<=((v.length:Nat):Int):=by omega
  have d2:i'+(v.length-i')<=v.length:=by omega
  have d3: (0:Int)<=0/\(0:Int)<=(i':Int)/\(i':Int)<=((v.length:Nat):Int):=by omega
  simp only[ae,aw,dS,aQ,cY,en,if_pos d1,if_pos d2,if_pos d3];rw[if_pos ⟨trivial,by simp; omega⟩];rw[bF,db (by simp; omega),List.take_take,Nat.min_self,h4]
theorem IA (a b:List Int) (ha:sa a) (hb:b.length<=maxLen):js a b=some (a.filter fun x=> !decide (x∈b),()):=by have hl:=ha.len;unfold js;rw[Mp a ha,ae,J0 a b (by omega) hb];rfl
theorem Qs (a b:List Int) (ha:sa a) (hb:b.length<=maxLen):lz a b=some (a.filter fun x=>decide (x∈b),()):=by
 have hl:=ha.len;unfold lz;rw[IA a b ha hb];simp only[ae]
 rw[IA a (a.filter fun x=> !decide (x∈b)) ha (by have:=dp (fun x=> !decide (x∈b)) a;unfold maxLen;omega)]
 simp only[ae]
 congr 2
 apply List.filter_congr;intro x hx;simp[cO,hx]
theorem kS (c:ed) (h:iu maxLen c):yx (eA c) (iZ c):=by
 unfold eA iZ;simp only[gF,qm,ae];cases j8 c.epoch 1 20 with
 |false=>exact⟨_,rfl,rfl⟩
 |true=>
  rcases uz c.replicas h.1 with ⟨a1,a2,a3⟩| ⟨a1,a2⟩
  ·rcases uz c.witnesses h.2 with ⟨b1,b2,b3⟩| ⟨b1,b2⟩
   ·simp only[a1,a2,b1,b2,ae,ev,(fm c.replicas c.primary h.1).1,(fm c.replicas c.primary h.1).2,yX _ _ a3 h.2,Qs _ _ a3 h.2];cases decide (c.primary∈c.replicas)<;>exact⟨_,rfl,rfl⟩
   ·simp only[a1,a2,b1,b2,ae,ev,eJ];exact⟨_,rfl,rfl⟩
  ·simp only[a1,a2,ae,ev,eJ];exact⟨_,rfl,rfl⟩
end Go.Proofs.YtadabkgmdllbfabGreat.En
namespace Go.Proofs.YtadabkgmdllbfabGreat.En
open Go
theorem rV (l:List Int) (hl:l.length<=maxLen):yx (jz l) (ny l):=by
 have gO:=oc (B1:=mr) (B2:=fj) l.length (fun k=>((l,(k:Int),()),(),())) (fun k=>((l,(),(l.length:Int),(k:Int),()),(),())) (.inr ((l,(),()),(),())) (.inr (((),()),(),())) (fun _=> .inl ((l,false,()),(),())) (fun k=> .inl (((k:Int),()),(),()))
  (fun _=>True) (fun _=>True)
  (by simp only[mr]; rw[ei,if_neg (by omega)])
  (by simp only[fj]; rw[ei,if_neg (by omega)])
  (fun k hk=>by
    have c1: (k:Int)< (l.length:Int):=by omega
    have c2: (0:Int)<=(k:Int):=by omega
    simp only[mr,fj,ei,en,if_pos c1,if_pos c2,aw,ah hk,ae,pG,gF,qm,ec hl hk];cases j8 l[k] 0 3 with
    |false=>exact .inr ⟨rfl,rfl,trivial⟩
    |true=>exact .inl ⟨rfl,rfl,trivial⟩)
 unfold jz ny gr gQ;rcases gO with ⟨k1,k2,_⟩| ⟨k,_,k1,k2,_⟩
 ·rw[show uq ((l,0,()),(),())=_ from k1,show iG ((l,(),(l.length:Int),0,()),(),())=_ from k2];simp only[ae,c9];cases ((l.length:Int)==5)<;>exact⟨_,rfl,rfl⟩
 ·rw[show uq ((l,0,()),(),())=_ from k1,show iG ((l,(),(l.length:Int),0,()),(),())=_ from k2];simp only[ae,cZ];rw[decide_eq_true (by omega)];cases ((l.length:Int)==5)<;>exact⟨_,rfl,rfl⟩
theorem masterLog (m:eh) (h:sb maxLen m): ∃b,fS m=some (b,())/\lJ m=some (b,()):=by
 obtain⟨hl,hc⟩:=h
 have gO:=oc (B1:=fP) (B2:=jP) m.configs.length (fun k=>(((),(k:Int),()),((m.configs,m.activated,()),()),())) (fun k=>(((),m.configs,(m.configs.length:Int),(k:Int),()),((m.configs,m.activated,()),()),())) (.inr (((),(),()),((m.configs,m.activated,()),()),())) (.inr (((),(),()),((m.configs,m.activated,()),()),())) (fun _=> .inl (((),false,()),((m.configs,m.activated,()),()),())) (fun _=> .inl (((),false,()),((m.configs,m.activated,()),()),()))
  (fun _=>True) (fun _=>True)
  (by simp only[fP]; rw[ei,if_neg (by omega)])
  (by simp only[jP]; rw[ei,if_neg (by omega)])
  (fun k hk=>by
    have c1: (k:Int)< (m.configs.length:Int):=by omega
    have c2: (0:Int)<=(k:Int):=by omega
    obtain⟨b,v1,v2⟩:=kS m.configs[k] (hc _ (ba hk));simp only[fP,jP,ei,en,if_pos c1,if_pos c2,aw,ah hk,ae,v1,v2,ec hl hk,ef];cases b with
    |false=>exact .inr ⟨rfl,rfl,trivial⟩
    |true=>
     cases (m.configs[k].epoch==((k+1:Nat):Int)) with
     |false=>exact .inr ⟨rfl,rfl,trivial⟩
     |true=>exact .inl ⟨rfl,rfl,trivial⟩)
 unfold fS lJ;rcases gO with ⟨k1,k2,_⟩| ⟨k,_,k1,k2,_⟩
 ·rw[show lr (((),0,()),((m.configs,m.activated,()),()),())=_ from k1,show qi (((),m.configs,(m.configs.length:Int),0,()),((m.configs,m.activated,()),()),())=_ from k2];simp only[ae,c9,gF,qm];exact⟨_,rfl,rfl⟩
 ·rw[show lr (((),0,()),((m.configs,m.activated,()),()),())=_ from k1,show qi (((),m.configs,(m.configs.length:Int),0,()),((m.configs,m.activated,()),()),())=_ from k2];exact⟨_,rfl,rfl⟩
theorem uA (x:fo):yx (ky x) (lK x):=by unfold ky lK;simp only[gF,qm,ae];cases ((x.epoch==0)&&((x.holder==0)&&((x.ends==0)&&true)))<;>cases j8 x.epoch 1 20<;>cases j8 x.holder 0 4<;>exact⟨_,rfl,rfl⟩
theorem qT (l:List eO) (hl:l.length<=maxLen):yx (fO l) (nN l):=by
 have gO:=oc (B1:=kb) (B2:=fb) l.length (fun k=>((l,(k:Int),()),(),())) (fun k=>((l,(),(l.length:Int),(k:Int),()),(),())) (.inr ((l,(),()),(),())) (.inr (((),()),(),())) (fun _=> .inl ((l,false,()),(),())) (fun k=> .inl (((k:Int),()),(),()))
  (fun _=>True) (fun _=>True)
  (by simp only[kb]; rw[ei,if_neg (by omega)])
  (by simp only[fb]; rw[ei,if_neg (by omega)])
  (fun k hk=>by
    have c1: (k:Int)< (l.length:Int):=by omega
    have c2: (0:Int)<=(k:Int):=by omega
    simp only[kb,fb,ei,en,if_pos c1,if_pos c2,aw,ah hk,ae,oS,gF,qm,ec hl hk];cases j8 l[k].rack 0 9 with
    |false=>exact .inr ⟨rfl,rfl,trivial⟩
    |true=>
     cases j8 l[k].capacity 0 9 with
     |false=>exact .inr ⟨rfl,rfl,trivial⟩
     |true=>
      cases j8 l[k].load 0 99 with
      |false=>exact .inr ⟨rfl,rfl,trivial⟩
      |true=>exact .inl ⟨rfl,rfl,trivial⟩)
 unfold fO nN fU gt;rcases gO with ⟨k1,k2,_⟩| ⟨k,_,k1,k2,_⟩
 ·rw[show sO ((l,0,()),(),())=_ from k1,show ib ((l,(),(l.length:Int),0,()),(),())=_ from k2];simp only[ae,c9];cases ((l.length:Int)==5)<;>exact⟨_,rfl,rfl⟩
 ·rw[show sO ((l,0,()),(),())=_ from k1,show ib ((l,(),(l.length:Int),0,()),(),())=_ from k2];simp only[ae,cZ];rw[decide_eq_true (by omega)];cases ((l.length:Int)==5)<;>exact⟨_,rfl,rfl⟩
theorem K9 (x:Op):yx (fC x) (nP x):=by unfold fC nP;simp only[gF,qm,ae];cases j8 x.client 0 2<;>cases j8 x.seq 1 99<;>cases j8 x.object 0 2<;>cases j8 x.value 0 9<;>cases (x.kind==1)<;>cases (x.kind==2)<;>cases (x.old==0)<;>exact⟨_,rfl,rfl⟩
theorem AM (l:List ek) (hl:l.length<=maxLen): (ig l=some (true,())/\oU l=some (true,())/\l.length<=16)\/(ig l=some (false,())/\oU l=some (false,())):=by
 have gO:=oc (B1:=mu) (B2:=qS) l.length (fun k=>((l,(k:Int),()),(),())) (fun k=>((l,l,(l.length:Int),(k:Int),()),(),())) (.inr ((l,(),()),(),())) (.inr ((l,(),()),(),())) (fun _=> .inl ((l,false,()),(),())) (fun _=> .inl ((l,false,()),(),()))
  (fun _=>True) (fun _=>True)
  (by simp only[mu]; rw[ei,if_neg (by omega)])
  (by simp only[qS]; rw[ei,if_neg (by omega)])
  (fun k hk=>by
    have c1: (k:Int)< (l.length:Int):=by omega
    have c2: (0:Int)<=(k:Int):=by omega
    obtain⟨b,v1,v2⟩:=K9 l[k].op;simp only[mu,qS,ei,en,if_pos c1,if_pos c2,aw,ah hk,ae,v1,v2,gF,qm,ec hl hk,ef];cases j8 l[k].epoch 1 20 with
    |false=>exact .inr ⟨rfl,rfl,trivial⟩
    |true=>
     simp only[ev];by_cases h0:0<k
     ·have c3: (k:Int)>0:=by omega
      have c4: (0:Int)<=((k-1:Nat):Int):=by omega
      have e2:l[k-1]? =some l[k-1] :=ah (by omega);simp only[if_pos c3,ku h0 (by omega),if_pos c4,aw,e2,ae];by_cases hlt:l[k].epoch<l[k-1].epoch
      ·rw[if_pos hlt,if_pos (show l[k-1].epoch>l[k].epoch from hlt)];cases b<;>exact .inr ⟨rfl,rfl,trivial⟩
      ·rw[if_neg hlt,if_neg (show ¬l[k-1].epoch>l[k].epoch from hlt)];cases b with
       |false=>exact .inr ⟨rfl,rfl,trivial⟩
       |true=>exact .inl ⟨rfl,rfl,trivial⟩
     ·have c3: ¬ (k:Int)>0:=by omega
      simp only[if_neg c3];cases b with
      |false=>exact .inr ⟨rfl,rfl,trivial⟩
      |true=>exact .inl ⟨rfl,rfl,trivial⟩)
 unfold ig oU;rcases gO with ⟨k1,k2,_⟩| ⟨k,_,k1,k2,_⟩
 ·rw[show tw ((l,0,()),(),())=_ from k1,show zZ ((l,l,(l.length:Int),0,()),(),())=_ from k2];simp only[ae,c9];by_cases h: (l.length:Int)<=16
  ·rw[decide_eq_true h];exact .inl ⟨rfl,rfl,by omega⟩
  ·rw[decide_eq_false h];exact .inr ⟨rfl,rfl⟩
 ·rw[show tw ((l,0,()),(),())=_ from k1,show zZ ((l,l,(l.length:Int),0,()),(),())=_ from k2];exact .inr ⟨rfl,rfl⟩
theorem qM (a b:List Int) (ha:a.length<=maxLen):kz a b=some (decide (a=b),())/\kJ a b=some (decide (a=b),()):=by
 unfold kz kJ lf;by_cases hlen:a.length=b.length
 ·have hbe: (!((a.length:Int)==(b.length:Int)))=false:=by simp[hlen]
  have gO:=oc (B1:=jm) (B2:=jF) a.length (fun k=>((a,b,(k:Int),()),(),())) (fun k=>((a,b,(a.length:Int),(k:Int),()),(),())) (.inr (((),()),(),())) (.inr (((),()),(),())) (fun _=> .inl ((false,()),(),())) (fun _=> .inl ((false,()),(),()))
   (fun k=>a[k]? =b[k]?) (fun k=>a[k]? ≠b[k]?)
   (by simp only[jm]; rw[ei,if_neg (by omega)])
   (by simp only[jF]; rw[ei,if_neg (by omega)])
   (fun k hk=>by
     have c1: (k:Int)< (a.length:Int):=by omega
     have c2: (0:Int)<=(k:Int):=by omega
     simp only[jm,jF,ei,en,if_pos c1,if_pos c2,aw,ah hk,ah (show k<b.length by omega),ae,ec ha hk,ef,lh];by_cases he:a[k] =b[k]'(by omega)
     ·simp only[if_pos he];exact .inl ⟨trivial,trivial,by rw[he]⟩
     ·simp only[if_neg he];exact .inr ⟨trivial,trivial,fun h=>he (Option.some.inj h)⟩)
  rw[hbe,eJ,eJ];rcases gO with ⟨k1,k2,k3⟩| ⟨k,hk,k1,k2,k3⟩
  ·rw[show pb ((a,b,0,()),(),())=_ from k1,show rQ ((a,b,(a.length:Int),0,()),(),())=_ from k2]
   have :a=b:=bI fun k=>by
    rcases cW k a.length with h|h
    ·exact k3 k h
    ·rw[b9 h,b9 (by omega)]
   rw[decide_eq_true this];exact⟨rfl,rfl⟩
  ·rw[show pb ((a,b,0,()),(),())=_ from k1,show rQ ((a,b,(a.length:Int),0,()),(),())=_ from k2];have :a≠b:=fun h=>k3 (by rw[h]);rw[decide_eq_false this];exact⟨rfl,rfl⟩
 ·have hbe: (!((a.length:Int)==(b.length:Int)))=true:=by
   simp only[b8,beq_eq_false_iff_ne,ne_eq];omega
  rw[hbe,ev,ev,decide_eq_false (fun h=>hlen (by rw[h]))];exact⟨rfl,rfl⟩
theorem gM (a b:ed) (ha:iu maxLen a):im a b=some (decide (a=b),())/\gV a b=some (decide (a=b),()):=by unfold im gV;simp only[(qM a.replicas b.replicas ha.1).1,(qM a.replicas b.replicas ha.1).2,(qM a.witnesses b.witnesses ha.2).1,(qM a.witnesses b.witnesses ha.2).2,ae,lh,ei];obtain⟨a1,a2,a3,a4⟩:=a;obtain⟨b1,b2,b3,b4⟩:=b;simp only[ed.mk.injEq];by_cases h1:a1=b1<;>by_cases h2:a2=b2<;>by_cases h3:a3=b3<;>by_cases h4:a4=b4<;>simp[h1,h2,h3,h4]
theorem tY (l:List ek) (hl:l.length<=maxLen): ∃n,nJ l=some (n,())/\nQ l=some (n,()):=by
 unfold nJ nQ;rcases bk l.length with h|h
 ·have : ((l.length:Int)==0)=true:=by simp[h]
  rw[this];exact⟨_,rfl,rfl⟩
 ·have : ((l.length:Int)==0)=false:=by
   simp only[beq_eq_false_iff_ne,ne_eq];omega
  rw[this,eJ,ku h hl,gA (by omega),aw,ah (show l.length-1<l.length by omega)];exact⟨_,rfl,rfl⟩
theorem sZ (c:ed) (x:Int) (h:iu maxLen c): ∃n,i7 c x=some (n,())/\mW c x=some (n,())/\(n=0\/n=1\/n=2\/n=3):=by unfold i7 mW;obtain⟨b,v1,v2⟩:=kS c h;simp only[v1,v2,ae,(fm c.replicas x h.1).1,(fm c.replicas x h.1).2,(fm c.witnesses x h.2).1,(fm c.witnesses x h.2).2];cases b<;>cases (x==c.primary)<;>cases decide (x∈c.replicas)<;>cases decide (x∈c.witnesses)<;>exact⟨_,rfl,rfl,by decide⟩
end Go.Proofs.YtadabkgmdllbfabGreat.En
namespace Go.Proofs.YtadabkgmdllbfabGreat.En
open Go
theorem eG {c:ed} (h:iu 1048576 c):iu maxLen c:=⟨eS h.1,eS h.2⟩
theorem kL {m:eh} (h:sb 1048576 m):sb maxLen m:=⟨eS h.1,fun c hc=>eG (h.2 c hc)⟩
theorem uB (c:ed) (h:iu maxLen c):lE c=some (decide (c=⟨0,0,[],[]⟩),()):=by unfold lE;rw[(gM c _ h).1];rfl
theorem nS (s:dZ) (id:Int) (h:fX 1048576 s):yx (eR s id) (jQ s id):=by
 have hc:=eG h.1;unfold eR jQ;simp only[gF,qm,ae,ef];cases j8 s.version 1 2 with
 |false=>exact⟨_,rfl,rfl⟩
 |true=>
 cases j8 s.epoch 0 20 with
 |false=>exact⟨_,rfl,rfl⟩
 |true=>
 rcases AM s.log (eS h.2.1) with ⟨a1,a2,a3⟩| ⟨a1,a2⟩
 case inr=>simp only[a1,a2,ae,ev,eJ]; exact⟨_,rfl,rfl⟩
 rcases AM s.learned (eS h.2.2) with ⟨b1,b2,b3⟩| ⟨b1,b2⟩
 case inr=>simp only[a1,a2,b1,b2,ae,ev,eJ]; exact⟨_,rfl,rfl⟩
 simp only[a1,a2,b1,b2,ae,ev];cases hw:j8 s.first 0 16 with
 |false=>exact⟨_,rfl,rfl⟩
 |true=>
 have hf:=eL.1 hw;rw[ff (n:=s.first+(s.log.length:Int)) (by omega) (by omega)];by_cases h16:s.first+(s.log.length:Int)<=16
 case neg=>
  have e1:j8 (s.first+(s.log.length:Int)) 0 16=false:=by unfold j8; simp; omega
  simp only[e1,ev,eJ,ei,if_pos (show s.first+(s.log.length:Int)>16 by omega)];exact⟨_,rfl,rfl⟩
 have e1:j8 (s.first+(s.log.length:Int)) 0 16=true:=eL.2 ⟨by omega,h16⟩;simp only[e1,ev,ei,if_neg (show ¬s.first+(s.log.length:Int)>16 by omega),uB s.config hc,(gM s.config ⟨0,0,[],[]⟩ hc).2,ae];cases j8 s.commit 0 (s.first+(s.log.length:Int)) with
 |false=>exact⟨_,rfl,rfl⟩
 |true=>
 simp only[ev];by_cases hz:s.config=⟨0,0,[],[]⟩
 ·simp only[if_pos hz];cases (s.first==0)<;>cases (s.commit==0)<;>cases ((s.log.length:Int)==0)<;>exact⟨_,rfl,rfl⟩
 ·simp only[if_neg hz];cases s.intact with
  |false=>exact⟨_,rfl,rfl⟩
  |true=>
  simp only[ev];by_cases he:s.epoch<s.config.epoch
  ·simp only[if_pos he];exact⟨_,rfl,rfl⟩
  ·simp only[if_neg he];obtain⟨n,n1,n2⟩:=tY s.log (eS h.2.1);simp only[n1,n2,ae];by_cases hn:n>s.config.epoch
   ·simp only[if_pos hn];exact⟨_,rfl,rfl⟩
   ·simp only[if_neg hn];obtain⟨r,r1,r2,r3⟩:=sZ s.config id hc;simp only[r1,r2,ae];rcases r3 with rfl|rfl|rfl|rfl
    ·exact⟨_,rfl,rfl⟩
    ·exact⟨_,rfl,rfl⟩
    ·exact⟨_,rfl,rfl⟩
    ·have ht:vW s.first s.log=some (decide ((s.log.length:Int)<=3)&&((s.first==0)||((s.log.length:Int)==3)),()):=by
      unfold vW;simp only[a2,qm,ae,ev,ei];rw[ff (by omega) (by omega),show j8 s.first 0 (16-(s.log.length:Int))=true from eL.2 ⟨by omega,by omega⟩];by_cases h3: (s.log.length:Int)<=3
      ·rw[if_pos h3,decide_eq_true h3];cases (s.first==0)<;>cases ((s.log.length:Int)==3)<;>rfl
      ·rw[if_neg h3,decide_eq_false h3];rfl
     rw[ht];by_cases h3: (s.log.length:Int)<=3
     ·rw[if_pos h3,decide_eq_true h3];cases (s.first==0)<;>cases ((s.log.length:Int)==3)<;>exact⟨_,rfl,rfl⟩
     ·rw[if_neg h3,decide_eq_false h3];exact⟨_,rfl,rfl⟩
theorem vY (m:eh) (e:Int) (h:sb 1048576 m): ∃c b,jA m e=some (c,b,())/\mb m e=some (c,b,())/\iu maxLen c:=by
 obtain⟨b,m1,m2⟩:=masterLog m (kL h);have zero:iu maxLen ⟨0,0,[],[]⟩:=⟨aA _,aA _⟩
 have hl:=h.1;unfold jA mb;simp only[m1,m2,gF,qm,ae,ef];cases b with
 |false=>exact⟨_,_,rfl,rfl,zero⟩
 |true=>
  cases hw:j8 e 1 (m.configs.length:Int) with
  |false=>exact⟨_,_,rfl,rfl,zero⟩
  |true=>
   have hw:=eL.1 hw;simp only[ev];rw[ff (n:=e-1) (by omega) (by omega)];have hlt: (e-1).toNat<m.configs.length:=by omega
   have hk:=h.2 _ (ba hlt)
   have copy: ∀c:ed,iu 1048576 c->kw c=some (c,())/\iq c=some (c,()):=by intro c hc;unfold kw iq;simp only[be];rw[gA (lP hc.1),gA (lP hc.2)];exact⟨rfl,rfl⟩
   rw[gA (by omega),gA (by omega),ah hlt];simp only[ae,(copy _ hk).1,(copy _ hk).2];exact⟨_,_,rfl,rfl,eG hk⟩
theorem hU (x:dX) (h:ft 1048576 x):yx (eb x) (jt x):=by
 obtain⟨⟨hs1,hs2⟩,hsd,hml,hpl⟩:=h;have hm:=eS hs1
 have gO:=oc (B1:=eB) (B2:=iL) x.servers.length (fun k=>(((),(k:Int),()),((x.now,x.servers,x.sides,x.master.configs,x.master.activated,x.masterUp,x.lease.epoch,x.lease.holder,x.lease.ends,x.places,()),()),())) (fun k=>(((),x.servers,(x.servers.length:Int),(k:Int),()),((x.now,x.servers,x.sides,x.master.configs,x.master.activated,x.masterUp,x.lease.epoch,x.lease.holder,x.lease.ends,x.places,()),()),())) (.inr (((),()),(),())) (.inr (((),()),(),())) (fun _=> .inl ((false,()),(),())) (fun _=> .inl ((false,()),(),()))
  (fun _=>True) (fun _=>True)
  (by simp only[eB]; rw[ei,if_neg (by omega)])
  (by simp only[iL]; rw[ei,if_neg (by omega)])
  (fun k hk=>by
    have c1: (k:Int)< (x.servers.length:Int):=by omega
    have c2: (0:Int)<=(k:Int):=by omega
    have hsk:=hs2 _ (ba hk);obtain⟨b,v1,v2⟩:=nS x.servers[k] (k:Int) hsk;obtain⟨n,n1,n2⟩:=tY x.servers[k].learned (eS hsk.2.2);obtain⟨c,d,d1,d2,d3⟩:=vY x.master x.servers[k].config.epoch hml;have hcfg:=eG hsk.1
    simp only[eB,iL,ei,en,if_pos c1,if_pos c2,aw,ah hk,ae,v1,v2,n1,n2,ec hm hk,ef,
     show (⟨x.master.configs,x.master.activated⟩:eh)=x.master from rfl,d1,d2,uB _ hcfg,(gM _ (⟨0,0,[],[]⟩:ed) hcfg).2,(gM c x.servers[k].config d3).1,(gM c x.servers[k].config d3).2]
    cases b with
    |false=>exact .inr ⟨rfl,rfl,trivial⟩
    |true=>
     simp only[ev];by_cases h1:x.servers[k].epoch>(x.master.configs.length:Int)
     ·simp only[if_pos h1];exact .inr ⟨trivial,trivial,trivial⟩
     ·simp only[if_neg h1];by_cases h2:n>x.master.activated
      ·simp only[if_pos h2];exact .inr ⟨trivial,trivial,trivial⟩
      ·simp only[if_neg h2];by_cases h3:x.servers[k].config=⟨0,0,[],[]⟩
       ·simp only[if_pos h3];exact .inl ⟨trivial,trivial,trivial⟩
       ·simp only[if_neg h3];cases d with
        |false=>exact .inr ⟨rfl,rfl,trivial⟩
        |true=>
         simp only[ev];by_cases h4:c=x.servers[k].config
         ·simp only[if_pos h4];by_cases h5:x.servers[k].config.epoch>x.master.activated
          ·simp only[if_pos h5];exact .inr ⟨trivial,trivial,trivial⟩
          ·simp only[if_neg h5];exact .inl ⟨trivial,trivial,trivial⟩
         ·simp only[if_neg h4];exact .inr ⟨trivial,trivial,trivial⟩)
 unfold eb jt;obtain⟨b1,a1,a2⟩:=rV x.sides (eS hsd);obtain⟨b2,m1,m2⟩:=masterLog x.master (kL hml);obtain⟨b3,l1,l2⟩:=uA x.lease;obtain⟨b4,p1,p2⟩:=qT x.places (eS hpl);simp only[gF,qm,a1,a2,m1,m2,l1,l2,p1,p2,ae,ef,ei];cases j8 x.now 0 999 with
 |false=>exact⟨_,rfl,rfl⟩
 |true=>
 cases ((x.servers.length:Int)==5) with
 |false=>exact⟨_,rfl,rfl⟩
 |true=>
 cases b1 with
 |false=>exact⟨_,rfl,rfl⟩
 |true=>
 cases b2 with
 |false=>exact⟨_,rfl,rfl⟩
 |true=>
 cases j8 x.masterUp 0 3 with
 |false=>cases b3<;>cases b4<;>exact⟨_,rfl,rfl⟩
 |true=>
 cases b3 with
 |false=>exact⟨_,rfl,rfl⟩
 |true=>
 cases b4 with
 |false=>exact⟨_,rfl,rfl⟩
 |true=>
 simp only[ev];by_cases h1:x.lease.epoch>x.master.activated
 ·simp only[if_pos h1];exact⟨_,rfl,rfl⟩
 ·simp only[if_neg h1];rcases gO with ⟨k1,k2,_⟩| ⟨k,_,k1,k2,_⟩
  ·rw[show iI (((),0,()),((x.now,x.servers,x.sides,x.master.configs,x.master.activated,x.masterUp,x.lease.epoch,x.lease.holder,x.lease.ends,x.places,()),()),())=_ from k1,show nA (((),x.servers,(x.servers.length:Int),0,()),((x.now,x.servers,x.sides,x.master.configs,x.master.activated,x.masterUp,x.lease.epoch,x.lease.holder,x.lease.ends,x.places,()),()),())=_ from k2];exact⟨_,rfl,rfl⟩
  ·rw[show iI (((),0,()),((x.now,x.servers,x.sides,x.master.configs,x.master.activated,x.masterUp,x.lease.epoch,x.lease.holder,x.lease.ends,x.places,()),()),())=_ from k1,show nA (((),x.servers,(x.servers.length:Int),0,()),((x.now,x.servers,x.sides,x.master.configs,x.master.activated,x.masterUp,x.lease.epoch,x.lease.holder,x.lease.ends,x.places,()),()),())=_ from k2];exact⟨_,rfl,rfl⟩
end Go.Proofs.YtadabkgmdllbfabGreat.En
namespace Go.Proofs.YtadabkgmdllbfabGreat.En
open Go
theorem oY {c:ed} (h:iu maxLen c) (hv:eA c=some (true,())):sa c.replicas/\sa c.witnesses/\c.primary∈c.replicas/\1<=c.epoch/\c.epoch<=20/\ ∀x∈c.replicas,x∉c.witnesses:=by
 unfold eA at hv;simp only[gF,ae] at hv;cases hw:j8 c.epoch 1 20 with
 |false=>rw[hw] at hv; cases hv
 |true=>
  rw[hw] at hv;rcases uz c.replicas h.1 with ⟨a1,a2,a3⟩| ⟨a1,a2⟩
  ·rcases uz c.witnesses h.2 with ⟨b1,b2,b3⟩| ⟨b1,b2⟩
   ·simp only[a1,b1,ae,ev,(fm c.replicas c.primary h.1).1,yX _ _ a3 h.2,ei] at hv;by_cases hp:c.primary∈c.replicas
    ·rw[if_pos hp] at hv;refine⟨a3,b3,hp,(eL.1 hw).1,(eL.1 hw).2,fun x hx hxw=> ?_⟩
     have hz: ((((c.replicas.filter fun x=>decide (x∈c.witnesses)).length:Nat):Int)==0)=true:=by simpa using hv
     have hz: (c.replicas.filter fun x=>decide (x∈c.witnesses)).length=0:=by simp only[beq_iff_eq] at hz;omega
     have:=bz hz;have hm:x∈c.replicas.filter fun x=>decide (x∈c.witnesses):=by simp[cO,hx,hxw]
     rw[this] at hm;cases hm
    ·rw[if_neg hp] at hv; cases hv
   ·simp only[a1,b1,ae,ev,eJ] at hv; cases hv
  ·simp only[a1,ae,ev,eJ] at hv; cases hv
theorem Bs {m:eh} (h:sb maxLen m) (hv:fS m=some (true,())): (∀k (hk:k<m.configs.length),eA m.configs[k] =some (true,())/\m.configs[k].epoch=(k:Int)+1)/\0<=m.activated/\m.activated<=(m.configs.length:Int):=by
 obtain⟨hl,hc⟩:=h
 have gO:=oc (B1:=fP) (B2:=fP) m.configs.length (fun k=>(((),(k:Int),()),((m.configs,m.activated,()),()),())) (fun k=>(((),(k:Int),()),((m.configs,m.activated,()),()),())) (.inr (((),(),()),((m.configs,m.activated,()),()),())) (.inr (((),(),()),((m.configs,m.activated,()),()),())) (fun _=> .inl (((),false,()),((m.configs,m.activated,()),()),())) (fun _=> .inl (((),false,()),((m.configs,m.activated,()),()),()))
  (fun k=> ∀hk:k<m.configs.length,eA m.configs[k] =some (true,())/\m.configs[k].epoch=(k:Int)+1) (fun _=>True)
  (by simp only[fP]; rw[ei,if_neg (by omega)])
  (by simp only[fP]; rw[ei,if_neg (by omega)])
  (fun k hk=>by
    have c1: (k:Int)< (m.configs.length:Int):=by omega
    have c2: (0:Int)<=(k:Int):=by omega
    obtain⟨b,v1,v2⟩:=kS m.configs[k] (hc _ (ba hk))
    have step:fP (((),(k:Int),()),((m.configs,m.activated,()),()),())=br b (br (m.configs[k].epoch==((k+1:Nat):Int)) (some (.inl (((),((k+1:Nat):Int),()),((m.configs,m.activated,()),()),()))) (some (.inr (.inl (((),false,()),((m.configs,m.activated,()),()),()))))) (some (.inr (.inl (((),false,()),((m.configs,m.activated,()),()),())))):=by simp only[fP,ei,en,if_pos c1,if_pos c2,aw,ah hk,ae,v1,ec hl hk,ef]
    rw[step];cases b with
    |false=>exact .inr ⟨rfl,rfl,trivial⟩
    |true=>
     rw[ev,lh];by_cases he:m.configs[k].epoch=((k+1:Nat):Int)
     ·rw[if_pos he];exact .inl ⟨rfl,rfl,fun _=>⟨v1,by omega⟩⟩
     ·rw[if_neg he];exact .inr ⟨rfl,rfl,trivial⟩)
 unfold fS at hv;rcases gO with ⟨k1,_,k3⟩| ⟨k,_,k1,_,_⟩
 ·rw[show lr (((),0,()),((m.configs,m.activated,()),()),())=_ from k1] at hv;simp only[ae,c9,gF,af,an,and_true] at hv;exact⟨fun k hk=>k3 k hk hk,(eL.1 hv).1,(eL.1 hv).2⟩
 ·rw[show lr (((),0,()),((m.configs,m.activated,()),()),())=_ from k1] at hv;cases hv
theorem rX {s:dZ} {id:Int} (h:fX 1048576 s) (hv:eR s id=some (true,())):0<=s.first/\s.first<=16/\s.log.length<=16/\0<=s.commit/\s.commit<=s.first+(s.log.length:Int)/\ig s.log=some (true,())/\ig s.learned=some (true,())/\0<=s.epoch/\s.epoch<=20:=by
 unfold eR at hv;simp only[gF,ae,ef] at hv;cases h1:j8 s.version 1 2 with
 |false=>rw[h1] at hv; cases hv
 |true=>
 cases h2:j8 s.epoch 0 20 with
 |false=>rw[h1,h2] at hv; cases hv
 |true=>
 rw[h1,h2] at hv;rcases AM s.log (eS h.2.1) with ⟨a1,a2,a3⟩| ⟨a1,a2⟩
 case inr=>simp only[a1,ae,ev,eJ] at hv; cases hv
 rcases AM s.learned (eS h.2.2) with ⟨b1,b2,b3⟩| ⟨b1,b2⟩
 case inr=>simp only[a1,b1,ae,ev,eJ] at hv; cases hv
 simp only[a1,b1,ae,ev] at hv;cases hw:j8 s.first 0 16 with
 |false=>rw[hw] at hv; cases hv
 |true=>
 have hf:=eL.1 hw;rw[hw,ff (n:=s.first+(s.log.length:Int)) (by omega) (by omega)] at hv;simp only[ev] at hv;cases h3:j8 (s.first+(s.log.length:Int)) 0 16 with
 |false=>rw[h3] at hv; cases hv
 |true=>
 cases h4:j8 s.commit 0 (s.first+(s.log.length:Int)) with
 |false=>rw[h3,h4] at hv; cases hv
 |true=>
 exact⟨hf.1,hf.2,a3,(eL.1 h4).1,(eL.1 h4).2,a1,b1,(eL.1 h2).1,(eL.1 h2).2⟩
structure VC (x:dX):Prop where
 len:x.servers.length=5
 ml:fS x.master=some (true,())
 sides:jz x.sides=some (true,())
 places:fO x.places=some (true,())
 lease:ky x.lease=some (true,())
 now:0<=x.now/\x.now<=999
 up:0<=x.masterUp/\x.masterUp<=3
 srv: ∀k (hk:k<x.servers.length),eR x.servers[k] (k:Int)=some (true,())
theorem gR {x:dX} (h:ft 1048576 x) (hv:eb x=some (true,())):VC x:=by
 obtain⟨⟨hs1,hs2⟩,hsd,hml,hpl⟩:=h;have hm:=eS hs1
 have gO:=oc (B1:=eB) (B2:=eB) x.servers.length (fun k=>(((),(k:Int),()),((x.now,x.servers,x.sides,x.master.configs,x.master.activated,x.masterUp,x.lease.epoch,x.lease.holder,x.lease.ends,x.places,()),()),())) (fun k=>(((),(k:Int),()),((x.now,x.servers,x.sides,x.master.configs,x.master.activated,x.masterUp,x.lease.epoch,x.lease.holder,x.lease.ends,x.places,()),()),())) (.inr (((),()),(),())) (.inr (((),()),(),())) (fun _=> .inl ((false,()),(),())) (fun _=> .inl ((false,()),(),()))
  (fun k=> ∀hk:k<x.servers.length,eR x.servers[k] (k:Int)=some (true,())) (fun _=>True)
  (by simp only[eB]; rw[ei,if_neg (by omega)])
  (by simp only[eB]; rw[ei,if_neg (by omega)])
  (fun k hk=>by
    have c1: (k:Int)< (x.servers.length:Int):=by omega
    have c2: (0:Int)<=(k:Int):=by omega
    have hsk:=hs2 _ (ba hk);obtain⟨b,v1,v2⟩:=nS x.servers[k] (k:Int) hsk;obtain⟨n,n1,n2⟩:=tY x.servers[k].learned (eS hsk.2.2);obtain⟨c,d,d1,d2,d3⟩:=vY x.master x.servers[k].config.epoch hml;have hcfg:=eG hsk.1
    have step:eB (((),(k:Int),()),((x.now,x.servers,x.sides,x.master.configs,x.master.activated,x.masterUp,x.lease.epoch,x.lease.holder,x.lease.ends,x.places,()),()),())=some (.inr (.inl ((false,()),(),())))\/(b=true/\eB (((),(k:Int),()),((x.now,x.servers,x.sides,x.master.configs,x.master.activated,x.masterUp,x.lease.epoch,x.lease.holder,x.lease.ends,x.places,()),()),())=some (.inl (((),((k+1:Nat):Int),()),((x.now,x.servers,x.sides,x.master.configs,x.master.activated,x.masterUp,x.lease.epoch,x.lease.holder,x.lease.ends,x.places,()),()),()))):=by
     simp only[eB,ei,en,if_pos c1,if_pos c2,aw,ah hk,ae,v1,n1,ec hm hk,ef,
      show (⟨x.master.configs,x.master.activated⟩:eh)=x.master from rfl,d1,uB _ hcfg,(gM c x.servers[k].config d3).1]
     cases b with
     |false=>exact .inl rfl
     |true=>
      simp only[ev]
      repeat' split
      all_goals first |exact .inl trivial|exact .inr ⟨trivial,trivial⟩| (cases d<;>first |exact .inl rfl| (simp only[ev]; repeat' split)<;>first |exact .inl trivial|exact .inr ⟨trivial,trivial⟩)
    rcases step with h1| ⟨rfl,h1⟩
    ·rw[h1]; exact .inr ⟨rfl,rfl,trivial⟩
    ·rw[h1]; exact .inl ⟨rfl,rfl,fun _=>v1⟩)
 unfold eb at hv;obtain⟨b1,a1,a2⟩:=rV x.sides (eS hsd);obtain⟨b2,m1,m2⟩:=masterLog x.master (kL hml);obtain⟨b3,l1,l2⟩:=uA x.lease;obtain⟨b4,p1,p2⟩:=qT x.places (eS hpl);simp only[gF,a1,m1,l1,p1,ae,ef,ei] at hv;cases h1:j8 x.now 0 999 with
 |false=>rw[h1] at hv; cases hv
 |true=>
 cases h2: ((x.servers.length:Int)==5) with
 |false=>rw[h1,h2] at hv; cases hv
 |true=>
 cases b1 with
 |false=>rw[h1,h2] at hv; cases hv
 |true=>
 cases b2 with
 |false=>rw[h1,h2] at hv; cases hv
 |true=>
 cases h3:j8 x.masterUp 0 3 with
 |false=>rw[h1,h2,h3] at hv; cases hv
 |true=>
 cases b3 with
 |false=>rw[h1,h2,h3] at hv; cases hv
 |true=>
 cases b4 with
 |false=>rw[h1,h2,h3] at hv; cases hv
 |true=>
 rw[h1,h2,h3] at hv;simp only[ev] at hv;by_cases h4:x.lease.epoch>x.master.activated
 ·rw[if_pos h4] at hv; cases hv
 ·rw[if_neg h4] at hv;rcases gO with ⟨k1,_,k3⟩| ⟨k,_,k1,_,_⟩
  ·refine⟨?_,m1,a1,p1,l1,eL.1 h1,eL.1 h3,fun k hk=>k3 k hk hk⟩;simp only[beq_iff_eq] at h2;omega
  ·rw[show iI (((),0,()),((x.now,x.servers,x.sides,x.master.configs,x.master.activated,x.masterUp,x.lease.epoch,x.lease.holder,x.lease.ends,x.places,()),()),())=_ from k1] at hv;cases hv
end Go.Proofs.YtadabkgmdllbfabGreat.En
namespace Go.Proofs.YtadabkgmdllbfabGreat.En
open Go
end Go.Proofs.YtadabkgmdllbfabGreat.En
namespace Go.Proofs.YtadabkgmdllbfabGreat.En
open Go
section
variable {α:Type}
def Mq (w:α->Int):List α->Int
 | [] =>0
 |x::l=>w x+Mq w l
def Qt (l:List α):Int:=(l.length:Int)
end
def Ux (c:ed):Int:=Qt c.replicas+Qt c.witnesses
def Tz (s:dZ):Int:=Ux s.config+Qt s.log+Qt s.learned
end Go.Proofs.YtadabkgmdllbfabGreat.En
namespace Go.Proofs.YtadabkgmdllbfabGreat.En
open Go
end Go.Proofs.YtadabkgmdllbfabGreat.En
namespace Go.Proofs.YtadabkgmdllbfabGreat.En
open Go
theorem Bi {n c:Nat} (h:n<=1048577) (hc:c<=1000):n*c<=2 ^ 40:=by
 have h1:n*c<=1048577*1000:=Nat.mul_le_mul h hc;have h2: (2:Nat) ^ 40=1099511627776:=by decide
 omega
theorem wC (c:ed) (h:iu 1048576 c):kw c=some (c,())/\iq c=some (c,()):=by have a:=h.1;have b:=h.2;unfold kw iq;simp only[be,en,if_pos (Bi (cj a) (show 8<=1000 by decide)),if_pos (Bi (cj b) (show 8<=1000 by decide))];exact⟨trivial,trivial⟩
theorem sE (l:List ek) (h:l.length<=1048576):iR l=some (l,())/\kG l=some (l,()):=by unfold iR kG;simp only[be,en,if_pos (Bi (cj h) (show 56<=1000 by decide))];exact⟨trivial,trivial⟩
theorem Qu (l:List Int) (h:l.length<=1048576):k9 l=some (l,()):=by unfold k9;simp only[en,if_pos (Bi (cj h) (show 8<=1000 by decide))]
theorem J1 (l:List eO) (h:l.length<=1048576):oK l=some (l,()):=by unfold oK;simp only[en,if_pos (Bi (cj h) (show 24<=1000 by decide))]
theorem sF (s:dZ) (h:fX 1048576 s):jL s=some (s,())/\kZ s=some (s,()):=by unfold jL kZ;simp only[(wC _ h.1).1,(wC _ h.1).2,(sE _ h.2.1).1,(sE _ h.2.1).2,(sE _ h.2.2).1,(sE _ h.2.2).2,ae];exact⟨trivial,trivial⟩
theorem ki {α:Type} {l:List α} {k:Nat} {x:α} (h:l[k]? =some x):l.take (k+1)=l.take k++ [x] :=by rw[bH,h]; rfl
theorem qN {α:Type} (l:List α) (k:Nat) (x:α) (h:l.length<=1048576): (l.take k++ [x]).length<=1048577:=by rw[az,bf,aB];omega
theorem Gr (m:eh) (h:sb 1048576 m):pa m=some (m,())/\oJ m=some (m,()):=by
 obtain⟨hl,hc⟩:=h
 have k1:=lq (B:=nH) m.configs (fun k (b:List ed)=>(((),(),(),(k:Int),()),((m.configs,m.activated,()),((),0,()),((),m.activated,()),()),(b,()))) (fun k b=>b=m.configs.take k) (fun _ _ _=>(((),(),()),(((),0,()),((),m.activated,()),()),(m.configs,())))
  (fun b hb=>by simp only[nH];rw[ei,if_neg (by omega),hb,bG])
  (fun k b c hx hb=>by
    have hk:=je hx;have c1: (k:Int)< (m.configs.length:Int):=by omega
    have c2: (0:Int)<=(k:Int):=by omega
    subst hb;refine .inl ⟨m.configs.take (k+1),?_,rfl,rfl⟩;simp only[nH,ei,en,if_pos c1,if_pos c2,aw,hx,ae,(wC c (hc c (au hx))).1,ec (eS hl) hk,if_pos (Bi (qN m.configs k c hl) (show 64<=1000 by decide)),ki hx])
  0 [] (aA _) rfl
 have k2:=lq (B:=kH) m.configs (fun k (b:List ed)=>(((),(),m.configs,(m.configs.length:Int),(k:Int),()),(((),0,()),((),m.activated,()),()),(b,()))) (fun k b=>b=m.configs.take k) (fun _ _ _=>(((),(),()),(((),0,()),((),m.activated,()),()),(m.configs,())))
  (fun b hb=>by simp only[kH];rw[ei,if_neg (by omega),hb,bG])
  (fun k b c hx hb=>by
    have hk:=je hx;have c1: (k:Int)< (m.configs.length:Int):=by omega
    have c2: (0:Int)<=(k:Int):=by omega
    subst hb;refine .inl ⟨m.configs.take (k+1),?_,rfl,rfl⟩;simp only[kH,ei,en,if_pos c1,if_pos c2,aw,hx,ae,(wC c (hc c (au hx))).2,ec (eS hl) hk,if_pos (Bi (qN m.configs k c hl) (show 64<=1000 by decide)),ki hx])
  0 [] (aA _) rfl
 unfold pa oJ;rw[show Az (((),(),(),0,()),((m.configs,m.activated,()),((),0,()),((),m.activated,()),()),(([]:List ed),()))=_ from k1,show vQ (((),(),m.configs,(m.configs.length:Int),0,()),(((),0,()),((),m.activated,()),()),(([]:List ed),()))=_ from k2];exact⟨rfl,rfl⟩
theorem gY (x:dX) (ok:ft 1048576 x):fk x=some (x,())/\kh x=some (x,()):=by
 obtain⟨⟨hl,hs⟩,hsd,hml,hpl⟩:=ok
 have k1:=lq (B:=nI) x.servers (fun k (b:List dZ)=>(((),(),(),(k:Int),()),((x.now,x.servers,x.sides,x.master.configs,x.master.activated,x.masterUp,x.lease.epoch,x.lease.holder,x.lease.ends,x.places,()),(0,(),(),(),0,0,0,0,0,(),()),(x.now,(),x.sides,x.master.configs,x.master.activated,x.masterUp,x.lease.epoch,x.lease.holder,x.lease.ends,x.places,()),()),(b,()))) (fun k b=>b=x.servers.take k) (fun _ _ _=>(((),(),(),()),((x.now,x.servers,x.sides,x.master.configs,x.master.activated,x.masterUp,x.lease.epoch,x.lease.holder,x.lease.ends,x.places,()),(0,(),(),(),0,0,0,0,0,(),()),(x.now,(),x.sides,x.master.configs,x.master.activated,x.masterUp,x.lease.epoch,x.lease.holder,x.lease.ends,x.places,()),()),(x.servers,())))
  (fun b hb=>by simp only[nI];rw[ei,if_neg (by omega),hb,bG])
  (fun k b c hx hb=>by
    have hk:=je hx;have c1: (k:Int)< (x.servers.length:Int):=by omega
    have c2: (0:Int)<=(k:Int):=by omega
    subst hb;refine .inl ⟨x.servers.take (k+1),?_,rfl,rfl⟩;simp only[nI,ei,en,if_pos c1,if_pos c2,aw,hx,ae,(sF c (hs c (au hx))).1,ec (eS hl) hk,if_pos (Bi (qN x.servers k c hl) (show 152<=1000 by decide)),ki hx])
  0 [] (aA _) rfl
 have k2:=lq (B:=jO) x.servers (fun k (b:List dZ)=>(((),(),(),x.servers,(x.servers.length:Int),(k:Int),()),((x.now,x.servers,x.sides,x.master.configs,x.master.activated,x.masterUp,x.lease.epoch,x.lease.holder,x.lease.ends,x.places,()),(0,(),(),(),0,0,0,0,0,(),()),(x.now,(),x.sides,x.master.configs,x.master.activated,x.masterUp,x.lease.epoch,x.lease.holder,x.lease.ends,x.places,()),()),(b,()))) (fun k b=>b=x.servers.take k) (fun _ _ _=>(((),(),(),()),((x.now,x.servers,x.sides,x.master.configs,x.master.activated,x.masterUp,x.lease.epoch,x.lease.holder,x.lease.ends,x.places,()),(0,(),(),(),0,0,0,0,0,(),()),(x.now,(),x.sides,x.master.configs,x.master.activated,x.masterUp,x.lease.epoch,x.lease.holder,x.lease.ends,x.places,()),()),(x.servers,())))
  (fun b hb=>by simp only[jO];rw[ei,if_neg (by omega),hb,bG])
  (fun k b c hx hb=>by
    have hk:=je hx;have c1: (k:Int)< (x.servers.length:Int):=by omega
    have c2: (0:Int)<=(k:Int):=by omega
    subst hb;refine .inl ⟨x.servers.take (k+1),?_,rfl,rfl⟩;simp only[jO,ei,en,if_pos c1,if_pos c2,aw,hx,ae,(sF c (hs c (au hx))).2,ec (eS hl) hk,if_pos (Bi (qN x.servers k c hl) (show 152<=1000 by decide)),ki hx])
  0 [] (aA _) rfl
 unfold fk kh
 rw[show AB (((),(),(),0,()),((x.now,x.servers,x.sides,x.master.configs,x.master.activated,x.masterUp,x.lease.epoch,x.lease.holder,x.lease.ends,x.places,()),(0,(),(),(),0,0,0,0,0,(),()),(x.now,(),x.sides,x.master.configs,x.master.activated,x.masterUp,x.lease.epoch,x.lease.holder,x.lease.ends,x.places,()),()),(([]:List dZ),()))=_ from k1,
  show uW (((),(),(),x.servers,(x.servers.length:Int),0,()),((x.now,x.servers,x.sides,x.master.configs,x.master.activated,x.masterUp,x.lease.epoch,x.lease.holder,x.lease.ends,x.places,()),(0,(),(),(),0,0,0,0,0,(),()),(x.now,(),x.sides,x.master.configs,x.master.activated,x.masterUp,x.lease.epoch,x.lease.holder,x.lease.ends,x.places,()),()),(([]:List dZ),()))=_ from k2]
 have em: (⟨x.master.configs,x.master.activated⟩:eh)=x.master:=rfl;simp only[ae,be,em,(Gr _ hml).1,(Gr _ hml).2,Qu _ hsd,J1 _ hpl,en,if_pos (Bi (cj hsd) (show 8<=1000 by decide)),if_pos (Bi (cj hpl) (show 24<=1000 by decide))];exact⟨trivial,trivial⟩
theorem Gs (x:dX) (id:Int) (ok:ft 1048576 x): ∃b,lH x id=some (b,())/\jj x id=some (b,())/\(b=true->eb x=some (true,())/\0<=id/\id<5):=by
 obtain⟨v,v1,v2⟩:=hU x ok;unfold lH jj;simp only[v1,v2,ae,gF,qm];cases v with
 |false=>exact⟨false,rfl,rfl,nofun⟩
 |true=>refine⟨j8 id 0 4,rfl,rfl,fun h=>⟨rfl,?_⟩⟩;have:=eL.1 h;omega
end Go.Proofs.YtadabkgmdllbfabGreat.En
namespace Go.Proofs.YtadabkgmdllbfabGreat.En
open Go
theorem Qv (n:Int) (h0:0<=n) (h1:n<=1000000):md n=some ([],()):=by
 unfold md;have e1:IntKind.wrap .i64 ((0:Int)-0)=0:=ff (by decide) (by decide);have e2:IntKind.wrap .i64 (n-0)=n:=by rw[ff (by omega) (by omega)]; omega
 simp only[e1,e2,ei,if_neg (show ¬n<0 by omega)];by_cases h:n>0
 ·have e: (2:Int) ^ 40=1099511627776:=by decide
  have c1:0<n/\n*((8:Nat):Int)<=2 ^ 40:=⟨h,by omega⟩
  have c2: (0:Int)<=0/\(0:Int)<=0/\(0:Int)<=((n.toNat:Nat):Int):=by omega
  simp only[if_pos h,en,if_pos c1,if_pos c2,and_self,if_true];simp
 ·simp only[if_neg h]
theorem Mr (l:List (List Int)) (hl:l.length<=10) (h: ∀a∈l,a.length<=1000):mX l=some (l.flatten,()):=by
 have hm:l.length<=maxLen:=by unfold maxLen; omega
 have tot: ∀k,(l.take k).flatten.length<=k*1000:=by
  intro k
  induction k with
  |zero=>simp
  |succ k ih=>
   cases hx:l[k]? with
   |none=>
    have hle:l.length<=k:=by simpa using hx
    rw[bD hle] at ih;rw[bD (cj hle)];exact aO ih (bo _ (ca k))
   |some a=>rw[ki hx,dQ,az];have:=h a (au hx);simp only[List.flatten_cons,List.flatten_nil,bT];rw[Nat.succ_mul];exact Nat.add_le_add ih this
 have k1:=lq (B:=jR) l (fun k (n:Int)=>((l,n,l,(l.length:Int),(k:Int),()),(),())) (fun k n=>n=((l.take k).flatten.length:Int)) (fun _ _ _=>((l,(l.flatten.length:Int),()),(),()))
  (fun n hn=>by simp only[jR];rw[ei,if_neg (by omega),hn,bG])
  (fun k n a hx hn=>by
    have hk:=je hx;have c1: (k:Int)< (l.length:Int):=by omega
    have c2: (0:Int)<=(k:Int):=by omega
    have t:=tot k;have ha:=h a (au hx);have hk10:k*1000<=10000:=by omega
    refine .inl ⟨n+(a.length:Int),?_,?_,rfl⟩
    ·simp only[jR,ei,en,if_pos c1,if_pos c2,aw,hx,ae,ec hm hk,ff (n:=n+(a.length:Int)) (by omega) (by omega),if_neg (show ¬n+(a.length:Int)<0 by omega)]
    ·rw[ki hx,dQ,az,hn];simp)
  0 0 (aA _) (by simp)
 have t:=tot l.length;rw[bG] at t
 have k2:=lq (B:=ju) l (fun k (b:List Int)=>(((),l,(l.length:Int),(k:Int),()),(),(b,()))) (fun k b=>b=(l.take k).flatten) (fun _ _ _=>(((),()),(),(l.flatten,())))
  (fun b hb=>by simp only[ju];rw[ei,if_neg (by omega),hb,bG])
  (fun k b a hx hb=>by
    have hk:=je hx;have c1: (k:Int)< (l.length:Int):=by omega
    have c2: (0:Int)<=(k:Int):=by omega
    have t:=tot k;have ha:=h a (au hx);have hs: (b++a).length*8<=2 ^ 40:=Bi (by rw[hb,az]; omega) (by decide);refine .inl ⟨b++a,?_,?_,rfl⟩
    ·simp only[ju,ei,en,if_pos c1,if_pos c2,aw,hx,ae,ec hm hk,if_pos hs]
    ·rw[ki hx,dQ,hb];simp)
  0 [] (aA _) (by simp)
 unfold mX;rw[show u6 ((l,0,l,(l.length:Int),0,()),(),())=_ from k1];simp only[ae,Qv _ (show (0:Int)<=(l.flatten.length:Int) by omega) (by omega)];rw[show tU (((),l,(l.length:Int),0,()),(),([],()))=_ from k2];rfl
end Go.Proofs.YtadabkgmdllbfabGreat.En
namespace Go.Proofs.YtadabkgmdllbfabGreat.En
open Go
def SS (l:List Int):Prop:=l.Pairwise (· < ·)
theorem SS.uniq: ∀ {a b:List Int},SS a->SS b->(∀y,y∈a↔y∈b)->a=b
 | [],[],_,_,_=>rfl
 | [],b::l,_,_,h=>by have:=(h b).2 aK;cases this
 |a::l,[],_,_,h=>by have:=(h a).1 aK;cases this
 |a::l,b::m,ha,hb,h=>by
  obtain⟨a1,a2⟩:=cD.1 ha;obtain⟨b1,b2⟩:=cD.1 hb
  have hab:a=b:=by
   rcases aX.1 ((h a).1 aK) with e|e
   ·exact e
   ·rcases aX.1 ((h b).2 aK) with f|f
    ·exact f.symm
    ·have:=b1 a e;have:=a1 b f;omega
  subst hab
  have hlm:l=m:=SS.uniq a2 b2 fun y=>by
   constructor
   ·intro hy;rcases aX.1 ((h y).1 (aL _ hy)) with e|e
    ·have:=a1 y hy;omega
    ·exact e
   ·intro hy;rcases aX.1 ((h y).2 (aL _ hy)) with e|e
    ·have:=b1 y hy;omega
    ·exact e
  rw[hlm]
theorem Gt {A B:List Int} {x:Int} (h:SS (A++B)) (ha: ∀y∈A,y<x) (hb: ∀y∈B,x<y):SS (A++ [x] ++B):=by
 obtain⟨h1,h2,h3⟩:=ci.1 h;refine ci.2 ⟨ci.2 ⟨h1,cH _ _,fun a h b hb'=> ?_⟩,h2,fun a h b hb'=> ?_⟩
 ·rw[aD.1 hb'];exact ha a h
 ·rcases aY.1 h with h|h
  ·exact h3 a h b hb'
  ·rw[aD.1 h];exact hb b hb'
theorem Qw (l:List Int) (x:Int) (hl:l.length<=1000) (hs:SS l): ∃r,kr l x=some (r,())/\SS r/\(∀y,y∈r↔y=x\/y∈l)/\r.length<=l.length+1/\(x∉l->r.length=l.length+1):=by
 have hm:l.length<=maxLen:=by unfold maxLen; omega
 rcases vX (B:=mt) l.length (fun k=>((l,x,(k:Int),()),(),())) ((l,x,(l.length:Int),()),(),()) (fun k=>((l,x,(k:Int),()),(),())) (fun k=>match l[k]? with |some y=> !decide (y<x)|none=>false)
  (by simp only[mt]; rw[ei,if_neg (by omega)])
  (fun k hk=>by
    have c1: (k:Int)< (l.length:Int):=by omega
    have c2: (0:Int)<=(k:Int):=by omega
    simp only[mt,ei,en,if_pos c1,if_pos c2,aw,ah hk,ae,ec hm hk];by_cases h:l[k]<x<;>simp[h]) with ⟨k1,k2⟩| ⟨i,hi,k1,k2,k3⟩
 ·have all: ∀y∈l,y<x:=by
   intro y hy;obtain⟨k,hk,rfl⟩:=aJ hy;have:=k2 k hk;rw[ah hk] at this;simpa using this
  refine⟨l++ [x],Gq l x hl all,?_,?_,?_,fun _=>by simp⟩
  ·have:=Gt (A:=l) (B:= []) (x:=x) (by simpa using hs) all (by simp);simpa using this
  ·intro y;simp[or_comm]
  ·simp
 ·rw[ah hi] at k2;simp only[b8,decide_eq_false_iff_not,Int.not_lt] at k2
  have lt: ∀y∈l.take i,y<x:=by
   intro y hy;obtain⟨j,hj,rfl⟩:=aJ hy;have hj':j<i:=by simp at hj; omega
   have:=k3 j hj';rw[ah (by omega)] at this;rw[cR];simpa using this
  have hd:l.drop i=l[i]::l.drop (i+1):=bO hi;have hsp:l.take i++l.drop i=l:=dj i l
  have ge: ∀y∈l.drop i,l[i] <=y:=by
   intro y hy;rw[hd] at hy;rcases aX.1 hy with rfl|hy
   ·exact bQ _
   ·have h2:SS (l.drop i):=List.Pairwise.sublist (List.drop_sublist i l) hs;rw[hd] at h2;exact dG ((cD.1 h2).1 y hy)
  unfold kr;rw[show zN ((l,x,0,()),(),())=_ from k1];have c1: (i:Int)< (l.length:Int):=by omega
  have c2: (0:Int)<=(i:Int):=by omega
  simp only[ae,ei,lh,en,if_pos c1,if_pos c2,aw,ah hi,be];by_cases he:l[i] =x
  ·simp only[if_pos he,if_pos (lP (show l.length<=1048576 by omega))];refine⟨l,rfl,hs,fun y=>⟨.inr,?_⟩,by omega,fun h=>absurd (by rw[<-he]; exact ba hi) h⟩
   rintro (rfl|h)
   ·rw[<-he];exact ba hi
   ·exact h
  ·have d1: (0:Int)<=0/\(0:Int)<=(i:Int)/\(i:Int)<=(l.length:Int):=by omega
   have d2: (0:Int)<=(i:Int)/\(i:Int)<=(l.length:Int)/\(l.length:Int)<=(l.length:Int):=by omega
   have e1: (l.drop i).take (l.length-i)=l.drop i:=bD (by simp);simp only[if_neg he,if_pos d1,if_pos d2,dS,bP,cY,e1];rw[if_pos (lP (by simp; omega)),if_pos (lP (by simp; omega)),if_pos (lP (by simp; omega))];refine⟨_,rfl,Gt (by rw[hsp]; exact hs) lt (fun y hy=> ?_),fun y=> ?_,by simp; omega,fun _=>by simp; omega⟩
   ·have:=ge y hy;omega
   ·conv=>rhs; rw[<-hsp]
    simp only[aY,aD];constructor
    ·rintro ((h|h)|h)
     ·exact .inr (.inl h)
     ·exact .inl h
     ·exact .inr (.inr h)
    ·rintro (h|h|h)
     ·exact .inl (.inr h)
     ·exact .inl (.inl h)
     ·exact .inr h
theorem Rd {β:Type} (l:List Int) (hl:l.length<=500) {mk:Nat->List Int->β} {ε:Type} {B:β->Option (β⊕ε)} {E:List Int->ε}
  (h0: ∀v,B (mk l.length v)=some (.inr (E v)))
  (h1: ∀k v x,l[k]? =some x->B (mk k v)=(kr v x).bind fun y=>some (.inl (mk (k+1) y.1)))
  (v:List Int) (hv:SS v) (hvl:v.length<=500): ∃r,ii B (mk 0 v)=some (E r)/\SS r/\(∀y,y∈r↔y∈v\/y∈l)/\r.length<=v.length+l.length:=by
 have go: ∀ (n k:Nat) (v:List Int),k+n=l.length->SS v->v.length+n<=1000-> ∃r,ii B (mk k v)=some (E r)/\SS r/\(∀y,y∈r↔y∈v\/y∈l.drop k)/\r.length<=v.length+n:=by
  intro n
  induction n with
  |zero=>
   intro k v hk hv _;have :k=l.length:=by omega
   subst this;exact⟨v,i6 (h0 v),hv,by simp,by omega⟩
  |succ n ih=>
   intro k v hk hv hn;have hlt:k<l.length:=by omega
   obtain⟨r,r1,r2,r3,r4,_⟩:=Qw v l[k] (by omega) hv;obtain⟨s,s1,s2,s3,s4⟩:=ih (k+1) r (by omega) r2 (by omega);refine⟨s,?_,s2,fun y=> ?_,by omega⟩
   ·rw[rk (by rw[h1 k v _ (ah hlt),r1]; rfl)];exact s1
   ·rw[s3,r3,bO hlt,aX];constructor
    ·rintro ((h|h)|h)
     ·exact .inr (.inl h)
     ·exact .inl h
     ·exact .inr (.inr h)
    ·rintro (h|h|h)
     ·exact .inl (.inr h)
     ·exact .inl (.inl h)
     ·exact .inr h
 obtain⟨r,h1,h2,h3,h4⟩:=go l.length 0 v (by omega) hv (by omega);rw[bP] at h3;exact⟨r,h1,h2,h3,h4⟩
theorem J2 (a b:List Int) (ha:a.length<=100) (hb:b.length<=100): ∃r,kA a b=some (r,())/\SS r/\(∀y,y∈r↔y∈a\/y∈b)/\r.length<=a.length+b.length:=by
 have am:a.length<=maxLen:=by unfold maxLen; omega
 have bm:b.length<=maxLen:=by unfold maxLen; omega
 obtain⟨r,r1,r2,r3,r4⟩:=Rd (B:=jo) (mk:=fun k v=>((a,b,(),(k:Int),()),(),(v,()))) (E:=fun v=>((b,(),()),(),(v,()))) a (by omega)
  (fun v=>by simp only[jo]; rw[ei,if_neg (by omega)])
  (fun k v x hx=>by
    have hk:=je hx;have c1: (k:Int)< (a.length:Int):=by omega
    have c2: (0:Int)<=(k:Int):=by omega
    simp only[jo,ei,en,if_pos c1,if_pos c2,aw,hx,ae,ec am hk])
  [] List.Pairwise.nil (aA _)
 obtain⟨s,s1,s2,s3,s4⟩:=Rd (B:=jq) (mk:=fun k v=>((b,(),(k:Int),()),(),(v,()))) (E:=fun v=>(((),()),(),(v,()))) b (by omega)
  (fun v=>by simp only[jq]; rw[ei,if_neg (by omega)])
  (fun k v x hx=>by
    have hk:=je hx;have c1: (k:Int)< (b.length:Int):=by omega
    have c2: (0:Int)<=(k:Int):=by omega
    simp only[jq,ei,en,if_pos c1,if_pos c2,aw,hx,ae,ec bm hk])
  r r2 (by simp at r4; omega)
 unfold kA;rw[show tF ((a,b,(),0,()),(),([],()))=_ from r1];simp only[ae];rw[show tH ((b,(),0,()),(),(r,()))=_ from s1];refine⟨s,rfl,s2,fun y=> ?_,by simp at r4; omega⟩;rw[s3,r3];simp
def SL (l:List Int):Prop:=l.Pairwise (· <= ·)
theorem Qx (A R:List Int) (a x:Int): ((A++a::x::R).set (A.length+1) a).set A.length x=A++x::a::R:=by
 induction A with
 |nil=>rfl
 |cons b A ih=>simp only[cI,bB,List.set_cons_succ,ih]
theorem Ou (D:List Int) (n k:Int) (x:Int) (hn:n<=12): ∀ (A C:List Int),A.length+C.length+D.length<=12->SL (A++C)->(∀c∈C,x<c)->
  ∃Q,gp (((),0,n,k,(A.length:Int),()),(),(A++x:: (C++D),()))=some (((),0,n,k,()),(),(Q++D,()))/\SL Q/\Q.Perm (x:: (A++C)):=by
 intro A
 induction h:A.length generalizing A with
 |zero=>intro C hl hs hc;have :A= [] :=da.1 h;subst this;refine⟨x::C,i6 ?_,cD.2 ⟨fun c h=>dG (hc c h),hs⟩,by simp⟩;simp only[eW,ei];rw[if_neg (by simp)];rfl
 |succ m ih=>
  intro C hl hs hc;obtain⟨A',a,rfl⟩: ∃A' a,A=A'++ [a] :=⟨A.dropLast,A.getLast (by intro e; subst e; simp at h),(List.dropLast_concat_getLast _).symm⟩
  have hm:A'.length=m:=by simpa using h
  have c1: ((m+1:Nat):Int)>0:=by omega
  have hlen: ((A'++ [a])++x:: (C++D)).length=m+2+C.length+D.length:=by simp; omega
  have c2: (0:Int)<=((m+1:Nat):Int)/\((m+1:Nat):Int)< (((A'++ [a])++x:: (C++D)).length:Int):=by rw[hlen]; omega
  have c3: (0:Int)<=((m+1-1:Nat):Int)/\((m+1-1:Nat):Int)< (((A'++ [a])++x:: (C++D)).length:Int):=by rw[hlen]; omega
  have e1: ((A'++ [a])++x:: (C++D))[m+1]? =some x:=by rw[<-h,bq (by simp)]; simp
  have e2: ((A'++ [a])++x:: (C++D))[m+1-1]? =some a:=by rw[bh (by simp; omega),bq (by omega)];simp[hm]
  have pw:IntKind.wrap .i64 (((m+1:Nat):Int)-1)=((m+1-1:Nat):Int):=ku (by omega) (by unfold maxLen; omega)
  have less:lc x a=some (decide (x<a),()):=by unfold lc lI;simp only[beq_self_eq_true,bC,ae,eJ]
  by_cases hxa:x<a
  ·have hsw: (((A'++ [a])++x:: (C++D)).set (m+1) a).set (m+1-1) x=A'++x:: ((a::C)++D):=by
    have:=Qx A' (C++D) a x;rw[hm] at this;simpa using this
   have c5:m+1-1< (((A'++ [a])++x:: (C++D)).set (m+1) a).length:=by rw[aZ,hlen];omega
   have hz:=ah c5
   obtain⟨Q,q1,q2,q3⟩:=ih A' hm (a::C) (by simp at hl ⊢; omega) (by simpa using hs) (fun c h=>by
    rcases aX.1 h with rfl|h
    ·exact hxa
    ·exact hc c h)
   refine⟨Q,?_,q2,q3.trans (by simp)⟩;unfold gp at q1 ⊢;rw[<-q1];refine rk ?_;simp only[eW,ei,en,if_pos c1,if_pos c2,pw,if_pos c3,aw,e1,e2,ae,less,if_pos hxa,hz,hsw];rfl
  ·have hall: ∀y∈A',y<=a:=by
    intro y hy;have h1:SL (A'++ [a]):=(ci.1 hs).1;exact (ci.1 h1).2.2 y hy a (by simp)
   refine⟨(A'++ [a])++x::C,?_,?_,?_⟩
   ·refine i6 ?_;rw[show (A'++ [a])++x::C++D=(A'++ [a])++x:: (C++D) by simp];simp only[eW,ei,en,if_pos c1,if_pos c2,pw,if_pos c3,aw,e1,e2,ae,less,if_neg hxa]
   ·obtain⟨p1,p2,p3⟩:=ci.1 hs;refine ci.2 ⟨p1,cD.2 ⟨fun c h=>dG (hc c h),p2⟩,fun y hy z hz=> ?_⟩
    have hyx:y<=x:=by
     rcases aY.1 hy with h|h
     ·have:=hall y h;omega
     ·rw[aD.1 h];omega
    rcases aX.1 hz with rfl|hz
    ·exact hyx
    ·have:=hc z hz;omega
   ·exact List.perm_middle
theorem Eu (l:List Int) (hl:l.length<=12): ∃r,eZ l 0 (l.length:Int)=some (r,())/\SL r/\r.Perm l:=by
 have hm:l.length<=maxLen:=by unfold maxLen; omega
 unfold eZ;cases l with
 |nil=>
  refine⟨[],?_,List.Pairwise.nil,List.Perm.refl _⟩
  rw[show gq (((),0,(([]:List Int).length:Int),IntKind.wrap .i64 (0+1),()),(),([],()))=some ((()),(),([],())) from i6 (by rw[show IntKind.wrap .i64 ((0:Int)+1)=((1:Nat):Int) from by rw[ff (by omega) (by omega)]; rfl];simp only[eC,ei];rw[if_neg (by simp)])]
  rfl
 |cons b l=>
  generalize hL:b::l=L at hl hm;have hpos:0<L.length:=by rw[<-hL]; simp
  have outer:=sq (B:=eC) (fun s=> ∃ (k:Nat) (Q:List Int),0<k/\k<=L.length/\Q.length=k/\SL Q/\Q.Perm (L.take k)/\s=(((),0,(L.length:Int),(k:Int),()),(),(Q++L.drop k,()))) (fun s=>L.length-s.1.2.2.2.1.toNat) (fun e=> ∃Q:List Int,SL Q/\Q.Perm L/\e=((()),(),(Q,())))
   (fun s hs=>by
     obtain⟨k,Q,h0,hk,hq,hq2,hq3,rfl⟩:=hs;by_cases hlt:k<L.length
     ·have c1: (k:Int)< (L.length:Int):=by omega
      obtain⟨R,r1,r2,r3⟩:=Ou (L.drop (k+1)) (L.length:Int) (k:Int) L[k] (by omega) Q [] (by simp; omega) (by simpa using hq2) (by simp);have hd:L.drop k=L[k]::L.drop (k+1):=bO hlt;rw[hq,be,<-hd] at r1;refine .inl ⟨(((),0,(L.length:Int),((k+1:Nat):Int),()),(),(R++L.drop (k+1),())),?_,⟨k+1,R,by omega,by omega,?_,r2,?_,rfl⟩,?_⟩
      ·simp only[eC,ei,if_pos c1,r1,ae,ec hm hlt]
      ·rw[r3.length_eq];simp[hq]
      ·rw[bH,ah hlt];refine r3.trans ?_;rw[bT];refine List.Perm.trans ?_ (List.perm_append_comm);simpa using hq3
      ·simp only[aw];omega
     ·have :k=L.length:=by omega
      subst this;refine .inr ⟨_,by simp only[eC,ei]; rw[if_neg (by omega)],Q,hq2,by simpa using hq3,by simp⟩)
   (s:=(((),0,(L.length:Int),((1:Nat):Int),()),(),(L,()))) ⟨1,L.take 1,by omega,by omega,by simp; omega,by rw[<-hL]; simp[SL],List.Perm.refl _,by rw[dj]⟩
  obtain⟨e,h1,Q,q1,q2,rfl⟩:=outer;rw[show IntKind.wrap .i64 ((0:Int)+1)=((1:Nat):Int) from by rw[ff (by omega) (by omega)]; rfl,show gq (((),0,(L.length:Int),((1:Nat):Int),()),(),(L,()))=_ from h1];exact⟨Q,rfl,q1,q2⟩
theorem Se {n:Nat} (hn:n<=12): ∃m,vU (IntKind.wrap .u64 (n:Int))=some (m,()):=by
 have :n<=5\/n=6\/n=7\/n=8\/n=9\/n=10\/n=11\/n=12:=by omega
 rcases this with h|rfl|rfl|rfl|rfl|rfl|rfl|rfl
 ·exact Dt h
 ·exact⟨3,by kernel_rfl⟩
 ·exact⟨3,by kernel_rfl⟩
 ·exact⟨4,by kernel_rfl⟩
 ·exact⟨4,by kernel_rfl⟩
 ·exact⟨4,by kernel_rfl⟩
 ·exact⟨4,by kernel_rfl⟩
 ·exact⟨4,by kernel_rfl⟩
theorem Qy (l:List Int) (hl:l.length<=12): ∃r,jD l=some (r,())/\SL r/\r.Perm l:=by
 obtain⟨m,hm⟩:=Se hl;obtain⟨r,r1,r2,r3⟩:=Eu l hl
 have hp:fJ l 0 (l.length:Int) m=some (r,()):=by
  unfold fJ
  have :jC (((),0,(l.length:Int),m,true,true,()),(),(l,()))=some ((()),(),(r,())):=by refine i6 ?_;simp only[gD];rw[ff (by omega) (by omega),ei,if_pos (by omega),r1,ae,gA r3.length_eq]
  rw[this];rfl
 unfold jD;simp only[hm,ae,hp];exact⟨r,gA r3.length_eq _ _,r2,r3⟩
theorem Gu (l:List Int) (hl:l.length<=1000) (hs:SL l) (k0:Nat) (h0:0<k0) (hk:k0<l.length) (hss:SS (l.take k0)) (heq:l[k0] =l[k0-1]):
  ∃e,qw (((),(k0:Int),(k0,l.length-k0),1,()),(),(l,()))=some e/\ ∃ (kk:Nat) (v:List Int),e=(((),(kk:Int),()),(),(v,()))/\kk<=l.length/\v.length=l.length/\SS (v.take kk)/\ ∀y,y∈v.take kk↔y∈l:=by
 have hm:l.length<=maxLen:=by unfold maxLen; omega
 have mem0: ∀y,y∈l.take k0↔y∈l.take (k0+1):=by
  intro y;rw[bH,ah hk,heq];simp only[dz,aY,aD];refine⟨.inl,?_⟩
  rintro (h|rfl)
  ·exact h
  ·rw[List.mem_take_iff_getElem];exact⟨k0-1,by omega,rfl⟩
 refine sq (B:=iv) (fun s=> ∃ (kk k2:Nat) (v:List Int),s=(((),(kk:Int),(k0,l.length-k0),(k2:Int),()),(),(v,()))/\0<k2/\k0+k2<=l.length/\k0<=kk/\kk+1<=k0+k2/\v.length=l.length/\SS (v.take kk)/\(∀y,y∈v.take kk↔y∈l.take (k0+k2))/\v.drop (k0+k2-1)=l.drop (k0+k2-1)) (fun s=>l.length-s.1.2.2.2.1.toNat) _
  (fun s hI=> ?_) (s:=(((),(k0:Int),(k0,l.length-k0),((1:Nat):Int),()),(),(l,()))) ⟨k0,1,l,rfl,by omega,by omega,by omega,by omega,rfl,hss,mem0,rfl⟩
 obtain⟨kk,k2,v,rfl,a1,a2,a3,a4,a5,a6,a7,a8⟩:=hI;by_cases hlt:k0+k2<l.length
 ·left;have c1: (k2:Int)< ((l.length-k0:Nat):Int):=by omega
  have c2: (0:Int)<=(k2:Int)/\(k2:Int)< ((l.length-k0:Nat):Int):=by omega
  have c3: (0:Int)<=((k2-1:Nat):Int)/\((k2-1:Nat):Int)< ((l.length-k0:Nat):Int):=by omega
  have c4: (0:Int)<=(kk:Int)/\(kk:Int)< (v.length:Int):=by omega
  have g1:v[k0+(k2-1)]? =some l[k0+k2-1] :=by have:=congrArg (fun z:List Int=>z[0]?) a8;simp only[bw,bX] at this;rw[show k0+(k2-1)=k0+k2-1 by omega,this];exact ah _
  have g2:v[k0+k2]? =some l[k0+k2] :=by have:=congrArg (fun z:List Int=>z[1]?) a8;simp only[bw] at this;rw[show k0+k2-1+1=k0+k2 by omega] at this;rw[this];exact ah _
  have g3:v[kk]? =some (v[kk]'(by omega)):=ah _;have hle:l[k0+k2-1] <=l[k0+k2] :=bE.1 hs _ _ (by omega) hlt (by omega)
  have hdd:v.drop (k0+k2)=l.drop (k0+k2):=by have:=congrArg (List.drop 1) a8;simpa [cr,show k0+k2-1+1=k0+k2 by omega] using this
  have hta:l.take (k0+k2+1)=l.take (k0+k2)++ [l[k0+k2]] :=by rw[bH,ah hlt]; rfl
  have inb: ∀y∈l.take (k0+k2),y<=l[k0+k2-1] :=by
   intro y hy;obtain⟨j,hj,rfl⟩:=aJ hy;have hj':j<k0+k2:=by simp at hj; omega
   rw[cR];by_cases e:j=k0+k2-1
   ·subst e;exact bQ _
   ·exact bE.1 hs _ _ (by omega) (by omega) (by omega)
  have hkm:k2<l.length:=by omega
  have hkm':kk<l.length:=by omega
  simp only[iv,ei,ef,lh,en,if_pos c1,if_pos c2,ku a1 (by unfold maxLen; omega),if_pos c3,aw,g1,g2,ae,ec hm hkm,ec hm hkm',if_pos c4,g3];by_cases he:l[k0+k2] =l[k0+k2-1]
  ·simp only[if_pos he];refine⟨_,rfl,⟨kk,k2+1,v,rfl,by omega,by omega,a3,by omega,a5,a6,fun y=> ?_,hdd⟩,?_⟩
   ·rw[a7,show k0+(k2+1)=k0+k2+1 by omega,hta,he];simp only[aY,aD];refine⟨.inl,?_⟩
    rintro (h|rfl)
    ·exact h
    ·rw[List.mem_take_iff_getElem];exact⟨k0+k2-1,by omega,rfl⟩
   ·simp only[aw];omega
  ·simp only[if_neg he];have hts: (v.set kk l[k0+k2]).take (kk+1)=v.take kk++ [l[k0+k2]] :=wQ _ (by omega);refine⟨_,rfl,⟨kk+1,k2+1,v.set kk l[k0+k2],rfl,by omega,by omega,by omega,by omega,by simp[a5],?_,fun y=> ?_,?_⟩,?_⟩
   ·rw[hts]
    have:=Gt (A:=v.take kk) (B:= []) (x:=l[k0+k2]) (by simpa using a6) (fun y hy=>by have:=inb y ((a7 y).1 hy);omega) (by simp)
    simpa using this
   ·rw[hts,show k0+(k2+1)=k0+k2+1 by omega,hta];simp only[aY,a7]
   ·rw[show k0+(k2+1)-1=k0+k2 by omega,dy (by omega),hdd]
   ·simp only[aw];omega
 ·right;have hkk:k0+k2=l.length:=by omega
  refine⟨_,by simp only[iv,ei]; rw[if_neg (by omega)],kk,v,rfl,by omega,a5,a6,fun y=> ?_⟩;rw[a7,hkk,bG]
theorem J3 (l:List Int) (hl:l.length<=1000) (hs:SL l): ∃r,it l=some (r,())/\SS r/\(∀y,y∈r↔y∈l)/\r.length<=l.length:=by
 have hm:l.length<=maxLen:=by unfold maxLen; omega
 unfold it;rw[ei];split
 ·refine⟨l,rfl,?_,fun _=>Iff.rfl,aq _⟩
  match l with
  | [] =>exact List.Pairwise.nil
  | [a] =>exact cH _ _
  |a::b::l=>simp at*; omega
 ·have gO:=sq (B:=fv) (fun s=> ∃k:Nat,0<k/\k<=l.length/\SS (l.take k)/\s=(((),(k:Int),()),(),(l,()))) (fun s=>l.length-s.1.2.1.toNat)
   (fun e=>(e= .inr (((),(),()),(),(l,()))/\SS l)\/ ∃ (kk:Nat) (W:List Int),e= .inl (((),(0,kk),()),(),(W,()))/\kk<=W.length/\kk<=l.length/\SS (W.take kk)/\ ∀y,y∈W.take kk↔y∈l)
   (fun s hI=>by
     obtain⟨k,h0,hkl,hss,rfl⟩:=hI;by_cases hk:k<l.length
     ·have c1: (k:Int)< (l.length:Int):=by omega
      have c2: (0:Int)<=(k:Int)/\(k:Int)< (l.length:Int):=by omega
      have c3: (0:Int)<=((k-1:Nat):Int)/\((k-1:Nat):Int)< (l.length:Int):=by omega
      have c4: (0:Int)<=(k:Int)/\(k:Int)<=(l.length:Int)/\(l.length:Int)<=(l.length:Int):=by omega
      have e1:l[k]? =some l[k] :=ah hk;have e2:l[k-1]? =some l[k-1] :=ah (by omega);by_cases he:l[k] =l[k-1]
      ·right;obtain⟨e,f1,kk,v,rfl,f2,f3,f4,f5⟩:=Gu l hl hs k h0 hk hss he;have d1: (0:Int)<=(kk:Int)/\(kk:Int)<=(v.length:Int)/\(v.length:Int)<=(v.length:Int):=by omega
       have d2:kk+(v.length-kk)<=v.length:=by omega
       have d3: (0:Int)<=0/\(0:Int)<=(kk:Int)/\(kk:Int)<=(v.length:Int):=by omega
       simp only[fv,ei,en,if_pos c1,if_pos c2,ku h0 (by omega),if_pos c3,aw,e1,e2,ae,lh,if_pos he,if_pos c4,aQ];rw[f1];simp only[ae,aw,if_pos d1,if_pos d2,if_pos d3,dS,cY]
       have ht: (v.take kk++List.replicate (v.length-kk) 0++v.drop (kk+(v.length-kk))).take kk=v.take kk:=by rw[bF,db (by simp; omega),List.take_take,Nat.min_self]
       refine⟨_,rfl, .inr ⟨kk,_,rfl,by simp; omega,f2,by rw[ht]; exact f4,fun y=>by rw[ht]; exact f5 y⟩⟩
      ·left;have hle:l[k-1] <=l[k] :=bE.1 hs _ _ (by omega) hk (by omega);refine⟨(((),((k+1:Nat):Int),()),(),(l,())),?_,⟨k+1,by omega,by omega,?_,rfl⟩,?_⟩
       ·simp only[fv,ei,en,if_pos c1,if_pos c2,ku h0 (by omega),if_pos c3,aw,e1,e2,ae,lh,ec hm hk,if_neg he]
       ·rw[bH,e1]
        have:=Gt (A:=l.take k) (B:= []) (x:=l[k]) (by simpa using hss) (fun y hy=>by
         obtain⟨j,hj,rfl⟩:=aJ hy;have hj':j<k:=by simp at hj; omega
         rw[cR]
         have :l[j] <=l[k-1] :=by
          by_cases e:j=k-1
          ·subst e;exact bQ _
          ·exact bE.1 hs _ _ (by omega) (by omega) (by omega)
         omega) (by simp)
        simpa using this
       ·simp only[aw];omega
     ·have hk':k=l.length:=by omega
      subst hk';rw[bG] at hss;exact .inr ⟨_,by simp only[fv,ei]; rw[if_neg (by omega)], .inl ⟨rfl,hss⟩⟩)
   (s:=(((),((1:Nat):Int),()),(),(l,()))) ⟨1,by omega,by omega,by
     cases l with
     |nil=>exact List.Pairwise.nil
     |cons a l=>exact cH _ _,rfl⟩
  obtain⟨e,h1,h2⟩:=gO;rw[show mF (((),1,()),(),(l,()))=_ from h1];rcases h2 with ⟨rfl,h2⟩| ⟨kk,W,rfl,h3,h4,h5,h6⟩
  ·exact⟨l,rfl,h2,fun _=>Iff.rfl,aq _⟩
  ·refine⟨W.take kk,?_,h5,h6,by simp; omega⟩;simp only[ae,cZ];exact gA ⟨trivial,h3⟩ _ _
theorem Ms (l:List Int) (hl:l.length<=12): ∃r,kR l=some (r,())/\SS r/\(∀y,y∈r↔y∈l)/\r.length<=l.length:=by obtain⟨s,s1,s2,s3⟩:=Qy l hl;have sl:=s3.length_eq;obtain⟨r,r1,r2,r3,r4⟩:=J3 s (by omega) s2;unfold kR k9;rw[gA (lP (by omega)),ae,s1,ae,gA sl,r1];exact⟨r,rfl,r2,fun y=>by rw[r3,s3.mem_iff],by omega⟩
theorem TA (a b:List Int) (h:a.length+b.length<=12): ∃r,kA a b=some (r,())/\me a b=some (r,())/\SS r/\(∀y,y∈r↔y∈a\/y∈b)/\r.length<=a.length+b.length:=by
 obtain⟨r,r1,r2,r3,r4⟩:=J2 a b (by omega) (by omega);obtain⟨s,s1,s2,s3,s4⟩:=Ms (a++b) (by simp; omega);have hrs:r=s:=r2.uniq s2 fun y=>by rw[r3,s3,aY]
 subst hrs;refine⟨r,r1,?_,r2,r3,r4⟩;unfold me
 have hc:=Mr [a,b] (by simp) (by intro x hx;simp only[aX,List.not_mem_nil,or_false] at hx;rcases hx with rfl|rfl<;>omega)
 rw[hc,ae,show ([a,b]:List (List Int)).flatten=a++b by simp,s1];rfl
end Go.Proofs.YtadabkgmdllbfabGreat.En
namespace Go.Proofs.YtadabkgmdllbfabGreat.En
open Go
theorem vZ (m:eh) (e:Int) (h:sb 1048576 m) (hv:fS m=some (true,())): ∃c b,jA m e=some (c,b,())/\mb m e=some (c,b,())/\iu maxLen c/\(b=j8 e 1 (m.configs.length:Int))/\(b=true->eA c=some (true,())/\c.epoch=e)/\(b=false->c=⟨0,0,[],[]⟩):=by
 obtain⟨b,m1,m2⟩:=masterLog m (kL h);rw[hv] at m1;simp only[af,an,and_true] at m1;subst m1;obtain⟨f1,_,_⟩:=Bs (kL h) hv;have zero:iu maxLen ⟨0,0,[],[]⟩:=⟨aA _,aA _⟩
 have hl:=h.1;unfold jA mb;simp only[hv,m2,gF,qm,ae,ef,ev];cases hw:j8 e 1 (m.configs.length:Int) with
 |false=>exact⟨_,_,rfl,rfl,zero,rfl,nofun,fun _=>rfl⟩
 |true=>
  have hw:=eL.1 hw;simp only[ev];rw[ff (n:=e-1) (by omega) (by omega)];have hlt: (e-1).toNat<m.configs.length:=by omega
  have hk:=h.2 _ (ba hlt)
  have copy: ∀c:ed,iu 1048576 c->kw c=some (c,())/\iq c=some (c,()):=by intro c hc;unfold kw iq;simp only[be];rw[gA (lP hc.1),gA (lP hc.2)];exact⟨rfl,rfl⟩
  rw[gA (by omega),gA (by omega),ah hlt];simp only[ae,(copy _ hk).1,(copy _ hk).2];refine⟨_,_,rfl,rfl,eG hk,rfl,fun _=>⟨(f1 _ hlt).1,?_⟩,nofun⟩;rw[(f1 _ hlt).2];omega
theorem qn (x:dX) (ok:ft 1048576 x) (hv:eb x=some (true,())): ∃c b,eM x.master=some (c,b,())/\iC x.master=some (c,b,())/\iu maxLen c/\(b=decide (x.master.activated>0))/\(b=true->eA c=some (true,())/\c.epoch=x.master.activated)/\(b=false->c=⟨0,0,[],[]⟩):=by
 have vc:=gR ok hv;obtain⟨_,f2,f3⟩:=Bs (kL ok.2.2.1) vc.ml;obtain⟨c,b,c1,c2,c3,c4,c5,c6⟩:=vZ x.master x.master.activated ok.2.2.1 vc.ml;unfold eM iC;rw[c1,c2];refine⟨c,b,rfl,rfl,c3,?_,c5,c6⟩;rw[c4];unfold j8;rw[decide_eq_true f3,dw];by_cases h:x.master.activated>0
 ·rw[decide_eq_true h,decide_eq_true (by omega)]
 ·rw[decide_eq_false h,decide_eq_false (by omega)]
end Go.Proofs.YtadabkgmdllbfabGreat.En
namespace Go.Proofs.YtadabkgmdllbfabGreat.En
open Go
def yZ (p:Nat->Bool) (n:Nat):List Int:=((List.range n).filter p).map fun (k:Nat)=>(k:Int)
theorem IB (p:Nat->Bool) (n:Nat):yZ p (n+1)=yZ p n++if p n=true then [(n:Int)] else [] :=by
 unfold yZ;rw[List.range_succ,cf,b0]
 congr 1
 cases h:p n<;>simp[h]
theorem Gv (p:Nat->Bool) (n:Nat) (x:Int):x∈yZ p n↔ ∃k:Nat,k<n/\p k=true/\x=(k:Int):=by
 unfold yZ;simp only[aM,cO,bM];constructor
 ·rintro⟨k,⟨h1,h2⟩,rfl⟩; exact⟨k,h1,h2,rfl⟩
 ·rintro⟨k,h1,h2,rfl⟩; exact⟨k,⟨h1,h2⟩,rfl⟩
theorem La (p:Nat->Bool) (n:Nat): (yZ p n).length<=n:=by unfold yZ;rw[aN];exact aO (dp _ _) (by simp)
theorem Lb (p:Nat->Bool) {n:Nat} (hn:n<=5):sa (yZ p n):=by
 have hp: (yZ p n).Pairwise (· < ·):=by unfold yZ;rw[List.pairwise_map];exact (List.Pairwise.filter _ List.pairwise_lt_range).imp fun h=>by omega
 intro k hk;have hm: (yZ p n)[k] ∈yZ p n:=ba hk;obtain⟨j,h1,_,h2⟩:=(Gv p n _).1 hm;exact⟨⟨by omega,by omega⟩,fun h0=>bE.1 hp (k-1) k (by omega) hk (by omega)⟩
theorem Qz (p q:Nat->Bool) (n:Nat): (yZ p n).filter (fun x=>decide (x∈yZ q n))=yZ (fun k=>p k&&q k) n:=by
 unfold yZ;rw[List.filter_map,List.filter_filter]
 congr 1
 apply List.filter_congr;intro k hk;have hk:=bM.1 hk
 have : (((fun x=>decide (x∈yZ q n))∘fun (k:Nat)=>(k:Int)) k)=q k:=by
  show decide ((k:Int)∈yZ q n)=q k;cases hq:q k with
  |true=>exact decide_eq_true ((Gv q n _).2 ⟨k,hk,hq,rfl⟩)
  |false=>
   refine decide_eq_false fun h=> ?_;obtain⟨j,_,h1,h2⟩:=(Gv q n _).1 h;have :j=k:=by omega
   subst this;rw[hq] at h1;cases h1
 have e:decide ((k:Int)∈List.map (fun (k:Nat)=>(k:Int)) (List.filter q (List.range n)))=q k:=this;simp only[Function.comp,e,Bool.and_comm]
def IC (x:dX) (k:Nat):Bool:=match x.servers[k]? with |some s=>s.up|none=>false
def v3 (l:List Int) (k:Nat):Bool:=match l[k]? with |some s=>s==0|none=>false
theorem Re {p:Nat->Bool} {k:Nat} (h:k<=1000) (y:Int): (yZ p k++ [y]).length*8<=2 ^ 40:=by have:=La p k;refine lP ?_;rw[az,aB];omega
theorem Mt (x:dX) (hl:x.servers.length=5) (hv:eb x=some (true,())):pR x=some (yZ (IC x) 5,()):=by
 have ex: (⟨x.now,x.servers,x.sides,⟨x.master.configs,x.master.activated⟩,x.masterUp,⟨x.lease.epoch,x.lease.holder,x.lease.ends⟩,x.places⟩:dX)=x:=rfl
 have gO:=lq (B:=lG) x.servers (fun k (b:List Int)=>(((),(),(k:Int),()),((x.now,x.servers,x.sides,x.master.configs,x.master.activated,x.masterUp,x.lease.epoch,x.lease.holder,x.lease.ends,x.places,()),()),(b,()))) (fun k b=>b=yZ (IC x) k) (fun _ _ _=>(((),()),(),(yZ (IC x) 5,())))
  (fun b hb=>by simp only[lG];rw[ei,if_neg (by omega),hb,hl])
  (fun k b s hs hb=>by
    have hk:=je hs;have c1: (k:Int)< (x.servers.length:Int):=by omega
    have c2: (0:Int)<=(k:Int):=by omega
    have hup:IC x k=s.up:=by unfold IC; rw[hs]
    subst hb;simp only[lG,ei,en,if_pos c1,if_pos c2,aw,hs,ae,ex,hv,ev,ec (n:=5) (by decide) (by omega:k<5),if_pos (Re (p:=IC x) (k:=k) (by omega) (k:Int))];refine .inl ⟨yZ (IC x) (k+1),?_,rfl,trivial⟩;rw[IB,hup];cases s.up
    ·simp;rfl
    ·rfl)
  0 [] (aA _) rfl
 unfold pR;rw[show wZ (((),(),0,()),((x.now,x.servers,x.sides,x.master.configs,x.master.activated,x.masterUp,x.lease.epoch,x.lease.holder,x.lease.ends,x.places,()),()),([],()))=_ from gO];rfl
theorem p9 {l:List Int} (hl:l.length<=maxLen) (hv:jz l=some (true,())):l.length=5:=by
 obtain⟨b,h1,h2⟩:=rV l hl;rw[hv] at h1;simp only[af,an,and_true] at h1;subst h1;unfold ny at h2;cases h: ((l.length:Int)==5) with
 |false=>rw[h] at h2; cases h2
 |true=>simp only[beq_iff_eq] at h; omega
theorem J4 (l:List Int) (hl:l.length=5) (hv:jz l=some (true,())):ou l=some (yZ (v3 l) 5,()):=by
 have gO:=lq (B:=kC) l (fun k (b:List Int)=>((l,(),(k:Int),()),(),(b,()))) (fun k b=>b=yZ (v3 l) k) (fun _ _ _=>(((),()),(),(yZ (v3 l) 5,())))
  (fun b hb=>by simp only[kC];rw[ei,if_neg (by omega),hb,hl])
  (fun k b s hs hb=>by
    have hk:=je hs;have c1: (k:Int)< (l.length:Int):=by omega
    have c2: (0:Int)<=(k:Int):=by omega
    have hup:v3 l k=(s==0):=by unfold v3; rw[hs]
    subst hb;simp only[kC,ei,en,if_pos c1,if_pos c2,aw,hs,ae,hv,ev,ec (n:=5) (by decide) (by omega:k<5),if_pos (Re (p:=v3 l) (k:=k) (by omega) (k:Int))];refine .inl ⟨yZ (v3 l) (k+1),?_,rfl,trivial⟩;rw[IB,hup];cases (s==0)
    ·simp;rfl
    ·rfl)
  0 [] (aA _) rfl
 unfold ou;rw[show vA ((l,(),0,()),(),([],()))=_ from gO];rfl
def Gw (x:dX) (k:Nat):Bool:=IC x k&&v3 x.sides k
theorem TB (x:dX) (ok:ft 1048576 x) (hv:eb x=some (true,())):rz x=some (yZ (Gw x) 5,()):=by have vc:=gR ok hv;have hsl:=p9 (eS ok.2.1) vc.sides;unfold rz;rw[Mt x vc.len hv,J4 x.sides hsl vc.sides];simp only[ae];rw[yX _ _ (Lb _ (aq 5)) (aO (La _ _) (by decide)),Qz];rfl
end Go.Proofs.YtadabkgmdllbfabGreat.En
namespace Go.Proofs.YtadabkgmdllbfabGreat.En
open Go
def oZ (x:dX) (a:Int):Int:=(x.sides[a.toNat]?).getD 0
theorem IE (x:dX) (ok:ft 1048576 x) (vc:VC x) {a b:Int} (ha:0<=a/\a<5) (hb:0<=b/\b<5):eY x.sides a b=some (oZ x a==oZ x b,())/\mf x.sides a b=some (oZ x a==oZ x b,()):=by
 have hl:=eS ok.2.1;have h5:=p9 hl vc.sides;obtain⟨v,s1,s2⟩:=rV x.sides hl;rw[vc.sides] at s1;simp only[af,an,and_true] at s1;subst s1;have wa:j8 a 0 4=true:=eL.2 (by omega);have wb:j8 b 0 4=true:=eL.2 (by omega);have la:a.toNat<x.sides.length:=by omega
 have lb:b.toNat<x.sides.length:=by omega
 unfold eY mf oZ;simp only[vc.sides,s2,gF,qm,wa,wb,ae,ev,en,if_pos ha.1,if_pos hb.1,ah la,ah lb,bn,and_self]
theorem sG {x:dX} (ok:ft 1048576 x) (vc:VC x) {a:Int} (ha:0<=a/\a<5): ∃s,x.servers[a.toNat]? =some s/\fX 1048576 s/\eR s a=some (true,()):=by
 have hlt:a.toNat<x.servers.length:=by rw[vc.len]; omega
 refine⟨_,ah hlt,ok.1.2 _ (ba hlt),?_⟩;have:=vc.srv _ hlt
 rwa [Int.toNat_of_nonneg ha.1] at this
def Gx (x:dX) (a b:Int):Bool:=(oZ x a==oZ x b)&&(match x.servers[b.toNat]?,x.servers[a.toNat]? with
 |some m,some p=>m.up&&(m.epoch==p.epoch)&&decide (m.commit<=(p.log.length:Int))&&decide (m.config=p.config)
 | _,_=>false)
theorem TC (x:dX) (ok:ft 1048576 x) (vc:VC x) {a b:Int} (ha:0<=a/\a<5) (hb:0<=b/\b<5):ke x a b=some (Gx x a b,())/\yT x a b=some (Gx x a b,()):=by obtain⟨p,p1,p2,_⟩:=sG ok vc ha;obtain⟨m,m1,m2,_⟩:=sG ok vc hb;obtain⟨h1,h2⟩:=IE x ok vc ha hb;obtain⟨e1,e2⟩:=gM m.config p.config (eG m2.1);unfold ke yT Gx;simp only[p1,m1,h1,h2,e1,e2,en,if_pos ha.1,if_pos hb.1,ae];cases (oZ x a==oZ x b)<;>cases m.up<;>cases (m.epoch==p.epoch)<;>cases (decide (m.commit<=(p.log.length:Int)))<;>cases (decide (m.config=p.config))<;>exact⟨rfl,rfl⟩
theorem rY (s:dZ) (id:Int) (h:fX 1048576 s): ∃b,fq s id=some (b,())/\mi s id=some (b,()):=by obtain⟨v,v1,v2⟩:=nS s id h;obtain⟨n,n1,n2,_⟩:=sZ s.config id (eG h.1);unfold fq mi;simp only[v1,v2,n1,n2,ae];cases v<;>cases s.up<;>cases (n==1)<;>exact⟨_,rfl,rfl⟩
theorem qU (c:ed) (h:iu maxLen c): ∃l,fD c=some (l,())/\nR c=some (l,())/\l.length<=10/\(∀y∈l,0<=y/\y<5)/\SS l/\(eA c=some (true,())-> ∀y,y∈l↔y∈c.replicas\/y∈c.witnesses):=by
 obtain⟨v,v1,v2⟩:=kS c h;unfold fD nR;simp only[v1,v2,ae,ef];cases v with
 |false=>exact⟨[],rfl,rfl,aA _,nofun,List.Pairwise.nil,nofun⟩
 |true=>
  obtain⟨a1,a2,_⟩:=oY h v1;have l1:=a1.len;have l2:=a2.len;obtain⟨r,r1,r2,r3,r4,r5⟩:=TA c.replicas c.witnesses (by omega)
  have rng: ∀ {l:List Int},sa l-> ∀y∈l,0<=y/\y<5:=by intro l ha y hy;obtain⟨k,hk,rfl⟩:=aJ hy;have:=(ha k hk).1;omega
  simp only[ev,r1,r2,ae];refine⟨r,rfl,rfl,by omega,fun y hy=> ?_,r3,fun _=>r4⟩;rcases (r4 y).1 hy with h|h
  ·exact rng a1 y h
  ·exact rng a2 y h
end Go.Proofs.YtadabkgmdllbfabGreat.En
namespace Go.Proofs.YtadabkgmdllbfabGreat.En
open Go
end Go.Proofs.YtadabkgmdllbfabGreat.En
namespace Go.Proofs.YtadabkgmdllbfabGreat.En
open Go
end Go.Proofs.YtadabkgmdllbfabGreat.En
namespace Go.Proofs.YtadabkgmdllbfabGreat.En
open Go
theorem Rf (x y:ek): ((x.epoch==y.epoch)&&((x.op.client==y.op.client)&&((x.op.seq==y.op.seq)&&((x.op.kind==y.op.kind)&&((x.op.object==y.op.object)&&((x.op.old==y.op.old)&&((x.op.value==y.op.value)&&true)))))))=decide (x=y):=by obtain⟨a,b,c,d,e,f,g⟩:=x;obtain⟨a',b',c',d',e',f',g'⟩:=y;rw[cb];simp[and_assoc]
theorem Ov (a b:List ek) (ha:a.length<=maxLen):kK a b=some (decide (a=b),()):=by
 unfold kK;rw[ef,lh];split
 ·rename_i hl;have hl:a.length=b.length:=by omega
  rcases vX (B:=jv) a.length (fun k=>((a,b,(a.length:Int),(k:Int),()),(),())) (.inr (((),()),(),())) (fun _=> .inl ((false,()),(),())) (fun k=>decide (a[k]? ≠b[k]?))
   (by simp only[jv]; rw[ei,if_neg (by omega)])
   (fun k hk=>by
     have c1: (k:Int)< (a.length:Int):=by omega
     have c2: (0:Int)<=(k:Int):=by omega
     have hk':k<b.length:=by omega
     simp only[jv,Rf,ef,ei,en,if_pos c1,if_pos c2,aw,ah hk,ah hk',ae,ec ha hk];by_cases h:a[k] =b[k]<;>simp[h]) with ⟨k1,k2⟩| ⟨i,hi,k1,k2,_⟩
  ·rw[show pn ((a,b,(a.length:Int),0,()),(),())=_ from k1]
   have :a=b:=List.ext_getElem hl fun k h1 h2=>by have:=k2 k h1;rw[ah h1,ah h2] at this;simpa using this
   rw[decide_eq_true this];rfl
  ·rw[show pn ((a,b,(a.length:Int),0,()),(),())=_ from k1]
   have :a≠b:=fun h=>by rw[h] at k2;simp at k2
   rw[decide_eq_false this];rfl
 ·rename_i hl;have :a≠b:=fun h=>hl (by rw[h]);rw[decide_eq_false this]
theorem Gy (a b:List ek) (ha:a.length<=maxLen): ∃n:Nat,kD a b=some ((n:Int),())/\n<=a.length/\n<=b.length/\a.take n=b.take n/\(n<a.length->n<b.length->a[n]? ≠b[n]?):=by
 rcases vX (B:=iK) a.length (fun k=>((a,b,(k:Int),()),(),())) ((((a.length:Nat):Int),()),(),()) (fun k=>(((k:Int),()),(),())) (fun k=>decide (a[k]? ≠b[k]?))
  (by simp only[iK]; rw[ei,if_neg (by omega)])
  (fun k hk=>by
    have c1: (k:Int)< (a.length:Int):=by omega
    have c2: (0:Int)<=(k:Int):=by omega
    by_cases hk':k<b.length
    ·have c3: (k:Int)< (b.length:Int):=by omega
     simp only[iK,Rf,ei,en,if_pos c1,if_pos c2,if_pos c3,aw,ah hk,ah hk',ae,ec ha hk];by_cases h:a[k] =b[k]<;>simp[h]
    ·have c3: ¬ (k:Int)< (b.length:Int):=by omega
     simp only[iK,ei,if_pos c1,if_neg c3,ah hk,b9 (show b.length<=k by omega)];simp) with ⟨k1,k2⟩| ⟨i,hi,k1,k2,k3⟩
 ·have eq: ∀k,k<a.length->a[k]? =b[k]? :=fun k hk=>by simpa using k2 k hk
  have hl:a.length<=b.length:=by
   rcases bk a.length with h|h
   ·omega
   ·have:=eq (a.length-1) (by omega);rw[ah (by omega)] at this;have:=je this.symm;omega
  refine⟨a.length,?_,aq _,hl,?_,fun h=>absurd h (dv _)⟩
  ·unfold kD;rw[show pi ((a,b,0,()),(),())=_ from k1];rfl
  ·refine bI fun k=> ?_;rw[bu,bu];split
   ·exact eq k (by assumption)
   ·rfl
 ·have eq: ∀k,k<i->a[k]? =b[k]? :=fun k hk=>by simpa using k3 k hk
  have hl:i<=b.length:=by
   rcases bk i with h|h
   ·omega
   ·have:=eq (i-1) (by omega);rw[ah (by omega)] at this;have:=je this.symm;omega
  refine⟨i,?_,by omega,hl,?_,fun _ _=>by simpa using k2⟩
  ·unfold kD;rw[show pi ((a,b,0,()),(),())=_ from k1];rfl
  ·refine bI fun k=> ?_;rw[bu,bu];split
   ·exact eq k (by assumption)
   ·rfl
end Go.Proofs.YtadabkgmdllbfabGreat.En
namespace Go.Proofs.YtadabkgmdllbfabGreat.En
open Go
theorem IG (x:fo):yx (pg x) (xY x):=by
 obtain⟨b,h1,h2⟩:=uA x;unfold pg xY;simp only[h1,h2,ae];cases b with
 |false=>simp only[cu,ev];cases ((x.epoch==0)&&((x.holder==0)&&((x.ends==0)&&true)))<;>exact⟨_,rfl,rfl⟩
 |true=>
  simp only[bC,eJ];cases he:x.ends==0 with
  |true=>
   cases hz: ((x.epoch==0)&&((x.holder==0)&&(true&&true))) with
   |true=>exact⟨_,rfl,rfl⟩
   |false=>
    exfalso;unfold lK at h2;rw[he,hz] at h2;simp only[eJ,qm,ae] at h2
    have hw:j8 x.ends 1 1049=false:=by rw[Bool.eq_false_iff];intro hw;have:=eL.1 hw;simp only[beq_iff_eq] at he;omega
    rw[hw] at h2;revert h2;cases j8 x.epoch 1 20<;>cases j8 x.holder 0 4<;>intro h2<;>cases h2
  |false=>
   have hz: ((x.epoch==0)&&((x.holder==0)&&(false&&true)))=false:=by cases x.epoch==0<;>cases x.holder==0<;>rfl
   rw[hz];exact⟨_,rfl,rfl⟩
theorem AN (x:fo) (n:Int):yx (kf x n) (pH x n):=by obtain⟨b,h1,h2⟩:=uA x;obtain⟨t,t1,t2⟩:=IG x;unfold kf pH;simp only[h1,h2,t1,t2,gF,qm,ae];cases b<;>cases j8 n 0 999<;>exact⟨_,rfl,rfl⟩
end Go.Proofs.YtadabkgmdllbfabGreat.En
namespace Go.Proofs.YtadabkgmdllbfabGreat.En
open Go
theorem z9 {l:List eO} (hl:l.length<=maxLen) (hv:fO l=some (true,())):l.length=5:=by
 obtain⟨b,h1,h2⟩:=qT l hl;rw[hv] at h1;simp only[af,an,and_true] at h1;subst h1;unfold nN at h2;cases h: ((l.length:Int)==5) with
 |false=>rw[h] at h2; cases h2
 |true=>simp only[beq_iff_eq] at h; omega
end Go.Proofs.YtadabkgmdllbfabGreat.En
namespace Go.Proofs.YtadabkgmdllbfabGreat.En
open Go
theorem Du (a b:List Int) (ha:sa a) (hb:b.length<=maxLen):gl a b=some (a.filter fun x=> !decide (x∈b),()):=by
 have hl:=ha.len;have hm:a.length<=maxLen:=by unfold maxLen; omega
 have hp:=ha.pair
 have gO:=lq (B:=iJ) a (fun k (out:List Int)=>((a,b,(),(k:Int),()),(),(out,()))) (fun k out=>out=(a.take k).filter fun x=> !decide (x∈b)) (fun k r out=>(((),()),(),(out++r.filter fun x=> !decide (x∈b),())))
  (fun out hb=>by simp only[iJ];rw[ei,if_neg (by omega)];simp)
  (fun k out x hx hout=>by
    have hk:=je hx;have c1: (k:Int)< (a.length:Int):=by omega
    have c2: (0:Int)<=(k:Int):=by omega
    have hxe:a[k] =x:=by rw[ah hk] at hx; exact Option.some.inj hx
    simp only[iJ,ef,ei,en,if_pos c1,if_pos c2,aw,hx,ae,(fm b x hb).1,ec hm hk];by_cases hin:x∈b
    ·simp only[if_pos hin];refine .inl ⟨out,rfl,?_,?_⟩
     ·rw[hout,bH,hx,cf];simp[hin]
     ·simp[hin]
    ·have hlt: ∀y∈out,y<x:=by
      intro y hy;rw[hout,cO] at hy;obtain⟨i,hi,he⟩:=aJ hy.1;have hi':i<k:=by simp at hi; omega
      rw[cR] at he;rw[<-he,<-hxe];exact bE.1 hp i k (by omega) hk hi'
     have hol:out.length<=1000:=by rw[hout];have:=dp (fun x=> !decide (x∈b)) (a.take k);simp only[bf] at this;omega
     simp only[if_neg hin,Gq out x hol hlt,ae];refine .inl ⟨out++ [x],rfl,?_,?_⟩
     ·rw[hout,bH,hx,cf];simp[hin]
     ·simp[hin])
  0 [] (aA _) rfl
 unfold gl;rw[show rB ((a,b,(),0,()),(),([],()))=_ from gO];rfl
end Go.Proofs.YtadabkgmdllbfabGreat.En
namespace Go.Proofs.YtadabkgmdllbfabGreat.En
open Go
theorem v4 {l:List Int} (h:SS l) (hr: ∀y∈l,0<=y/\y<5):sa l:=by intro k hk;have:=hr _ (ba hk);exact⟨by omega,fun h0=>bE.1 h _ _ (by omega) hk (by omega)⟩
theorem wD {l:List Int} (h:sa l):gJ l=some (true,())/\jf l=some (true,()):=by
 have hl:=h.len;have hm:l.length<=maxLen:=by unfold maxLen; omega
 obtain⟨_,_,h1,h2⟩:=yY (B1:=il) (B2:=ir) l.length (fun k (_:Unit)=>((l,(k:Int),()),(),())) (fun k _=>((l,l,(l.length:Int),(k:Int),()),(),())) (fun _ _=>True) (fun _=> .inr (((),()),(),())) (fun _=> .inr (((),()),(),()))
  (fun _ _=>by simp only[il,ir,ei];exact⟨if_neg (by omega),if_neg (by omega)⟩)
  (fun k _ hk _=>by
    have c1: (k:Int)< (l.length:Int):=by omega
    have c2: (0:Int)<=(k:Int):=by omega
    obtain⟨r1,r2⟩:=h k hk;have w:j8 l[k] 0 4=true:=eL.2 r1;refine⟨(),?_⟩;simp only[il,ir,ei,en,if_pos c1,if_pos c2,aw,ah hk,ae,gF,qm,w,bC,eJ,ec hm hk];by_cases h0:0<k
    ·have c3: (k:Int)>0:=by omega
     have c4: (0:Int)<=((k-1:Nat):Int):=by omega
     have e2:l[k-1]? =some l[k-1] :=ah (by omega);have:=r2 h0;simp only[if_pos c3,ku h0 (by omega),if_pos c4,aw,e2,ae,if_neg (show ¬l[k-1] ≥l[k] by omega),if_neg (show ¬l[k] <=l[k-1] by omega),and_self]
    ·simp only[if_neg (show ¬ (k:Int)>0 by omega),and_self])
  () trivial
 unfold gJ jf;rw[show og ((l,0,()),(),())=_ from h1,show oM ((l,l,(l.length:Int),0,()),(),())=_ from h2];exact⟨rfl,rfl⟩
end Go.Proofs.YtadabkgmdllbfabGreat.En
namespace Go.Proofs.YtadabkgmdllbfabGreat.En
open Go
end Go.Proofs.YtadabkgmdllbfabGreat.En
namespace Go.Proofs.YtadabkgmdllbfabGreat.En
open Go
theorem Ow {m:eh} (h:sb 1048576 m) (hv:fS m=some (true,())):m.configs.length<=20:=by
 obtain⟨f,_,_⟩:=Bs (kL h) hv;rcases bk m.configs.length with h0|h0
 ·omega
 ·have hk:m.configs.length-1<m.configs.length:=by omega
  obtain⟨f1,f2⟩:=f _ hk;have:=(oY (eG (h.2 _ (ba hk))) f1).2.2.2.2.1;omega
def ja (l:List ek):Nat:=l.length-3
theorem J5 (l:List ek) (hl:l.length<=1048576): (if IntKind.wrap .i64 ((l.length:Int)-3)>0 then IntKind.wrap .i64 ((l.length:Int)-3) else 0)=((ja l:Nat):Int):=by rw[ff (by omega) (by omega)];unfold ja;split<;>omega
theorem QA (l:List ek) (hl:l.length<=1048576) (hv:oU l=some (true,())):tX l=some (((ja l:Nat):Int),l.drop (ja l),()):=by
 unfold tX;have hc:ja l<=l.length:=by unfold ja; omega
 have c1: (0:Int)<=((ja l:Nat):Int)/\((ja l:Nat):Int)<=(l.length:Int)/\(l.length:Int)<=(l.length:Int):=by omega
 have ht: ((l.drop (ja l)).take (l.length-ja l))=l.drop (ja l):=bD (by simp);simp only[hv,ae,bC,eJ,J5 l hl,en,if_pos c1,aw,ht,(sE (l.drop (ja l)) (by simp; omega)).2]
end Go.Proofs.YtadabkgmdllbfabGreat.En
namespace Go.Proofs.YtadabkgmdllbfabGreat.En
open Go
end Go.Proofs.YtadabkgmdllbfabGreat.En
namespace Go.Proofs.YtadabkgmdllbfabGreat.En
open Go
end Go.Proofs.YtadabkgmdllbfabGreat.En
namespace Go.Proofs.YtadabkgmdllbfabGreat.En
open Go
end Go.Proofs.YtadabkgmdllbfabGreat.En
namespace Go.Proofs.YtadabkgmdllbfabGreat.En
open Go
end Go.Proofs.YtadabkgmdllbfabGreat.En
namespace Go.Proofs.YtadabkgmdllbfabGreat.En
open Go
abbrev fx (x:dX):Int×List dZ×List Int×List ed×Int×Int×Int×Int×Int×List eO×Unit:=(x.now,x.servers,x.sides,x.master.configs,x.master.activated,x.masterUp,x.lease.epoch,x.lease.holder,x.lease.ends,x.places,())
abbrev Uy (s:dZ):Bool×Bool×Int×Int×Int×Int×List Int×List Int×Int×List ek×Int×List ek×Unit:=(s.up,s.intact,s.version,s.epoch,s.config.epoch,s.config.primary,s.config.replicas,s.config.witnesses,s.first,s.log,s.commit,s.learned,())
structure O4 (x x':dX):Prop where
 sides:x'.sides=x.sides
 master:x'.master=x.master
 srv: ∀ (k:Nat) (s:dZ),x.servers[k]? =some s-> ∃e,x'.servers[k]? =some (⟨s.up,s.intact,s.version,e,s.config,s.first,s.log,s.commit,s.learned⟩:dZ)
theorem O4.refl (x:dX):O4 x x:=⟨rfl,rfl,fun _ s h=>⟨s.epoch,h⟩⟩
theorem O4.side {x x':dX} (h:O4 x x') (a:Int):oZ x' a=oZ x a:=by unfold oZ; rw[h.sides]
theorem TD {x:dX} (ok:ft 1048576 x) (hv:eb x=some (true,())): ∃c d,eM x.master=some (c,d,())/\iC x.master=some (c,d,())/\iu maxLen c/\c.replicas.length<=5/\c.witnesses.length<=5/\(∀z∈c.replicas,0<=z/\z<5)/\(∀z∈c.witnesses,0<=z/\z<5)/\(d=false->c=⟨0,0,[],[]⟩):=by
 obtain⟨c,d,d1,d2,d3,d4,d5,d6⟩:=qn x ok hv
 have rng: ∀ {l:List Int},sa l-> ∀y∈l,0<=y/\y<5:=by intro l ha y hy;obtain⟨k,hk,rfl⟩:=aJ hy;have:=(ha k hk).1;omega
 cases d with
 |false=>exact⟨c,false,d1,d2,d3,by rw[d6 rfl]; simp,by rw[d6 rfl]; simp,by rw[d6 rfl]; simp,by rw[d6 rfl]; simp,d6⟩
 |true=>obtain⟨a1,a2,_⟩:=oY d3 (d5 rfl).1;exact⟨c,true,d1,d2,d3,a1.len,a2.len,rng a1,rng a2,nofun⟩
section
variable {x x':dX} (ok:ft 1048576 x) (ok':ft 1048576 x') (hv:eb x=some (true,())) (hv':eb x'=some (true,())) (se:O4 x x') {id:Int} (hid:0<=id/\id<5)
include ok ok' hv hv' se hid
omit ok hv se in
end
end Go.Proofs.YtadabkgmdllbfabGreat.En
namespace Go.Proofs.YtadabkgmdllbfabGreat.En
open Go
structure SV (m:eh) (s:dZ) (k:Int):Prop where
 val:eR s k=some (true,())
 ep:s.epoch<=(m.configs.length:Int)
 lrn: ∃e,nJ s.learned=some (e,())/\e<=m.activated
 cfg:s.config=⟨0,0,[],[]⟩\/(jA m s.config.epoch=some (s.config,true,())/\s.config.epoch<=m.activated)
theorem Sf (x:dX) (ok:ft 1048576 x) (k:Nat) (hk:k<x.servers.length):
  (SV x.master x.servers[k] (k:Int)/\eB (((),(k:Int),()),((x.now,x.servers,x.sides,x.master.configs,x.master.activated,x.masterUp,x.lease.epoch,x.lease.holder,x.lease.ends,x.places,()),()),())=some (.inl (((),((k+1:Nat):Int),()),((x.now,x.servers,x.sides,x.master.configs,x.master.activated,x.masterUp,x.lease.epoch,x.lease.holder,x.lease.ends,x.places,()),()),())))\/
  (¬SV x.master x.servers[k] (k:Int)/\eB (((),(k:Int),()),((x.now,x.servers,x.sides,x.master.configs,x.master.activated,x.masterUp,x.lease.epoch,x.lease.holder,x.lease.ends,x.places,()),()),())=some (.inr (.inl ((false,()),(),())))):=by
 obtain⟨⟨hs1,hs2⟩,hsd,hml,hpl⟩:=ok;have hm:=eS hs1;have c1: (k:Int)< (x.servers.length:Int):=by omega
 have c2: (0:Int)<=(k:Int):=by omega
 have hsk:=hs2 _ (ba hk);obtain⟨b,v1,v2⟩:=nS x.servers[k] (k:Int) hsk;obtain⟨n,n1,n2⟩:=tY x.servers[k].learned (eS hsk.2.2);obtain⟨c,d,d1,d2,d3⟩:=vY x.master x.servers[k].config.epoch hml;have hcfg:=eG hsk.1
 simp only[eB,ei,en,if_pos c1,if_pos c2,aw,ah hk,ae,v1,n1,ec hm hk,ef,
  show (⟨x.master.configs,x.master.activated⟩:eh)=x.master from rfl,d1,uB _ hcfg,(gM c x.servers[k].config d3).1]
 cases b with
 |false=>exact .inr ⟨(fun h=>(by have h:=v1.symm.trans h.val; cases h)),rfl⟩
 |true=>
  simp only[ev];by_cases h1:x.servers[k].epoch>(x.master.configs.length:Int)
  ·simp only[if_pos h1];exact .inr ⟨fun h=>by have:=h.ep; omega,trivial⟩
  ·simp only[if_neg h1];by_cases h2:n>x.master.activated
   ·simp only[if_pos h2];refine .inr ⟨fun h=> ?_,trivial⟩;obtain⟨e,e1,e2⟩:=h.lrn;rw[n1] at e1;simp only[af,an,and_true] at e1;omega
   ·simp only[if_neg h2];by_cases h3:x.servers[k].config=⟨0,0,[],[]⟩
    ·simp only[if_pos h3];exact .inl ⟨⟨v1,by omega,⟨n,n1,by omega⟩, .inl h3⟩,trivial⟩
    ·simp only[if_neg h3];cases d with
     |false=>
      refine .inr ⟨fun h=> ?_,rfl⟩;rcases h.cfg with h| ⟨h,_⟩
      ·exact h3 h
      ·rw[d1] at h;cases h
     |true=>
      simp only[ev];by_cases h4:c=x.servers[k].config
      ·simp only[if_pos h4];by_cases h5:x.servers[k].config.epoch>x.master.activated
       ·simp only[if_pos h5];refine .inr ⟨fun h=> ?_,trivial⟩;rcases h.cfg with h| ⟨_,h⟩
        ·exact h3 h
        ·omega
       ·simp only[if_neg h5];exact .inl ⟨⟨v1,by omega,⟨n,n1,by omega⟩, .inr ⟨by rw[d1,h4],by omega⟩⟩,trivial⟩
      ·simp only[if_neg h4];refine .inr ⟨fun h=> ?_,trivial⟩;rcases h.cfg with h| ⟨h,_⟩
       ·exact h3 h
       ·rw[d1] at h;simp only[af,an,and_true] at h;exact h4 h
theorem J6 (x:dX) (ok:ft 1048576 x):
  ((∀k (hk:k<x.servers.length),SV x.master x.servers[k] (k:Int))/\iI (((),0,()),((x.now,x.servers,x.sides,x.master.configs,x.master.activated,x.masterUp,x.lease.epoch,x.lease.holder,x.lease.ends,x.places,()),()),())=some (.inr (((),()),(),())))\/
  ((∃k,∃hk:k<x.servers.length,¬SV x.master x.servers[k] (k:Int))/\iI (((),0,()),((x.now,x.servers,x.sides,x.master.configs,x.master.activated,x.masterUp,x.lease.epoch,x.lease.holder,x.lease.ends,x.places,()),()),())=some (.inl ((false,()),(),()))):=by
 have gO:=oc (B1:=eB) (B2:=eB) x.servers.length (fun k=>(((),(k:Int),()),((x.now,x.servers,x.sides,x.master.configs,x.master.activated,x.masterUp,x.lease.epoch,x.lease.holder,x.lease.ends,x.places,()),()),())) (fun k=>(((),(k:Int),()),((x.now,x.servers,x.sides,x.master.configs,x.master.activated,x.masterUp,x.lease.epoch,x.lease.holder,x.lease.ends,x.places,()),()),())) (.inr (((),()),(),())) (.inr (((),()),(),())) (fun _=> .inl ((false,()),(),())) (fun _=> .inl ((false,()),(),()))
  (fun k=> ∀hk:k<x.servers.length,SV x.master x.servers[k] (k:Int)) (fun k=> ∃hk:k<x.servers.length,¬SV x.master x.servers[k] (k:Int))
  (by simp only[eB]; rw[ei,if_neg (by omega)])
  (by simp only[eB]; rw[ei,if_neg (by omega)])
  (fun k hk=>by
    rcases Sf x ok k hk with ⟨h1,h2⟩| ⟨h1,h2⟩
    ·exact .inl ⟨h2,h2,fun _=>h1⟩
    ·exact .inr ⟨h2,h2,hk,h1⟩)
 rcases gO with ⟨k1,_,k3⟩| ⟨k,hk,k1,_,k3⟩
 ·exact .inl ⟨fun k hk=>k3 k hk hk,k1⟩
 ·exact .inr ⟨⟨k,k3⟩,k1⟩
theorem Ox {x:dX} (ok:ft 1048576 x) (hv:eb x=some (true,())): ∀k (hk:k<x.servers.length),SV x.master x.servers[k] (k:Int):=by
 rcases J6 x ok with ⟨h,_⟩| ⟨_,h⟩
 ·exact h
 ·exfalso;obtain⟨b1,a1,_⟩:=rV x.sides (eS ok.2.1);obtain⟨b2,m1,_⟩:=masterLog x.master (kL ok.2.2.1);obtain⟨b3,l1,_⟩:=uA x.lease;obtain⟨b4,p1,_⟩:=qT x.places (eS ok.2.2.2);unfold eb at hv;simp only[gF,a1,m1,l1,p1,ae,h,cZ] at hv;revert hv;cases j8 x.now 0 999<;>cases ((x.servers.length:Int)==5)<;>cases b1<;>cases b2<;>cases j8 x.masterUp 0 3<;>cases b3<;>cases b4<;>cases decide (x.lease.epoch>x.master.activated)<;>intro hv<;>cases hv
theorem Sg {x:dX} (ok:ft 1048576 x) (hv:eb x=some (true,())) (S:List dZ) (hl:S.length=x.servers.length) (hok: ∀s∈S,fX 1048576 s) (hS: ∀k (hk:k<S.length),SV x.master S[k] (k:Int)):
  ft 1048576 ⟨x.now,S,x.sides,x.master,x.masterUp,x.lease,x.places⟩/\eb ⟨x.now,S,x.sides,x.master,x.masterUp,x.lease,x.places⟩=some (true,()):=by
 have ok2:ft 1048576 ⟨x.now,S,x.sides,x.master,x.masterUp,x.lease,x.places⟩:=⟨⟨by show S.length<=_; rw[hl]; exact ok.1.1,hok⟩,ok.2.1,ok.2.2.1,ok.2.2.2⟩
 refine⟨ok2,?_⟩;rcases J6 x ok with ⟨_,h1⟩| ⟨⟨k,hk,h0⟩,_⟩
 ·rcases J6 ⟨x.now,S,x.sides,x.master,x.masterUp,x.lease,x.places⟩ ok2 with ⟨_,h2⟩| ⟨⟨k,hk,h0⟩,_⟩
  ·have hv':=hv;unfold eb at hv' ⊢;rw[h1] at hv';rw[h2];simp only[hl];exact hv'
  ·exact absurd (hS k hk) h0
 ·exact absurd (Ox ok hv k hk) h0
theorem SV.old {m:eh} {s:dZ} {k:Int} (h:SV m s k) (hm:sb 1048576 m) (hv:fS m=some (true,())):s.config.epoch<=(m.configs.length:Int):=by
 obtain⟨_,f2,f3⟩:=Bs (kL hm) hv;rcases h.cfg with h| ⟨_,h⟩
 ·rw[h];show (0:Int)<=_;omega
 ·omega
end Go.Proofs.YtadabkgmdllbfabGreat.En
namespace Go.Proofs.YtadabkgmdllbfabGreat.En
open Go
theorem E6 {α:Type} {w:α->Int}: ∀ {a b:List α},a.length=b.length->(∀ (j:Nat) (ha:j<a.length) (hb:j<b.length),w a[j] =w b[j])->Mq w a=Mq w b
 | [],[],_,_=>rfl
 |x::a,y::b,h,h2=>by
  have h0:=h2 0 (by simp) (by simp);simp only[List.getElem_cons_zero] at h0
  have ih:=E6 (w:=w) (a:=a) (b:=b) (by simpa using h) fun j ha hb=>by have:=h2 (j+1) (by simpa using ha) (by simpa using hb);simpa using this
  unfold Mq;rw[h0,ih]
abbrev s8 (s:dZ) (e:Int):dZ:=⟨s.up,s.intact,s.version,e,s.config,s.first,s.log,s.commit,s.learned⟩
theorem TE {s:dZ} {id:Int} (h:fX 1048576 s) (hv:eR s id=some (true,())):s.config.epoch<=s.epoch:=by
 have hc:=eG h.1;obtain⟨_,_,_,_,_,_,_,e0,_⟩:=rX h hv;by_cases hz:s.config=⟨0,0,[],[]⟩
 ·rw[hz];exact e0
 ·refine Int.not_lt.1 fun hlt=> ?_;unfold eR at hv;simp only[gF,ae,ef,uB s.config hc,ei,if_neg hz,if_pos hlt] at hv;cases h1:j8 s.version 1 2 with
  |false=>rw[h1] at hv; cases hv
  |true=>
  cases h2:j8 s.epoch 0 20 with
  |false=>rw[h1,h2] at hv; cases hv
  |true=>
  rcases AM s.log (eS h.2.1) with ⟨a1,a2,a3⟩| ⟨a1,a2⟩
  case inr=>simp only[h1,h2,a1,ae,ev,eJ] at hv; cases hv
  rcases AM s.learned (eS h.2.2) with ⟨b1,b2,b3⟩| ⟨b1,b2⟩
  case inr=>simp only[h1,h2,a1,b1,ae,ev,eJ] at hv; cases hv
  simp only[h1,h2,a1,b1,ae,ev] at hv;cases h3:j8 s.first 0 16<;>rw[h3] at hv
  ·cases hv
  ·cases h4:j8 (IntKind.wrap .i64 (s.first+(s.log.length:Int))) 0 16<;>rw[h4] at hv
   ·cases hv
   ·cases h5:j8 s.commit 0 (IntKind.wrap .i64 (s.first+(s.log.length:Int)))<;>rw[h5] at hv
    ·cases hv
    ·cases h6:s.intact<;>rw[h6] at hv<;>cases hv
theorem QB {s:dZ} {id:Int} (h:fX 1048576 s) (hv:eR s id=some (true,())) {e:Int} (h1:s.epoch<=e) (h2:e<=20):eR (s8 s e) id=some (true,()):=by have hle:=TE h hv;obtain⟨_,_,_,_,_,_,_,e0,e20⟩:=rX h hv;have w1:j8 s.epoch 0 20=true:=eL.2 (by omega);have w2:j8 e 0 20=true:=eL.2 (by omega);unfold eR at hv ⊢;simp only[gF,ae,ei,w1,w2,if_neg (show ¬s.epoch<s.config.epoch by omega),if_neg (show ¬e<s.config.epoch by omega)] at hv ⊢;exact hv
theorem Uz {m:eh} {s:dZ} {k:Int} (ok:fX 1048576 s) (h:SV m s k) {e:Int} (h1:s.epoch<=e) (h2:e<=(m.configs.length:Int)) (h3:m.configs.length<=20):SV m (s8 s e) k:=
 ⟨QB ok h.val h1 (by omega),h2,h.lrn,h.cfg⟩
theorem J7 (s:dZ) (e:Int) (h:fX 1048576 s): ∃ep b,hO s e=some (s8 s ep,b,())/\oV s e=some (s8 s ep,b,())/\(ep=s.epoch\/(ep=e/\s.epoch<=e)):=by
 unfold hO oV;simp only[(sF s h).1,(sF s h).2,gF,qm,ae,ef,ei];cases j8 e 1 20 with
 |false=>exact⟨s.epoch,false,rfl,rfl, .inl rfl⟩
 |true=>
  simp only[ev];by_cases h1:e<=s.epoch
  ·by_cases h2:s.epoch<0
   ·simp only[if_pos h1,if_pos h2];exact⟨s.epoch,false,rfl,rfl, .inl rfl⟩
   ·simp only[if_pos h1,if_neg h2];exact⟨s.epoch,false,rfl,rfl, .inl rfl⟩
  ·by_cases h2:s.epoch<0
   ·simp only[if_neg h1,if_pos h2];exact⟨s.epoch,false,rfl,rfl, .inl rfl⟩
   ·simp only[if_neg h1,if_neg h2];exact⟨e,true,rfl,rfl, .inr ⟨rfl,by omega⟩⟩
abbrev mn (x:dX) (S:List dZ):dX:=⟨x.now,S,x.sides,x.master,x.masterUp,x.lease,x.places⟩
theorem IH (x:dX) (ok:ft 1048576 x) (hv:eb x=some (true,())) {id e:Int} (hid:0<=id/\id<5): ∃S,fI x id e=some (mn x S,())/\iP x id e=some (mn x S,())/\ft 1048576 (mn x S)/\eb (mn x S)=some (true,())/\O4 x (mn x S)/\Mq Tz S=Mq Tz x.servers:=by
 have vc:=gR ok hv;have hml:=Ow ok.2.2.1 vc.ml;obtain⟨v,v1,v2⟩:=hU x ok;rw[hv] at v1;simp only[af,an,and_true] at v1;subst v1;obtain⟨c,d,d1,d2,d3,_⟩:=TD ok hv;obtain⟨m,m1,m2,m3,m4,m5,_⟩:=qU c d3;have mm:m.length<=maxLen:=by unfold maxLen; omega
 have same:mn x x.servers=x:=rfl;unfold fI iP;simp only[(gY x ok).1,(gY x ok).2,d1,d2,hv,v2,gF,qm,ae,ef,ev];cases d with
 |false=>exact⟨x.servers,rfl,rfl,ok,hv,O4.refl x,rfl⟩
 |true=>
  simp only[ev];cases hw:j8 e 1 (x.master.configs.length:Int) with
  |false=>exact⟨x.servers,rfl,rfl,ok,hv,O4.refl x,rfl⟩
  |true=>
   have hw:=eL.1 hw
   obtain⟨S,q,k1,k2⟩:=yY (B1:=fR) (B2:=hQ) m.length
    (fun k (S:List dZ)=>((id,e,(),(),(),(),(k:Int),()),(fx x,(0,(),(),(),0,0,0,0,0,(),()),(x.now,(),(),(),x.master.activated,x.masterUp,x.lease.epoch,x.lease.holder,x.lease.ends,(),()),()),(m,S,x.sides,x.master.configs,x.places,())))
    (fun k S=>((id,e,(),(),(),(),(m.length:Int),(k:Int),()),(fx x,(0,(),(),(),0,0,0,0,0,(),()),(x.now,(),(),(),x.master.activated,x.masterUp,x.lease.epoch,x.lease.holder,x.lease.ends,(),()),()),(m,S,x.sides,x.master.configs,x.places,())))
    (fun k S=>S.length=x.servers.length/\ ∀ (j:Nat) (s:dZ),x.servers[j]? =some s-> ∃ep,S[j]? =some (s8 s ep)/\(ep=s.epoch\/(ep=e/\s.epoch<=e))/\((∀y∈m.drop k,y≠(j:Int))\/ep=s.epoch))
    (fun S=>(((),(),()),((0,(),(),(),0,0,0,0,0,(),()),(x.now,(),(),(),x.master.activated,x.masterUp,x.lease.epoch,x.lease.holder,x.lease.ends,(),()),()),(S,x.sides,x.master.configs,x.places,())))
    (fun S=>(((),(),()),((0,(),(),(),0,0,0,0,0,(),()),(x.now,(),(),(),x.master.activated,x.masterUp,x.lease.epoch,x.lease.holder,x.lease.ends,(),()),()),(S,x.sides,x.master.configs,x.places,())))
    (fun S _=>by simp only[fR,hQ,ei];exact⟨if_neg (by omega),if_neg (by omega)⟩)
    (fun k S hk hS=>by
      have c1: (k:Int)< (m.length:Int):=by omega
      have c2: (0:Int)<=(k:Int)/\(k:Int)< (m.length:Int):=by omega
      have hz:=m4 _ (ba hk);have hdr:m.drop k=m[k]::m.drop (k+1):=bO hk
      have hnot: ∀y∈m.drop (k+1),y≠m[k] :=by have h2:SS (m.drop k):=List.Pairwise.sublist (List.drop_sublist k m) m5;rw[hdr] at h2;intro y hy;have:=(cD.1 h2).1 y hy;omega
      generalize hzz:m[k] =z at hz hdr hnot;have hg:m[k]? =some z:=by rw[<-hzz]; exact ah hk
      obtain⟨s,s1,s2,_⟩:=sG ok vc hz;obtain⟨h1,h2⟩:=IE x ok vc hid hz
      have hSz:S[z.toNat]? =some s:=by
       obtain⟨ep,p1,_,p3⟩:=hS.2 _ s s1;rcases p3 with p3|rfl
       ·exact absurd (by omega:z=(z.toNat:Int)) (p3 z (by rw[hdr]; exact aK))
       ·exact p1
      have hlt:z.toNat<S.length:=je hSz;have c3:0<=z/\z< (S.length:Int):=by omega
      obtain⟨ep,b,q1,q2,q3⟩:=J7 s e s2
      have hkeep:S.length=x.servers.length/\ ∀ (j:Nat) (s:dZ),x.servers[j]? =some s-> ∃ep,S[j]? =some (s8 s ep)/\(ep=s.epoch\/(ep=e/\s.epoch<=e))/\((∀y∈m.drop (k+1),y≠(j:Int))\/ep=s.epoch):=by refine⟨hS.1,fun j t ht=> ?_⟩;obtain⟨ep,p1,p2,p3⟩:=hS.2 j t ht;exact⟨ep,p1,p2,p3.imp (fun h y hy=>h y (by rw[hdr]; exact aL _ hy)) (fun h=>h)⟩
      simp only[fR,hQ,fx,ei,en,if_pos c1,if_pos c2,aw,hg,ae,if_pos hz.1,if_pos c3,s1,hSz,h1,h2,aQ,aq,if_true,bP,bG,q1,q2,ec mm hk];cases s.up with
      |false=>exact⟨S,rfl,rfl,hkeep⟩
      |true=>
       cases (oZ x id==oZ x z) with
       |false=>exact⟨S,rfl,rfl,hkeep⟩
       |true=>
        refine⟨S.set z.toNat (s8 s ep),rfl,rfl,by simp[hS.1],fun j t ht=> ?_⟩;by_cases hj:j=z.toNat
        ·subst hj;rw[s1] at ht;have ht:=Option.some.inj ht;subst ht;refine⟨ep,by rw[b6 hlt],q3, .inl fun y hy h=>hnot y hy (by omega)⟩
        ·obtain⟨ep',p1,p2,p3⟩:=hkeep.2 j t ht;exact⟨ep',by rw[ch (fun h=>hj h.symm)]; exact p1,p2,p3⟩)
    x.servers ⟨rfl,fun j s h=>⟨s.epoch,h, .inl rfl, .inr rfl⟩⟩
   simp only[ev,m1,m2,ae]
   rw[show qf ((id,e,(),(),(),(),0,()),(fx x,(0,(),(),(),0,0,0,0,0,(),()),(x.now,(),(),(),x.master.activated,x.masterUp,x.lease.epoch,x.lease.holder,x.lease.ends,(),()),()),(m,x.servers,x.sides,x.master.configs,x.places,()))=_ from k1,
    show qk ((id,e,(),(),(),(),(m.length:Int),0,()),(fx x,(0,(),(),(),0,0,0,0,0,(),()),(x.now,(),(),(),x.master.activated,x.masterUp,x.lease.epoch,x.lease.holder,x.lease.ends,(),()),()),(m,x.servers,x.sides,x.master.configs,x.places,()))=_ from k2]
   have at_: ∀j (hj:j<S.length),∃s,x.servers[j]? =some s/\ ∃ep,S[j] =s8 s ep/\(ep=s.epoch\/(ep=e/\s.epoch<=e)):=by
    intro j hj;have hj':j<x.servers.length:=by rw[<-q.1]; exact hj
    obtain⟨ep,p1,p2,_⟩:=q.2 j _ (ah hj');rw[ah hj] at p1;exact⟨_,ah hj',ep,Option.some.inj p1,p2⟩
   have sv:=Ox ok hv
   have fin:=Sg ok hv S q.1 (fun s hs=>by
     obtain⟨j,hj,rfl⟩:=aJ hs;obtain⟨t,t1,ep,t2,_⟩:=at_ j hj;rw[t2];exact ok.1.2 t (au t1))
    (fun j hj=>by obtain⟨t,t1,ep,t2,t3⟩:=at_ j hj;have hj':j<x.servers.length:=je t1;have svj:=sv j hj';rw[ah hj'] at t1;rw[Option.some.inj t1] at svj;have okt:=ok.1.2 x.servers[j] (ba hj');rw[Option.some.inj t1] at okt;rw[t2];have:=svj.ep;exact Uz okt svj (by omega) (by omega) hml)
   refine⟨S,rfl,rfl,fin.1,fin.2,⟨rfl,rfl,fun j s h=>by obtain⟨ep,p1,_⟩:=q.2 j s h;exact⟨ep,p1⟩⟩,E6 q.1 fun j ha hb=> ?_⟩
   obtain⟨t,t1,ep,t2,_⟩:=at_ j ha;rw[ah hb] at t1;rw[t2,<-Option.some.inj t1];rfl
end Go.Proofs.YtadabkgmdllbfabGreat.En
namespace Go.Proofs.YtadabkgmdllbfabGreat.En
open Go
abbrev z0:Int×Unit×Unit×Unit×Int×Int×Int×Int×Int×Unit×Unit:=(0,(),(),(),0,0,0,0,0,(),())
abbrev fy (x:dX):Int×Unit×Unit×Unit×Int×Int×Int×Int×Int×Unit×Unit:=(x.now,(),(),(),x.master.activated,x.masterUp,x.lease.epoch,x.lease.holder,x.lease.ends,(),())
end Go.Proofs.YtadabkgmdllbfabGreat.En
namespace Go.Proofs.YtadabkgmdllbfabGreat.En
open Go
theorem sa.filter {l:List Int} (h:sa l) (p:Int->Bool):sa (l.filter p):=by refine v4 (h.pair.filter p) fun y hy=> ?_;obtain⟨k,hk,rfl⟩:=aJ (cO.1 hy).1;have:=(h k hk).1;omega
theorem Lc:sa [0,1,2,3,4] :=by refine v4 (by simp[SS]) fun y hy=> ?_;simp at hy;omega
end Go.Proofs.YtadabkgmdllbfabGreat.En
namespace Go.Proofs.YtadabkgmdllbfabGreat.En
open Go
theorem J8 (l:fo) (e h n t:Int): ∃r b,ot l e h n t=some (r,b,())/\yV l e h n t=some (r,b,()):=by obtain⟨b,h1,h2⟩:=uA l;obtain⟨q,q1,q2⟩:=AN l n;unfold ot yV;simp only[h1,h2,q1,q2,gF,qm,ae];cases (l.epoch==e)<;>cases b<;>cases j8 e 1 20<;>cases j8 h 0 4<;>cases j8 n 0 999<;>cases j8 t 1 50<;>cases (l.holder==h)<;>cases q<;>exact⟨_,_,rfl,rfl⟩
end Go.Proofs.YtadabkgmdllbfabGreat.En
namespace Go.Proofs.YtadabkgmdllbfabGreat.En
open Go
def xZ:List eD->Int->Nat
 | [],_=>0
 |x::l,c=>if x.client<c then xZ l c+1 else 0
theorem QC (l:List eD) (c:Int):xZ l c<=l.length:=by
 induction l with
 |nil=>exact aq _
 |cons x l ih=>
  unfold xZ;split
  ·simp only[bB]; omega
  ·exact aA _
theorem QD {l:List eD} {c:Int} (h: ∃x∈l,x.client=c):xZ l c<l.length:=by
 induction l with
 |nil=>obtain⟨x,hx,_⟩:=h; cases hx
 |cons y l ih=>
  unfold xZ;split
  ·rename_i hy;obtain⟨x,hx,hc⟩:=h;rcases aX.1 hx with rfl|hx
   ·omega
   ·have:=ih ⟨x,hx,hc⟩;simp only[bB]; omega
  ·simp
theorem UA (b d:Bool) (v:Int) (o:Op) (objs:List Int) (l:List eD) (hl:l.length<=1000):qG (((),(),(),(),b,(),0,()),((o.client,o.seq,o.kind,o.object,o.old,o.value,()),((),(),()),(false,0,()),((),(),()),(d,v,()),()),objs,l,())=
  some (((),(),(),(),b,(),((xZ l o.client:Nat):Int),()),((o.client,o.seq,o.kind,o.object,o.old,o.value,()),((),(),()),(false,0,()),((),(),()),(d,v,()),()),objs,l,()):=by
 have ml:l.length<=maxLen:=by unfold maxLen; omega
 have gO:=lq (B:=mw) l (fun k (_:Unit)=>(((),(),(),(),b,(),(k:Int),()),((o.client,o.seq,o.kind,o.object,o.old,o.value,()),((),(),()),(false,0,()),((),(),()),(d,v,()),()),objs,l,())) (fun _ _=>True)
  (fun k r _=>(((),(),(),(),b,(),((k+xZ r o.client:Nat):Int),()),((o.client,o.seq,o.kind,o.object,o.old,o.value,()),((),(),()),(false,0,()),((),(),()),(d,v,()),()),objs,l,()))
  (fun _ _=>by simp only[mw]; rw[ei,if_neg (by omega)]; rfl)
  (fun k _ x hx _=>by
    have hk:=je hx;have c1: (k:Int)< (l.length:Int):=by omega
    have c2: (0:Int)<=(k:Int)/\(k:Int)< (l.length:Int):=by omega
    simp only[mw,ei,en,if_pos c1,if_pos c2,aw,hx,ae,ec ml hk];by_cases h:x.client<o.client
    ·rw[if_pos h];refine .inl ⟨(),rfl,trivial,?_⟩;rw[xZ,if_pos h,show k+(xZ (l.drop (k+1)) o.client+1)=k+1+xZ (l.drop (k+1)) o.client by omega]
    ·rw[if_neg h];refine .inr ?_;rw[xZ,if_neg h];rfl) 0 () (aA _) trivial
 simp only[aQ,bP] at gO;exact gO
theorem Ld {o:Op} (h:fC o=some (true,())):0<=o.object/\o.object<=2:=by
 unfold fC at h;simp only[gF,ae] at h;cases h1:j8 o.client 0 2 with
 |false=>rw[h1] at h; cases h
 |true=>
  cases h2:j8 o.seq 1 99 with
  |false=>rw[h1,h2] at h; cases h
  |true=>
   cases h3:j8 o.object 0 2 with
   |false=>rw[h1,h2,h3] at h; cases h
   |true=>exact eL.1 h3
def Si (o:Op):Bool:=match fC o with |some (b,_)=>b|none=>false
theorem uC (o:Op):fC o=some (Si o,()):=by obtain⟨b,h,_⟩:=K9 o;unfold Si;rw[h]
def QE (l:List ek) (k:Nat):Bool:=match l[k]? with
 |some e=>j8 e.epoch 1 20&&(Si e.op&&(decide (k=0)||match l[k-1]? with |some d=> !decide (d.epoch>e.epoch)|none=>false))
 |none=>false
theorem Oy (l:List ek) (hl:l.length<=maxLen):ig l=some (true,())↔l.length<=16/\ ∀k,k<l.length->QE l k=true:=by
 have gO:=vX (B:=mu) l.length (fun k=>((l,(k:Int),()),(),())) (.inr ((l,(),()),(),())) (fun _=> .inl ((l,false,()),(),())) (fun k=> !QE l k)
  (by simp only[mu]; rw[ei,if_neg (by omega)])
  (fun k hk=>by
    have c1: (k:Int)< (l.length:Int):=by omega
    have c2: (0:Int)<=(k:Int):=by omega
    simp only[mu,ei,en,if_pos c1,if_pos c2,aw,ah hk,ae,uC,gF,ec hl hk,ef,QE];cases j8 l[k].epoch 1 20 with
    |false=>rfl
    |true=>
     cases Si l[k].op with
     |false=>rfl
     |true=>
      by_cases h0:0<k
      ·have c3: (k:Int)>0:=by omega
       have c4: (0:Int)<=((k-1:Nat):Int):=by omega
       have c5: ¬k=0:=by omega
       have e2:l[k-1]? =some l[k-1] :=ah (by omega);simp only[ev,if_pos c3,ku h0 (by omega),if_pos c4,aw,e2,ae,decide_eq_false c5,dC,co,Bool.not_not];by_cases hlt:l[k-1].epoch>l[k].epoch
       ·rw[if_pos hlt,decide_eq_true hlt];rfl
       ·rw[if_neg hlt,decide_eq_false hlt];rfl
      ·have c3: ¬ (k:Int)>0:=by omega
       have c5:k=0:=by omega
       simp only[ev,if_neg c3,decide_eq_true c5];rfl)
 unfold ig;rcases gO with ⟨k1,k2⟩| ⟨k,h0,k1,k2,_⟩
 ·rw[show tw ((l,0,()),(),())=_ from k1];simp only[ae,c9,af,an,and_true,decide_eq_true_eq];constructor
  ·intro h;exact⟨by omega,fun k hk=>by simpa using k2 k hk⟩
  ·intro h;omega
 ·rw[show tw ((l,0,()),(),())=_ from k1];simp only[ae,cZ,af,an,and_true];constructor
  ·intro h;cases h
  ·rintro⟨_,h⟩
   have:=h k h0;rw[this] at k2;cases k2
structure VM (m:gf):Prop where
 vlen:m.objects.length=3
 vobj: ∀v∈m.objects,j8 v 0 9=true
 vses: ∀x∈m.sessions,j8 x.client 0 2=true/\j8 x.seq 1 99=true/\j8 x.result.value 0 9=true
 vasc:m.sessions.Pairwise fun x y=>x.client<y.client
theorem Sj {o:Op} (h:Si o=true):j8 o.client 0 2=true/\j8 o.seq 1 99=true/\j8 o.value 0 9=true:=by
 have h0:fC o=some (true,()):=by rw[uC,h]
 unfold fC at h0;simp only[gF,ae] at h0;cases h1:j8 o.client 0 2 with
 |false=>rw[h1] at h0; cases h0
 |true=>
  cases h2:j8 o.seq 1 99 with
  |false=>rw[h1,h2] at h0; cases h0
  |true=>
   cases h3:j8 o.object 0 2 with
   |false=>rw[h1,h2,h3] at h0; cases h0
   |true=>
    cases h4:j8 o.value 0 9 with
    |false=>rw[h1,h2,h3,h4] at h0; cases h0
    |true=>exact⟨rfl,rfl,rfl⟩
end Go.Proofs.YtadabkgmdllbfabGreat.En
namespace Go.Proofs.YtadabkgmdllbfabGreat.En
open Go
theorem nT (x:dX) (ok:ft 1048576 x) (id:Int): ∃b,iO x id=some (b,())/\jk x id=some (b,())/\(b=true->eb x=some (true,())/\0<=id/\id<5/\ ∀s,x.servers[id.toNat]? =some s->fq s id=some (true,())):=by
 obtain⟨v,v1,v2⟩:=hU x ok;cases v with
 |false=>
  refine⟨false,?_,?_,nofun⟩
  ·unfold iO; simp only[v1,ae,eJ]
  ·unfold jk jj; simp only[v2,ae,eJ]
 |true=>
  cases hw:j8 id 0 4 with
  |false=>
   refine⟨false,?_,?_,nofun⟩
   ·unfold iO; simp only[v1,gF,hw,ae,ev,eJ]
   ·unfold jk jj; simp only[v2,qm,hw,ae,ev,eJ]
  |true=>
   have hid:=eL.1 hw;obtain⟨s,s1,s2,s3⟩:=sG ok (gR ok v1) (a:=id) (by omega);obtain⟨b,b1,b2⟩:=rY s id s2;refine⟨b,?_,?_,fun hb=>⟨v1,hid.1,by omega,fun s' hs=> ?_⟩⟩
   ·unfold iO; simp only[v1,gF,hw,ae,ev,en,if_pos hid.1,s1,b1]
   ·unfold jk jj; simp only[v2,qm,hw,ae,ev,en,if_pos hid.1,s1,b2]
   ·rw[s1] at hs;obtain rfl:=Option.some.inj hs;rw[b1,hb]
theorem TF {c:ed} {id:Int} (h:iu maxLen c) (hr:i7 c id=some (1,())):eA c=some (true,())/\id=c.primary:=by
 obtain⟨v,v1,v2⟩:=kS c h;unfold i7 at hr;simp only[v1,ae,(fm c.replicas id h.1).1,(fm c.witnesses id h.2).1,ef,lh] at hr;cases v with
 |false=>simp only[eJ] at hr;simp at hr
 |true=>
  refine⟨v1,?_⟩;by_cases he:id=c.primary
  ·exact he
  ·simp only[ev,if_neg he] at hr;cases h1:decide (id∈c.replicas)<;>cases h2:decide (id∈c.witnesses)<;>rw[h1,h2] at hr<;>simp[ev,eJ] at hr
theorem Gz {s:dZ} {id:Int} (ok:fX 1048576 s) (h:fq s id=some (true,())):eA s.config=some (true,())/\id=s.config.primary:=by
 obtain⟨v,v1,v2⟩:=nS s id ok;obtain⟨n,n1,n2,_⟩:=sZ s.config id (eG ok.1);unfold fq at h;simp only[v1,n1,ae,lh] at h;cases v with
 |false=>simp[eJ] at h
 |true=>
  cases hu:s.up with
  |false=>rw[hu] at h; simp[ev,eJ] at h
  |true=>
   rw[hu] at h;simp only[ev] at h;by_cases hn:n=1
   ·subst hn;exact TF (eG ok.1) n1
   ·rw[if_neg hn] at h;simp at h
theorem Sk (c:ed) (y:Int) (h:iu maxLen c) (hv:eA c=some (true,())): ∃n,i7 c y=some (n,())/\mW c y=some (n,())/\(n=0↔ ¬ (y∈c.replicas\/y∈c.witnesses))/\(n=3->y≠c.primary):=by
 obtain⟨v,v1,v2⟩:=kS c h;rw[hv] at v1;simp only[af,an,and_true] at v1;subst v1;have hp:=(oY h hv).2.2.1;unfold i7 mW;simp only[hv,v2,ae,(fm c.replicas y h.1).1,(fm c.replicas y h.1).2,(fm c.witnesses y h.2).1,(fm c.witnesses y h.2).2,ef,lh,ev,ei];by_cases he:y=c.primary
 ·simp only[if_pos he];exact⟨1,rfl,rfl,⟨fun h=>(by cases h),fun h=>absurd (.inl (he ▸ hp)) h⟩,fun h=>(by cases h)⟩
 ·simp only[if_neg he];by_cases h1:y∈c.replicas
  ·simp only[if_pos h1];exact⟨2,rfl,rfl,⟨fun h=>(by cases h),fun h=>absurd (.inl h1) h⟩,fun h=>(by cases h)⟩
  ·simp only[if_neg h1];by_cases h2:y∈c.witnesses
   ·simp only[if_pos h2];exact⟨3,rfl,rfl,⟨fun h=>(by cases h),fun h=>absurd (.inr h2) h⟩,fun _=>he⟩
   ·simp only[if_neg h2];exact⟨0,rfl,rfl,⟨fun _ h=>h.elim h1 h2,fun _=>rfl⟩,fun h=>(by cases h)⟩
theorem Dv (l:List ek) (hl:l.length<=1048576) (hv:ig l=some (true,())):vy l=some (((ja l:Nat):Int),l.drop (ja l),()):=by
 unfold vy wy;have hc:ja l<=l.length:=by unfold ja; omega
 have c1: (0:Int)<=((ja l:Nat):Int)/\((ja l:Nat):Int)<=(l.length:Int)/\(l.length:Int)<=(l.length:Int):=by omega
 have ht: ((l.drop (ja l)).take (l.length-ja l))=l.drop (ja l):=bD (by simp);simp only[hv,ae,bC,eJ,J5 l hl,en,if_pos c1,aw,ht,(sE (l.drop (ja l)) (by simp; omega)).1]
theorem Oz {x:dX} (ok:ft 1048576 x) {k:Nat} {t:dZ} (ht:fX 1048576 t):ft 1048576 (mn x (x.servers.set k t)):=by
 refine⟨⟨by rw[aZ]; exact ok.1.1,fun s hs=> ?_⟩,ok.2⟩;rcases ck hs with h|rfl
 ·exact ok.1.2 s h
 ·exact ht
theorem Sl {l:List ek} (hl:l.length<=1048576) (h:ig l=some (true,())):oU l=some (true,()):=by
 rcases AM l (eS hl) with ⟨_,g2,_⟩| ⟨g1,_⟩
 ·exact g2
 ·rw[g1] at h;simp at h
theorem push (x:dX) (ok:ft 1048576 x) (id m:Int): ∃S b,fE x id m=some (mn x S,b,())/\gW x id m=some (mn x S,b,())/\ft 1048576 (mn x S)/\S.length=x.servers.length/\(∀s,x.servers[id.toNat]? =some s-> ∃s',S[id.toNat]? =some s'/\s'.log=s.log):=by
 obtain⟨c1,c2⟩:=gY x ok;obtain⟨p,p1,p2,p3⟩:=nT x ok id
 have out: ∀ {A B:Option (dX×Bool×Unit)},A=some (x,false,())->B=some (x,false,())-> ∃S b,A=some (mn x S,b,())/\B=some (mn x S,b,())/\ft 1048576 (mn x S)/\S.length=x.servers.length/\(∀s,x.servers[id.toNat]? =some s-> ∃s',S[id.toNat]? =some s'/\s'.log=s.log):=
  fun h1 h2=>⟨x.servers,false,h1,h2,ok,rfl,fun s hs=>⟨s,hs,rfl⟩⟩
 cases p with
 |false=>
  refine out ?_ ?_
  ·unfold fE; simp only[c1,p1,ae,cu,ev]
  ·unfold gW; simp only[c2,p2,ae,cu,ev]
 |true=>
  obtain⟨hv,h0,h5,hP⟩:=p3 rfl;have vc:=gR ok hv;obtain⟨s,s1,s2,s3⟩:=sG ok vc ⟨h0,h5⟩;obtain⟨cv,cp⟩:=Gz s2 (hP s s1);obtain⟨l,l1,l2,l3,l4,_,l6⟩:=qU s.config (eG s2.1);obtain⟨n,n1,n2,n3,n4⟩:=Sk s.config m (eG s2.1) cv;have hm:=(fm l m (by unfold maxLen; omega)).1;by_cases hml:m∈l
  ·have hn0: ¬n=0:=fun h=>n3.1 h ((l6 cv m).1 hml);have rng:=l4 m hml;obtain⟨e1,e2⟩:=TC x ok vc ⟨h0,h5⟩ rng;cases hh:Gx x id m with
   |false=>
    rw[hh] at e1 e2;refine out ?_ ?_
    ·unfold fE; simp only[c1,p1,s1,l1,hm,e1,decide_eq_true hml,en,if_pos h0,ae,cu,bC,ev,eJ]
    ·unfold gW; simp only[c2,p2,s1,n2,e2,lh,if_neg hn0,en,if_pos h0,ae,cu,bC,ev,eJ]
   |true=>
    rw[hh] at e1 e2;obtain⟨t,t1,t2,t3⟩:=sG ok vc rng;have hlt:m.toNat<x.servers.length:=by rw[vc.len]; omega
    have cc:0<=m/\m< (x.servers.length:Int):=by rw[vc.len]; omega
    have hl:=s2.2.1;have hL:=(rX s2 s3).2.2.2.2.2.1;obtain⟨g1,g2⟩:=sF s s2;obtain⟨k1,k2⟩:=sE s.log hl;by_cases h3:n=3
    ·have hne:m.toNat≠id.toNat:=by
      have:=n4 h3;rw[<-cp] at this;omega
     refine⟨x.servers.set m.toNat ⟨t.up,t.intact,t.version,t.epoch,t.config,((ja s.log:Nat):Int),s.log.drop (ja s.log),t.commit,t.learned⟩,true,?_,?_,Oz ok ⟨t2.1,by simp only[bg]; omega,t2.2.2⟩,by rw[aZ],fun s' hs'=>⟨s',by rw[ch hne]; exact hs',rfl⟩⟩
     ·unfold fE; simp only[c1,p1,s1,l1,hm,e1,n1,t1,decide_eq_true hml,en,if_pos h0,if_pos cc,lh,if_pos h3,Dv s.log hl hL,b6 hlt,dL,ae,bC,eJ]
     ·unfold gW; simp only[c2,p2,s1,n2,e2,t1,g2,lh,if_neg hn0,en,if_pos h0,if_pos cc,if_pos h3,QA s.log hl (Sl hl hL),b6 hlt,dL,ae,bC,eJ]
    ·refine⟨x.servers.set m.toNat ⟨t.up,t.intact,t.version,t.epoch,t.config,t.first,s.log,t.commit,t.learned⟩,true,?_,?_,Oz ok ⟨t2.1,hl,t2.2.2⟩,by rw[aZ],fun s' hs'=> ?_⟩
     ·unfold fE; simp only[c1,p1,s1,l1,hm,e1,n1,t1,k1,decide_eq_true hml,en,if_pos h0,if_pos cc,lh,if_neg h3,ae,bC,eJ]
     ·unfold gW; simp only[c2,p2,s1,n2,e2,t1,g2,lh,if_neg hn0,en,if_pos h0,if_pos cc,if_neg h3,ae,bC,eJ]
     ·rw[s1] at hs';obtain rfl:=Option.some.inj hs';by_cases he:m.toNat=id.toNat
      ·refine⟨_,by rw[<-he]; exact b6 hlt,?_⟩;rfl
      ·exact⟨s,by rw[ch he]; exact s1,rfl⟩
  ·have hn0:n=0:=n3.2 (fun h=>hml ((l6 cv m).2 h));refine out ?_ ?_
   ·unfold fE; simp only[c1,p1,s1,l1,hm,decide_eq_false hml,en,if_pos h0,ae,cu,bC,ev,eJ]
   ·unfold gW; simp only[c2,p2,s1,n2,lh,if_pos hn0,en,if_pos h0,ae,bC,eJ]
theorem Ev (x:dX) (ok:ft 1048576 x) (id:Int): ∃S b,fQ x id=some (mn x S,b,())/\i4 x id=some (mn x S,b,())/\ft 1048576 (mn x S)/\S.length=x.servers.length:=by
 obtain⟨c1,c2⟩:=gY x ok;obtain⟨p,p1,p2,p3⟩:=nT x ok id;cases p with
 |false=>
  refine⟨x.servers,false,?_,?_,ok,rfl⟩
  ·unfold fQ; simp only[c1,p1,ae,cu,ev]
  ·unfold i4; simp only[c2,p2,ae,cu,ev]
 |true=>
  obtain⟨hv,h0,h5,_⟩:=p3 rfl;have vc:=gR ok hv;obtain⟨s,s1,s2,s3⟩:=sG ok vc ⟨h0,h5⟩;obtain⟨l,l1,l2,l3,l4,_,_⟩:=qU s.config (eG s2.1);have lm:l.length<=maxLen:=by unfold maxLen; omega
  obtain⟨⟨S,b⟩,⟨j1,j2,j3⟩,k1,k2⟩:=yY (B1:=gP) (B2:=iW) (β:=List dZ×Bool) l.length
   (fun k b=>((id,(),(),(),b.2,(k:Int),()),(z0,fy x,()),l,b.1,x.sides,x.master.configs,x.places,()))
   (fun k b=>((id,(),(),(),(),b.2,(),(l.length:Int),(k:Int),()),(fx x,z0,fy x,()),l,b.1,x.sides,x.master.configs,x.places,()))
   (fun _ b=>ft 1048576 (mn x b.1)/\b.1.length=5/\ ∃s',b.1[id.toNat]? =some s'/\s'.log=s.log)
   (fun b=>((id,(),(),(),b.2,()),(z0,fy x,()),l,b.1,x.sides,x.master.configs,x.places,()))
   (fun b=>((id,(),(),(),(),b.2,()),(fx x,z0,fy x,()),l,b.1,x.sides,x.master.configs,x.places,()))
   (fun b _=>by simp only[gP,iW,ei];exact⟨if_neg (by omega),if_neg (by omega)⟩)
   (fun k b hk hj=>by
     have c1: (k:Int)< (l.length:Int):=by omega
     have c2: (0:Int)<=(k:Int)/\(k:Int)< (l.length:Int):=by omega
     obtain⟨S,r,q1,q2,q3,q4,q5⟩:=push (mn x b.1) hj.1 id l[k];obtain⟨s',s4,s5⟩:=hj.2.2;obtain⟨s'',s6,s7⟩:=q5 s' s4;refine⟨(S,bif b.2 then r else false),?_⟩;have q1':fE (⟨x.now,b.1,x.sides,⟨x.master.configs,x.master.activated⟩,x.masterUp,⟨x.lease.epoch,x.lease.holder,x.lease.ends⟩,x.places⟩:dX) id l[k] =some (mn x S,r,()):=q1;have q2':gW (⟨x.now,b.1,x.sides,⟨x.master.configs,x.master.activated⟩,x.masterUp,⟨x.lease.epoch,x.lease.holder,x.lease.ends⟩,x.places⟩:dX) id l[k] =some (mn x S,r,()):=q2;simp only[gP,iW,fx,fy,z0,ei,en,if_pos c1,if_pos c2,aw,ah hk,ae,q1',q2',ec lm hk];refine⟨?_,?_,q3,q4.trans hj.2.1,s'',s6,s7.trans s5⟩
     ·cases b.2<;>rfl
     ·cases b.2<;>rfl)
   (x.servers,true) ⟨ok,vc.len,s,s1,rfl⟩
  unfold fQ i4;simp only[c1,c2,p1,p2,s1,l1,l2,en,if_pos h0,ae,bC,eJ];rw[show sA ((id,(),(),(),true,0,()),(z0,fy x,()),l,x.servers,x.sides,x.master.configs,x.places,())=_ from k1,show sC ((id,(),(),(),(),true,(),(l.length:Int),0,()),(fx x,z0,fy x,()),l,x.servers,x.sides,x.master.configs,x.places,())=_ from k2];simp only[ae];cases b with
  |false=>
   have e:nv ((id,(),(),(),false,0,()),(z0,fy x,()),l,S,x.sides,x.master.configs,x.places,())=some (((),(),false,()),(z0,fy x,()),S,x.sides,x.master.configs,x.places,()):=by refine i6 ?_;simp only[fY,eJ,ei];split<;>rfl
   rw[e];exact⟨S,false,rfl,rfl,j1,j2.trans vc.len.symm⟩
  |true=>
   obtain⟨U,⟨u1,u2,_⟩,e1,e2⟩:=yY (B1:=fY) (B2:=iM) (β:=List dZ) l.length
    (fun k b=>((id,(),(),(),true,(k:Int),()),(z0,fy x,()),l,b,x.sides,x.master.configs,x.places,()))
    (fun k b=>((id,(),(),(),true,(),(l.length:Int),(k:Int),()),(fx x,z0,fy x,()),l,b,x.sides,x.master.configs,x.places,()))
    (fun _ b=>ft 1048576 (mn x b)/\b.length=5/\ ∃s',b[id.toNat]? =some s'/\s'.log=s.log)
    (fun b=>(((),(),true,()),(z0,fy x,()),b,x.sides,x.master.configs,x.places,()))
    (fun b=>(((),(),true,()),(z0,fy x,()),b,x.sides,x.master.configs,x.places,()))
    (fun b _=>by simp only[fY,iM,ei];exact⟨if_neg (by omega),if_neg (by omega)⟩)
    (fun k b hk hj=>by
      have c1: (k:Int)< (l.length:Int):=by omega
      have c2: (0:Int)<=(k:Int)/\(k:Int)< (l.length:Int):=by omega
      have hz:=l4 _ (ba hk);have c3:0<=id/\id< (b.length:Int):=by rw[hj.2.1]; omega
      have c4:0<=l[k] /\l[k]< (b.length:Int):=by rw[hj.2.1]; omega
      obtain⟨s',s4,s5⟩:=hj.2.2;have hlt:l[k].toNat<b.length:=by rw[hj.2.1]; omega
      have hs1:x.servers[id.toNat]? =some s:=s1;refine⟨b.set l[k].toNat ⟨b[l[k].toNat].up,b[l[k].toNat].intact,b[l[k].toNat].version,b[l[k].toNat].epoch,b[l[k].toNat].config,b[l[k].toNat].first,b[l[k].toNat].log,(s.log.length:Int),b[l[k].toNat].learned⟩,?_⟩;have okk:=hj.1.1.2 _ (ba hlt);simp only[fY,iM,fx,ei,ev,en,if_pos c1,if_pos c2,if_pos c3,if_pos c4,if_pos h0,aw,ah hk,ae,s4,s5,hs1,ah hlt,ec lm hk];refine⟨trivial,trivial,Oz (x:=mn x b) hj.1 okk,by rw[aZ]; exact hj.2.1,?_⟩;by_cases he:l[k].toNat=id.toNat
      ·refine⟨_,by rw[<-he]; exact b6 hlt,?_⟩;show b[l[k].toNat].log=s.log;rw[ah (show id.toNat<b.length by omega)] at s4;have:=Option.some.inj s4;rw[<-s5,<-this]
       congr 2
      ·exact⟨s',by rw[ch he]; exact s4,s5⟩)
    S ⟨j1,j2,j3⟩
   simp only[ev];rw[show nv ((id,(),(),(),true,0,()),(z0,fy x,()),l,S,x.sides,x.master.configs,x.places,())=_ from e1,show rT ((id,(),(),(),true,(),(l.length:Int),0,()),(fx x,z0,fy x,()),l,S,x.sides,x.master.configs,x.places,())=_ from e2];exact⟨U,true,rfl,rfl,u1,u2.trans vc.len.symm⟩
end Go.Proofs.YtadabkgmdllbfabGreat.En
namespace Go.Proofs.YtadabkgmdllbfabGreat.En
open Go
def Tt {α:Type} (Q:α->Prop) (r:Option α):Prop:= ∃a,r=some a/\Q a
section
variable {α β σ ε:Type} {Q:α->Prop} {Q':β->Prop}
theorem Tt.ret {a:α} (h:Q a):Tt Q (some a):=⟨a,rfl,h⟩
theorem Tt.bind {r:Option α} {k:α->Option β} (h:Tt Q r) (hk: ∀a,Q a->Tt Q' (k a)):Tt Q' (r.bind k):=by obtain⟨a,rfl,h⟩:=h;exact hk a h
theorem Tt.mono {Q2:α->Prop} {r:Option α} (h:Tt Q r) (hq: ∀a,Q a->Q2 a):Tt Q2 r:=h.imp fun _ h=>⟨h.1,hq _ h.2⟩
theorem Tt.ip {p:Prop} {d:Decidable p} {x y:Option α} (hp:p) (h:Tt Q x):Tt Q (@iteP _ p d x y):=by rw[gA hp];exact h
theorem Tt.br {b:Bool} {x y:Option α} (h1:b=true->Tt Q x) (h2:b=false->Tt Q y):Tt Q (br b x y):=by
 cases b with
 |true=>exact h1 rfl
 |false=>exact h2 rfl
theorem Tt.get {γ:Type} {l:List γ} {i:Nat} {k:γ->Option α} (hi:i<l.length) (h: ∀x,l[i]? =some x->x∈l->Tt Q (k x)):Tt Q ((l[i]?).bind k):=by rw[ah hi];exact h _ (ah hi) (ba hi)
theorem Tt.loop {B:σ->Option (σ⊕ε)} {E:ε->Prop} (I:σ->Prop) (μ:σ->Nat) (h: ∀s,I s->Tt (Sum.elim (fun s'=>I s'/\μ s'<μ s) E) (B s)) {s:σ} (hs:I s):Tt E (ii B s):=
 sq I μ E (fun s hs=>by
  obtain⟨r,h1,h2⟩:=h s hs;cases r with
  |inl s'=>exact .inl ⟨s',h1,h2.1,h2.2⟩
  |inr e=>exact .inr ⟨e,h1,h2⟩) hs
theorem Tt.go {p:Prop} [Decidable p] {x y:Option α} (hp:p) (h:Tt Q x):Tt Q (Go.Proofs.YtadabkgmdllbfabGreat.En.br (decide p) x y):=by rw[ei,if_pos hp];exact h
theorem Tt.end {p:Prop} [Decidable p] {x y:Option α} (hp: ¬p) (h:Tt Q y):Tt Q (Go.Proofs.YtadabkgmdllbfabGreat.En.br (decide p) x y):=by rw[ei,if_neg hp];exact h
theorem Tt.count {B:σ->Option (σ⊕ε)} {E:ε->Prop} (n:Nat) (m:Nat->β->σ) (J:Nat->β->Prop) (h0: ∀b,J n b->Tt (Sum.elim (fun _=>False) E) (B (m n b)))
  (h1: ∀k b,k<n->J k b->Tt (Sum.elim (fun s=> ∃b',s=m (k+1) b'/\J (k+1) b') E) (B (m k b))) (b:β) (hb:J 0 b):Tt E (ii B (m 0 b)):=by
 have go: ∀ (d k:Nat) (b:β),k+d=n->J k b->Tt E (ii B (m k b)):=by
  intro d
  induction d with
  |zero=>
   intro k b hk hb;obtain rfl:k=n:=hk;obtain⟨r,e1,e2⟩:=h0 b hb;cases r with
   |inl s=>exact e2.elim
   |inr e=>exact⟨e,by rw[ri,e1]; rfl,e2⟩
  |succ d ih=>
   intro k b hk hb;obtain⟨r,e1,e2⟩:=h1 k b (by omega) hb;cases r with
   |inl s=>obtain⟨b',rfl,hb'⟩:=e2;rw[ri,e1];exact ih (k+1) b' (by omega) hb'
   |inr e=>exact⟨e,by rw[ri,e1]; rfl,e2⟩
 exact go n 0 b (aQ n) hb
end
abbrev T1 {α:Type} (_:α):Prop:=True
theorem o0 {l:List Int} (ha:sa l): ∀y∈l,0<=y/\y<5:=by intro y hy;obtain⟨k,hk,rfl⟩:=aJ hy;have:=(ha k hk).1;omega
theorem qa (c:ed) (h:iu maxLen c):Tt (fun y=>y.1.length<=10/\ ∀z∈y.1,0<=z/\z<5) (fD c):=by obtain⟨v,v1,_⟩:=kS c h;unfold fD;rw[v1,ae,ef];refine .br (fun e=> ?_) fun _=> .ret ⟨aA _,nofun⟩;subst e;obtain⟨a1,a2,_⟩:=oY h v1;have l1:=a1.len;have l2:=a2.len;obtain⟨r,r1,_,r4,r5⟩:=J2 c.replicas c.witnesses (by omega) (by omega);rw[r1];exact .ret ⟨by show r.length<=10; omega,fun z hz=>((r4 z).1 hz).elim (o0 a1 z) (o0 a2 z)⟩
theorem AO {x:dX} (ok:ft 1048576 x) (vc:VC x) (a b:Int):Tt T1 (eY x.sides a b):=by have h5:=p9 (eS ok.2.1) vc.sides;unfold eY;simp only[vc.sides,gF,ae,ev];refine .br (fun ha=> .br (fun hb=> ?_) fun _=> .ret trivial) fun _=> .ret trivial;have ha:=eL.1 ha;have hb:=eL.1 hb;exact .ip ha.1 (.get (by omega) fun _ _ _=> .ip hb.1 (.get (by omega) fun _ _ _=> .ret trivial))
theorem Tt.srv {α:Type} {Q:α->Prop} {x:dX} (ok:ft 1048576 x) (vc:VC x) {a:Int} (ha:0<=a/\a<5) {k:dZ->Option α} (h: ∀s,x.servers[a.toNat]? =some s->fX 1048576 s->eR s a=some (true,())->Tt Q (k s)):Tt Q (iteP (0<=a) ((x.servers[a.toNat]?).bind k) none):=by obtain⟨s,s1,s2,s3⟩:=sG ok vc ha;refine .ip ha.1 ?_;rw[s1];exact h s s1 s2 s3
theorem OA {x:dX} (ok:ft 1048576 x) (vc:VC x) {a b:Int} (ha:0<=a/\a<5) (hb:0<=b/\b<5):Tt T1 (ke x a b):=by unfold ke;refine .srv ok vc hb fun m m1 m2 _=> .bind (AO ok vc a b) fun _ _=> .br (fun _=> .br (fun _=> .srv ok vc ha fun p p1 p2 _=> .br (fun _=> .srv ok vc ha fun _ _ _ _=> .br (fun _=> .srv ok vc ha fun q _ _ _=> ?_) fun _=> .ret trivial) fun _=> .ret trivial) fun _=> .ret trivial) fun _=> .ret trivial;rw[(gM m.config q.config (eG m2.1)).1];exact .ret trivial
theorem v5 {l:List ek} (h:l.length<=maxLen): ∃b,ig l=some (b,())/\(b=true->l.length<=16):=by
 rcases AM l h with ⟨h1,_,h2⟩| ⟨h1,_⟩
 ·exact⟨true,h1,fun _=>h2⟩
 ·exact⟨false,h1,nofun⟩
theorem xe {l:List ek} (h:l.length<=1048576):iR l=some (l,()):=(sE l h).1
theorem Rg (l:List ek) (c q:Int) (hl:l.length<=maxLen):Tt (fun y=>y.1= -1\/0<=y.1/\y.1< (l.length:Int)) (tC l c q):=by
 unfold tC;refine .bind (.count (B:=pc) (E:=Sum.elim (fun y=>0<=y.1.1/\y.1.1< (l.length:Int)) fun _=>True) l.length (fun k (_:Unit)=>((l,c,q,(k:Int),()),(),())) (fun _ _=>True) (fun _ _=> ?_) (fun k _ hk _=> ?_) () trivial) fun y hy=> ?_
 ·unfold pc;simp only[ei];rw[if_neg (by omega)];exact .ret trivial
 ·unfold pc;simp only[ei];rw[if_pos (by omega)];refine .ip (by omega) (.get (by omega) fun _ _ _=> .br (fun _=> .ip (by omega) (.get (by omega) fun _ _ _=> .br (fun _=> .ret ?_) fun _=> .ret ⟨(),by rw[ec hl hk],trivial⟩)) fun _=> .ret ⟨(),by rw[ec hl hk],trivial⟩);exact⟨by show (0:Int)<=k; omega,by show (k:Int)<_; omega⟩
 ·cases y with
  |inl y=>exact .ret (.inr hy)
  |inr y=>exact .ret (.inl rfl)
end Go.Proofs.YtadabkgmdllbfabGreat.En
namespace Go.Proofs.YtadabkgmdllbfabGreat.En
open Go
theorem uD {l:List dZ} (h:l.length<=1048576/\ ∀s∈l,fX 1048576 s) {s:dZ} (hs:fX 1048576 s) (i:Nat): (l.set i s).length<=1048576/\ ∀s'∈l.set i s,fX 1048576 s':=
 ⟨by rw[aZ]; exact h.1,fun s' hm=>(ck hm).elim (h.2 s') fun e=>e ▸ hs⟩
theorem So (x:dX) (ok:ft 1048576 x) (id:Int): ∃y n,mP x id=some (y,n,())/\ft 1048576 y/\y.servers.length=x.servers.length:=by
 obtain⟨b,b1,_,b2⟩:=Gs x id ok;unfold mP;simp only[(gY x ok).1,b1,ae,ef];cases b with
 |false=>exact⟨x,1,rfl,ok,rfl⟩
 |true=>
  obtain⟨hv,h0,h5⟩:=b2 rfl;obtain⟨s,s1,_⟩:=sG ok (gR ok hv) ⟨h0,h5⟩;have hlt:=je s1;have hs:=ok.1.2 s (au s1);simp only[ev,en,if_pos h0,s1,ae];rw[if_pos ⟨h0,by omega⟩];cases s.up with
  |false=>exact⟨x,2,rfl,ok,rfl⟩
  |true=>exact⟨_,0,rfl,⟨uD ok.1 (show fX 1048576 ⟨false,s.intact,s.version,s.epoch,s.config,s.first,s.log,s.commit,s.learned⟩ from hs) _,ok.2⟩,aZ⟩
theorem OB (x:dX) (ok:ft 1048576 x) (id:Int): ∃y n,lu x id=some (y,n,())/\ft 1048576 y/\y.servers.length=x.servers.length:=by
 obtain⟨b,b1,_,b2⟩:=Gs x id ok;unfold lu;simp only[(gY x ok).1,b1,ae,ef];cases b with
 |false=>exact⟨x,1,rfl,ok,rfl⟩
 |true=>
  obtain⟨hv,h0,h5⟩:=b2 rfl;obtain⟨s,s1,_⟩:=sG ok (gR ok hv) ⟨h0,h5⟩;have hlt:=je s1;have hs:=ok.1.2 s (au s1);simp only[ev,en,if_pos h0,s1,ae];rw[if_pos ⟨h0,by omega⟩];cases s.up with
  |true=>exact⟨x,1,rfl,ok,rfl⟩
  |false=>exact⟨_,0,rfl,⟨uD ok.1 (show fX 1048576 ⟨true,s.intact,s.version,s.epoch,s.config,s.first,s.log,s.commit,s.learned⟩ from hs) _,ok.2⟩,aZ⟩
theorem TG (x:dX) (ok:ft 1048576 x) (id:Int): ∃y n,rH x id=some (y,n,())/\ft 1048576 y/\y.servers.length=x.servers.length:=by
 obtain⟨b,b1,_,b2⟩:=Gs x id ok;unfold rH;simp only[(gY x ok).1,b1,ae,ef];cases b with
 |false=>exact⟨x,1,rfl,ok,rfl⟩
 |true=>obtain⟨hv,h0,h5⟩:=b2 rfl;obtain⟨s,s1,_⟩:=sG ok (gR ok hv) ⟨h0,h5⟩;have hlt:=je s1;simp only[ev,en,if_pos h0,s1,ae,qJ];rw[if_pos ⟨h0,by omega⟩];exact⟨_,0,rfl,⟨uD ok.1 ⟨⟨aA _,aA _⟩,aA _,aA _⟩ _,ok.2⟩,aZ⟩
theorem OC (x:dX) (ok:ft 1048576 x) (n:Int): ∃y k,oD x n=some (y,k,())/\ft 1048576 y/\y.servers.length=x.servers.length:=by
 obtain⟨v,v1,_⟩:=hU x ok;unfold oD;simp only[(gY x ok).1,v1,gF,ae,ef];cases v with
 |false=>exact⟨x,1,rfl,ok,rfl⟩
 |true=>
  simp only[ev];cases j8 n 0 3 with
  |false=>exact⟨x,1,rfl,ok,rfl⟩
  |true=>exact⟨_,0,rfl,ok,rfl⟩
theorem TH (x:dX) (ok:ft 1048576 x) (a b:Int): ∃y k,oC x a b=some (y,k,())/\ft 1048576 y/\y.servers.length=x.servers.length:=by
 obtain⟨v,v1,_⟩:=hU x ok;obtain⟨u,u1,_⟩:=rV x.sides (eS ok.2.1)
 have hm: ∃l t,rI x.sides a b=some (l,t,())/\l.length=x.sides.length:=by
  unfold rI;simp only[be,en,u1,gF,ae,ef];rw[if_pos (show x.sides.length*8<=2 ^ 40 by have:=ok.2.1; omega)];cases u with
  |false=>exact⟨_,_,rfl,rfl⟩
  |true=>
   simp only[ev];cases hw:j8 a 0 4 with
   |false=>exact⟨_,_,rfl,rfl⟩
   |true=>
    simp only[ev];cases j8 b 0 3 with
    |false=>exact⟨_,_,rfl,rfl⟩
    |true=>have hw:=eL.1 hw;have hl:=p9 (eS ok.2.1) u1;simp only[ev];rw[if_pos ⟨hw.1,by omega⟩,ah (by omega)];exact⟨_,_,rfl,aZ⟩
 obtain⟨l,t,l1,l2⟩:=hm;unfold oC;simp only[(gY x ok).1,v1,l1,ae,ef];cases v with
 |false=>exact⟨x,1,rfl,ok,rfl⟩
 |true=>
  cases t with
  |false=>exact⟨x,1,rfl,ok,rfl⟩
  |true=>exact⟨_,0,rfl,⟨ok.1,by show l.length<=1048576; rw[l2]; exact ok.2.1,ok.2.2⟩,rfl⟩
theorem II (x:dX) (ok:ft 1048576 x) (id:Int): ∃n:Int,nK x id=some (n,())/\(n=0->eb x=some (true,())/\0<=id/\id<5):=by
 obtain⟨v,v1,_⟩:=hU x ok;unfold nK;simp only[v1,gF,ae,ef];cases v with
 |false=>exact⟨1,rfl,fun h=>absurd h (by decide)⟩
 |true=>
  simp only[ev];cases hw:j8 id 0 4 with
  |false=>exact⟨1,rfl,fun h=>absurd h (by decide)⟩
  |true=>
   have hw:=eL.1 hw;obtain⟨s,s1,_⟩:=sG ok (gR ok v1) ⟨hw.1,by omega⟩;simp only[ev,en,if_pos hw.1,s1,ae];cases s.up with
   |false=>exact⟨2,rfl,fun h=>absurd h (by decide)⟩
   |true=>exact⟨0,rfl,fun _=>⟨trivial,hw.1,by omega⟩⟩
end Go.Proofs.YtadabkgmdllbfabGreat.En
namespace Go.Proofs.YtadabkgmdllbfabGreat.En
open Go
theorem tn {k n:Nat} (h:k<n): (k:Int).toNat<n:=h
theorem IJ (m:gf) (ho:m.objects.length<=1000) (hs:m.sessions.length<=1000):Tt (fun y=>y.1=true->m.objects.length=3) (jn m):=by
 have mo:m.objects.length<=maxLen:=by unfold maxLen; omega
 have ms:m.sessions.length<=maxLen:=by unfold maxLen; omega
 unfold jn;refine .bind (.count (B:=kW) (E:=Sum.elim (fun y=>y.1.2=(false,())) fun y=>y.2.1=((m.objects,m.sessions,()),())) m.objects.length (fun k (_:Unit)=>(((),(k:Int),()),((m.objects,m.sessions,()),()),())) (fun _ _=>True) (fun _ _=> .end (aR _) (.ret rfl)) (fun k _ hk _=> .go (aE.2 hk) (.ip (ax k) (.get (tn hk) fun x _ _=> ?_))) () trivial) fun y hy=> ?_
 ·rw[gF,ae,ef];exact .br (fun _=> .ret ⟨(),by rw[ec mo hk],trivial⟩) fun _=> .ret rfl
 cases y with
 |inl y=>exact .ret (by rw[show y.1.2=_ from hy]; nofun)
 |inr y=>
  show Tt _ ((ru (((),0,()),y.2.1,())).bind _);rw[show y.2.1=_ from hy];refine .bind (.count (B:=kX) (E:=Sum.elim (fun y=>y.1.2=(false,())) fun y=>y.2.1=((m.objects,m.sessions,()),())) m.sessions.length (fun k (_:Unit)=>(((),(k:Int),()),((m.objects,m.sessions,()),()),())) (fun _ _=>True) (fun _ _=> .end (aR _) (.ret rfl)) (fun k _ hk _=> .go (aE.2 hk) (.ip (ax k) (.get (tn hk) fun x _ _=> ?_))) () trivial) fun y hy=> ?_
  ·simp only[gF,ae,ef]
   have hw: (k:Int)>0->IntKind.wrap .i64 ((k:Int)-1)=(k:Int)-1:=fun h=>by unfold maxLen at ms;exact ff (by omega) (by omega)
   refine .br (fun _=> .br (fun _=> .br (fun _=> .br (fun h=> ?_) fun _=> .ret ⟨(),by rw[ec ms hk],trivial⟩) fun _=> .ret rfl) fun _=> .ret rfl) fun _=> .ret rfl;have h:=of_decide_eq_true h;rw[hw h];exact .ip (by omega) (.get (by omega) fun _ _ _=> .br (fun _=> .ret rfl) fun _=> .ret ⟨(),by rw[ec ms hk],trivial⟩)
  cases y with
  |inl y=>exact .ret (by rw[show y.1.2=_ from hy]; nofun)
  |inr y=>show Tt _ (some (((y.2.1.1.1.length:Int)==3),()));rw[show y.2.1=_ from hy];exact .ret fun h=>by have : (m.objects.length:Int)=3:=eq_of_beq h; omega
theorem OD (m:gf) (c:Int) (hs:m.sessions.length<=1000):Tt (fun y=>y.2.1=true-> ∃x∈m.sessions,x.client=c) (pP m c):=by
 have ms:m.sessions.length<=maxLen:=by unfold maxLen; omega
 unfold pP;refine .bind (.count (B:=pu) (E:=Sum.elim (fun y=> ∃x∈m.sessions,x.client=c) fun _=>True) m.sessions.length (fun k (_:Unit)=>((c,(),(),(k:Int),()),((m.objects,m.sessions,()),(0,0,false,0,()),()),())) (fun _ _=>True) (fun _ _=> .end (aR _) (.ret trivial)) (fun k _ hk _=> .go (aE.2 hk) (.ip (ax k) (.get (tn hk) fun x _ hx=> .br (fun e=> .ip (ax k) (.get (tn hk) fun _ _ _=> .ret ⟨x,hx,eq_of_beq e⟩)) fun _=> .ret ⟨(),by rw[ec ms hk],trivial⟩))) () trivial) fun y hy=> ?_;cases y with
 |inl y=>exact .ret fun _=>hy
 |inr y=>exact .ret nofun
theorem J9 (m:gf) (o:Op) (ho:m.objects.length<=1000) (hs:m.sessions.length<=900):Tt (fun y=>y.1.sessions.length<=m.sessions.length+1/\y.1.objects.length=m.objects.length) (pd m o):=by
 obtain⟨⟨b,_⟩,v1,v2⟩:=IJ m ho (by omega);unfold pd
 have cp:vw m=some (m,()):=by unfold vw;simp only[be];rw[gA (by omega),gA (by omega)]
 rw[cp,ae,v1,ae,ef,uC];refine .br (fun e=> ?_) fun _=> .ret ⟨ca _,rfl⟩;have h3:=v2 e;rw[ae,ef];refine .br (fun eo=> .bind (OD m o.client (by omega)) fun y hy=> ?_) fun _=> .ret ⟨ca _,rfl⟩;have hob:=Ld (show fC o=some (true,()) by rw[uC]; rw[show Si o=true from eo]);have hle:=QC m.sessions o.client;have hlt:y.2.1=true->xZ m.sessions o.client<m.sessions.length:=fun h=>QD (hy h);have hw:IntKind.wrap .i64 (((xZ m.sessions o.client:Nat):Int)+1)=((xZ m.sessions o.client:Nat):Int)+1:=ff (by omega) (by omega);generalize hp:xZ m.sessions o.client=p at hle hlt hw
 have ln: ∀ (k:Nat) (z:eD),k<=m.sessions.length+1->p<=k->(m.sessions.take p++ [z] ++(m.sessions.drop k).take (m.sessions.length-k)).length=p+1+(m.sessions.length-k):=fun k z h1 h2=>by simp only[az,bf,bg,aB];omega
 have g0:0<=(p:Int):=ax p;have g1: (p:Int)<=(m.sessions.length:Int):=Int.ofNat_le.2 hle;have g3:0<=(p:Int)+1:=by omega
 have g2:y.2.1=true->(p:Int)+1<=(m.sessions.length:Int):=fun h=>by have:=hlt h; omega
 have l1: (m.sessions.take p).length<=900:=by rw[bf]; omega
 extract_lets+lift j44 j45
 have h44:Tt (fun y=>y.1.sessions.length<=m.sessions.length+1/\y.1.objects.length=m.objects.length) j44:=by
  unfold j44;refine .ip hob.1 (.get (by show o.object.toNat<_; omega) fun x _ _=> .br (fun _=> .ip (by show 0<=o.object/\o.object< (m.objects.length:Int); omega) (.get (by show o.object.toNat<m.objects.length; omega) fun _ _ _=> ?_)) fun _=> .br (fun _=> .ip (by show 0<=o.object/\o.object< (m.objects.length:Int); omega) (.get (by show o.object.toNat<m.objects.length; omega) fun _ _ _=> ?_)) fun _=> ?_)
  all_goals
   show Tt _ ((qG (((),(),(),(),y.2.1,(),0,()),((o.client,o.seq,o.kind,o.object,o.old,o.value,()),((),(),()),(false,0,()),((),(),()),(_,_,()),()),_,m.sessions,())).bind _);rw[UA _ _ _ _ _ _ (by omega),hp,ae];simp only[hw,be,aQ,bP,aw,show (0:Int).toNat=0 from rfl,cY,show ((p:Int)+1).toNat=p+1 from rfl];refine .ip ⟨g0,g1,bQ _⟩ (.br (fun e=> ?_) fun _=> ?_)
   ·have:=hlt e;refine .ip ⟨g3,g2 e,bQ _⟩ (.ip ⟨bQ _,g0,g1⟩ (.ip hle (.ip (by omega) (.ip (by rw[az,aB]; omega) (.ip (by omega) (.ip (by rw[ln _ _ (by omega) (by omega)]; omega) (.ret ⟨?_,by first |rfl|exact aZ⟩)))))));show List.length _<=_;rw[ln _ _ (by omega) (by omega)];omega
   ·refine .ip ⟨bQ _,g0,g1⟩ (.ip hle (.ip (by omega) (.ip (by rw[az,aB]; omega) (.ip (by omega) (.ip (by rw[ln _ _ (by omega) (by omega)]; omega) (.ret ⟨?_,by first |rfl|exact aZ⟩))))));show List.length _<=_;rw[ln _ _ (by omega) (by omega)];omega
 have h45:Tt (fun y=>y.1.sessions.length<=m.sessions.length+1/\y.1.objects.length=m.objects.length) j45:= .br (fun _=> .br (fun _=> .ret ⟨ca _,rfl⟩) fun _=>h44) fun _=>h44;exact .br (fun _=> .br (fun _=> .ret ⟨ca _,rfl⟩) fun _=>h45) fun _=>h45
theorem GA (l:List ek) (hl:l.length<=maxLen):Tt (fun y=>y.1.objects.length<=3/\y.1.sessions.length<=16) (l8 l):=by obtain⟨b,b1,b2⟩:=v5 hl;unfold l8 qF;rw[ae,b1,ae,ef];refine .br (fun e=> ?_) fun _=> .ret ⟨aA _,aA _⟩;have h16:=b2 e;refine .bind (.count (B:=pv) (E:=fun y=>y.2.2.1.length<=3/\y.2.2.2.1.length<=16) l.length (fun k (b:List Int×List eD)=>((l,(),(),(k:Int),()),(((),(),()),((),(),()),()),b.1,b.2,())) (fun k b=>b.1.length<=3/\b.2.length<=k) (fun b hb=> .end (aR _) (.ret ⟨hb.1,aO hb.2 h16⟩)) (fun k b hk hb=> .go (aE.2 hk) (.ip (ax k) (.get (tn hk) fun x _ _=> .bind (J9 ⟨b.1,b.2⟩ x.op (aO hb.1 (by omega)) (aO hb.2 (by omega))) fun y hy=> .ret ⟨(y.1.objects,y.1.sessions),by rw[ec hl hk],by rw[hy.2]; exact hb.1,aO hy.1 (Nat.succ_le_succ hb.2)⟩))) ([0,0,0],[]) ⟨aq _,aq _⟩) fun y hy=> .ret hy
theorem Le (l:List ek) (i:Int) (hl:l.length<=maxLen):Tt T1 (pf l i):=by obtain⟨b,b1,b2⟩:=v5 hl;unfold pf;rw[b1,ae,ef];refine .br (fun e=> ?_) fun _=> .ret trivial;have h16:=b2 e;rw[ff (n:=(l.length:Int)-1) (by omega) (by omega),gF,ae,ef];refine .br (fun h=> ?_) fun _=> .ret trivial;have h:=eL.1 h;refine .ip (by omega) (.bind (GA _ ?_) fun y hy=> .ip h.1 (.get (by omega) fun x _ _=> .bind (J9 _ _ (by omega) (by omega)) fun z _=> .ret trivial));refine aO ?_ hl;rw[bf,bg];omega
theorem x0 (s:dZ) (h:fX 1048576 s) (hf:0<=s.first/\s.first<=16/\s.log.length<=16):Tt (fun y=>y.1.length<=16) (ga s):=by
 unfold ga;rw[ff (n:=s.first+(s.log.length:Int)) (by omega) (by omega)];simp only[gF,ae,ef];refine .br (fun h1=> ?_) fun _=> .ret (aA _);have h1:=eL.1 h1;refine .br (fun _=> .ret (aA _)) fun _=> ?_;rw[ff (n:=s.commit-s.first) (by omega) (by omega)]
 have hlen: ((s.log.drop (0:Int).toNat).take ((s.commit-s.first).toNat-(0:Int).toNat)).length<=16:=by rw[bf,bg];omega
 refine .ip (by omega) ?_;rw[xe (by omega)];exact .ret hlen
theorem TJ (m:gf) (i:Int) (ho:m.objects.length<=1000) (hs:m.sessions.length<=1000):Tt T1 (oq m i):=by obtain⟨⟨b,_⟩,b1,b2⟩:=IJ m ho hs;unfold oq;rw[b1,ae,ef];refine .br (fun e=> ?_) fun _=> .ret trivial;have h3:=b2 e;rw[gF,ae,ef];refine .br (fun h=> ?_) fun _=> .ret trivial;have h:=eL.1 h;exact .ip h.1 (.get (by omega) fun _ _ _=> .ret trivial)
theorem GB {s:dZ} {id:Int} (h:fX 1048576 s) (hv:eR s id=some (true,())):0<=s.first/\s.first<=16/\s.log.length<=16:=by obtain⟨h1,h2,h3,_⟩:=rX h hv;exact⟨h1,h2,h3⟩
theorem Sq (s:dZ) (i:Int) (h:fX 1048576 s) (hf:0<=s.first/\s.first<=16/\s.log.length<=16):Tt T1 (ry s i):=by unfold ry;exact .bind (x0 s h hf) fun y hy=> .bind (GA _ (by unfold maxLen; omega)) fun z hz=> .bind (TJ _ _ (by omega) (by omega)) fun _ _=> .ret trivial
theorem Sr (l:fo) (a b c:Int):Tt T1 (oo l a b c):=by obtain⟨v,v1,_⟩:=uA l;unfold oo;rw[v1,ae,gF,ae];exact .br (fun _=> .br (fun _=> .br (fun _=> .br (fun _=> .br (fun _=> .ret trivial) fun _=> .ret trivial) fun _=> .ret trivial) fun _=> .ret trivial) fun _=> .ret trivial) fun _=> .ret trivial
theorem OE (x:dX) (ok:ft 1048576 x) (id:Int):Tt T1 (kB x id):=by obtain⟨b,b1,_,b2⟩:=nT x ok id;unfold kB;rw[b1,ae];refine .br (fun e=> ?_) fun _=> .ret trivial;obtain⟨hv,h0,h5,_⟩:=b2 e;exact .srv ok (gR ok hv) ⟨h0,h5⟩ fun s _ _ _=> .bind (Sr _ _ _ _) fun _ _=> .ret trivial
theorem Ka (x:dX) (ok:ft 1048576 x) (id i:Int):Tt T1 (pQ x id i):=by obtain⟨n,n1,n2⟩:=II x ok id;unfold pQ;rw[n1,ae,ef];refine .br (fun e=> ?_) fun _=> .ret trivial;obtain⟨hv,h0,h5⟩:=n2 (eq_of_beq e);have vc:=gR ok hv;rw[gF,ae,ef];refine .br (fun _=> .srv ok vc ⟨h0,h5⟩ fun s _ s2 _=> ?_) fun _=> .ret trivial;obtain⟨b,b1,_⟩:=rY s id s2;rw[b1,ae,ef];refine .br (fun _=> .bind (OE x ok id) fun y _=> ?_) fun _=> .ret trivial;rw[ef];exact .br (fun _=> .srv ok vc ⟨h0,h5⟩ fun s _ s2 s3=> .bind (Sq s i s2 (GB s2 s3)) fun _ _=> .ret trivial) fun _=> .ret trivial
end Go.Proofs.YtadabkgmdllbfabGreat.En
namespace Go.Proofs.YtadabkgmdllbfabGreat.En
open Go
def Kp (x y:dX):Prop:=ft 1048576 y/\y.servers.length=x.servers.length
theorem Kp.self {x:dX} (ok:ft 1048576 x):Kp x x:=⟨ok,rfl⟩
theorem Kp.trans {x y z:dX} (h:Kp x y) (k:Kp y z):Kp x z:=⟨k.1,k.2.trans h.2⟩
theorem Kp.srvs {x y:dX} (h:Kp x y) {S:List dZ} (hl:S.length=y.servers.length) (hs: ∀s∈S,fX 1048576 s):Kp x ⟨y.now,S,y.sides,y.master,y.masterUp,y.lease,y.places⟩:=
 ⟨⟨⟨by rw[hl]; exact h.1.1.1,hs⟩,h.1.2⟩,hl.trans h.2⟩
theorem Kp.set {x y:dX} (h:Kp x y) {s:dZ} (hs:fX 1048576 s) (i:Nat):Kp x ⟨y.now,y.servers.set i s,y.sides,y.master,y.masterUp,y.lease,y.places⟩:=
 h.srvs aZ (uD h.1.1 hs i).2
theorem Tt.at {α:Type} {Q:α->Prop} {l:List dZ} (h5:l.length=5) {a:Int} (ha:0<=a/\a<5) {k:dZ->Option α} (h: ∀s,l[a.toNat]? =some s->s∈l->Tt Q (k s)):Tt Q (iteP (0<=a/\a< (l.length:Int)) ((l[a.toNat]?).bind k) none):=
 .ip (by rw[h5]; exact ha) (.get (by omega) h)
theorem Ss (x:dX) (ok:ft 1048576 x) (id:Int):Tt T1 (mN x id):=by obtain⟨b,b1,_,b2⟩:=nT x ok id;unfold mN;rw[b1,ae,ef];refine .br (fun e=> ?_) fun _=> .ret trivial;obtain⟨hv,h0,h5,_⟩:=b2 e;have vc:=gR ok hv;refine .srv ok vc ⟨h0,h5⟩ fun s _ s2 _=> .bind (qa _ (eG s2.1)) fun y hy=> .bind (.count (B:=na) (E:=fun _=>True) y.1.length (fun k (b:Int)=>(((),b,(),(k:Int),()),(fx x,()),y.1,())) (fun _ _=>True) (fun _ _=> .end (aR _) (.ret trivial)) (fun k b hk _=> .go (aE.2 hk) (.ip ⟨ax k,aE.2 hk⟩ (.get (tn hk) fun z _ hz=> .srv ok vc (hy.2 z hz) fun t _ _ _=> .ret ⟨_,by rw[ec (by have:=hy.1; unfold maxLen; omega) hk],trivial⟩))) 2 trivial) fun _ _=> .ret trivial
theorem QF (x:dX) (ok:ft 1048576 x) (id:Int) (o:Op):Tt (fun y=>Kp x y.1/\(y.2.1=0->y.1.servers.length=5/\0<=id/\id<5)) (jU x id o):=by
 obtain⟨v,v1,_⟩:=hU x ok;unfold jU;rw[(gY x ok).1,ae,v1,ae,ef];have bad: ∀n:Int,n≠0->Tt (fun y:dX×Int×Unit=>Kp x y.1/\(y.2.1=0->y.1.servers.length=5/\0<=id/\id<5)) (some (x,n,())):=fun n hn=> .ret ⟨.self ok,fun h=>absurd h hn⟩;refine .br (fun e=> ?_) fun _=>bad 1 (by decide);subst e;have vc:=gR ok v1;rw[gF,ae,ef];refine .br (fun h=> ?_) fun _=>bad 1 (by decide);have h:=eL.1 h;have hid:0<=id/\id<5:=by omega
 rw[uC,ae,ef];refine .br (fun _=> .srv ok vc hid fun s s1 s2 s3=> ?_) fun _=>bad 1 (by decide);rw[ef];refine .br (fun _=> ?_) fun _=>bad 2 (by decide);obtain⟨b,b1,_⟩:=rY s id s2;rw[b1,ae,ef];refine .br (fun _=> .bind (Rg s.log _ _ (eS s2.2.1)) fun y hy=> ?_) fun _=>bad 3 (by decide);have good: ∀n:Int,Tt (fun y:dX×Int×Unit=>Kp x y.1/\(y.2.1=0->y.1.servers.length=5/\0<=id/\id<5)) (some (x,n,())):=fun n=> .ret ⟨.self ok,fun _=>⟨vc.len,hid⟩⟩
 extract_lets+lift j17 j18
 have h17:Tt (fun y=>Kp x y.1/\(y.2.1=0->y.1.servers.length=5/\0<=id/\id<5)) j17:=by
  unfold j17;refine .at vc.len hid fun s' e' hs'=> ?_;show Tt _ ((x.servers[id.toNat]?).bind _);rw[e',ae];have hs:=ok.1.2 s' hs';have hs3:=hs.2.1;obtain rfl:s'=s:=by rw[s1] at e'; exact (Option.some.inj e').symm
  have hl:=(GB s2 s3).2.2;refine .ip rfl ?_;have e1: ∀X Y:Option (dX×Int×Unit),iteP (s'.log.length<s'.log.length) X Y=Y:=fun X Y=>by rw[en,if_neg (dv _)]
  rw[e1]
  have hl2: (s'.log.take s'.log.length++([(⟨s'.epoch,o⟩:ek)]:List ek)).length<=17:=by rw[az,bf,aB];omega
  refine .ip (by omega) (.ip (by show 0<=id/\id< (x.servers.length:Int); rw[vc.len]; exact hid) (.ip rfl (.ret ⟨(Kp.self ok).set (s:=⟨s'.up,s'.intact,s'.version,s'.epoch,s'.config,s'.first,s'.log.take s'.log.length++ [⟨s'.epoch,o⟩],s'.commit,s'.learned⟩) ⟨hs.1,aO hl2 (by omega),hs.2.2⟩ _,fun _=>⟨by show (x.servers.set _ _).length=5; rw[aZ]; exact vc.len,hid⟩⟩)))
 have h18:Tt (fun y=>Kp x y.1/\(y.2.1=0->y.1.servers.length=5/\0<=id/\id<5)) j18:=by unfold j18;refine .bind (GA s.log (eS s2.2.1)) fun m hm=> .bind (J9 m.1 o (by omega) (by omega)) fun z _=> ?_;rw[ef];refine .br (fun _=> .bind (Q:=T1) (by unfold lF; exact .ret trivial) fun w _=> ?_) fun _=>good 11;exact .br (fun _=> .bind (Ss x ok id) fun _ _=> .br (fun _=>good 6) fun _=> .br (fun _=>good 5) fun _=>h17) fun _=> .br (fun _=>good 5) fun _=>h17
 refine .br (fun h=> .ip (of_decide_eq_true h) (.get ?_ fun e _ _=> ?_)) fun _=> .br (fun _=>good 0) fun _=>h18
 ·have h:=of_decide_eq_true h;omega
 ·rw[ef];exact .br (fun _=> .br (fun _=>good 0) fun _=>h18) fun _=>good 11
theorem TK (x:dX) (ok:ft 1048576 x) (id m:Int):Tt (fun y=>Kp x y.1/\(y.2.1=true->0<=m/\m<5)) (fE x id m):=by
 obtain⟨b,b1,_,b2⟩:=nT x ok id;have bad:Tt (fun y:dX×Bool×Unit=>Kp x y.1/\(y.2.1=true->0<=m/\m<5)) (some (x,false,())):= .ret ⟨.self ok,nofun⟩;unfold fE;rw[(gY x ok).1,ae,b1,ae,ef];refine .br (fun e=> ?_) fun _=>bad;obtain⟨hv,h0,h5,hp⟩:=b2 e;have vc:=gR ok hv;refine .srv ok vc ⟨h0,h5⟩ fun s s1 s2 s3=> .bind (qa _ (eG s2.1)) fun y hy=> ?_;rw[(fm y.1 m (by have:=hy.1; unfold maxLen; omega)).1,ae,ef];refine .br (fun hm=> ?_) fun _=>bad;have hm:=hy.2 m (of_decide_eq_true hm);refine .bind (OA ok vc ⟨h0,h5⟩ hm) fun z _=> ?_;rw[ef];refine .br (fun _=> .srv ok vc ⟨h0,h5⟩ fun t t1 t2 t3=> .srv ok vc ⟨h0,h5⟩ fun u _ u2 _=> ?_) fun _=>bad;obtain⟨n,n1,_⟩:=sZ u.config m (eG u2.1);rw[n1,ae];have five: ∀ (i:Nat) (s:dZ),(x.servers.set i s).length=5:=fun i s=>by rw[aZ]; exact vc.len
 refine .br (fun _=> ?_) fun _=> ?_
 ·rw[Dv t.log t2.2.1 (rX t2 t3).2.2.2.2.2.1,ae];refine .ip (by show 0<=m/\m< (x.servers.length:Int); rw[vc.len]; exact hm) (.at vc.len hm fun w _ hw=> ?_);have hw:=ok.1.2 w hw;refine .get (by rw[five]; omega) fun w' _ hw'=> .ret ⟨.srvs (.self ok) (by rw[aZ,aZ]) fun s hs=> ?_,fun _=>hm⟩;have all:=(uD ok.1 (s:=⟨w.up,w.intact,w.version,w.epoch,w.config,((ja t.log:Nat):Int),w.log,w.commit,w.learned⟩) hw m.toNat)
  have hw':=all.2 w' hw';exact (uD all (s:=⟨w'.up,w'.intact,w'.version,w'.epoch,w'.config,w'.first,t.log.drop (ja t.log),w'.commit,w'.learned⟩) ⟨hw'.1,by show List.length _<=_; rw[bg]; have:=t2.2.1; omega,hw'.2.2⟩ m.toNat).2 s hs
 ·rw[xe t2.2.1,ae];exact .at vc.len hm fun w _ hw=> .ret ⟨(Kp.self ok).set (s:=⟨w.up,w.intact,w.version,w.epoch,w.config,w.first,t.log,w.commit,w.learned⟩) ⟨(ok.1.2 w hw).1,t2.2.1,(ok.1.2 w hw).2.2⟩ _,fun _=>hm⟩
theorem GC {l:List dZ} (h:l.length=5/\ ∀s∈l,fX 1048576 s) {s:dZ} (hs:fX 1048576 s) (i:Nat): (l.set i s).length=5/\ ∀t∈l.set i s,fX 1048576 t:=⟨by rw[aZ]; exact h.1,fun t ht=>(ck ht).elim (h.2 t) fun e=>e ▸ hs⟩
abbrev fz:Int×Unit×Unit×Unit×Int×Int×Int×Int×Int×Unit×Unit:=(0,(),(),(),0,0,0,0,0,(),())
abbrev fc (x:dX):Int×Unit×Unit×Unit×Int×Int×Int×Int×Int×Unit×Unit:=(x.now,(),(),(),x.master.activated,x.masterUp,x.lease.epoch,x.lease.holder,x.lease.ends,(),())
theorem Lf (x:dX) (ok:ft 1048576 x) (id:Int):Tt (fun y=>Kp x y.1) (fQ x id):=by
 obtain⟨b,b1,_,b2⟩:=nT x ok id;unfold fQ;rw[(gY x ok).1,ae,b1,ae,ef];refine .br (fun e=> ?_) fun _=> .ret (.self ok);obtain⟨hv,h0,h5,hp⟩:=b2 e;have vc:=gR ok hv;refine .srv ok vc ⟨h0,h5⟩ fun s s1 s2 s3=> .bind (qa _ (eG s2.1)) fun y hy=> ?_;have hl:y.1.length<=maxLen:=by have:=hy.1; unfold maxLen; omega
 refine .bind (.count (B:=gP) (E:=fun e=> ∃ (c:dX) (a:Bool),Kp x c/\e=((id,(),(),(),a,()),(fz,fc c,()),y.1,c.servers,c.sides,c.master.configs,c.places,())) y.1.length (fun k (b:dX×Bool)=>((id,(),(),(),b.2,(k:Int),()),(fz,fc b.1,()),y.1,b.1.servers,b.1.sides,b.1.master.configs,b.1.places,())) (fun _ b=>Kp x b.1) (fun b hb=> .end (aR _) (.ret ⟨b.1,b.2,hb,rfl⟩)) (fun k b hk hb=> .go (aE.2 hk) (.ip ⟨ax k,aE.2 hk⟩ (.get (tn hk) fun z _ hz=> .bind (TK b.1 hb.1 id z) fun w hw=> .br (fun _=> .ret ⟨(w.1,w.2.1),by rw[ec hl hk],hb.trans hw.1⟩) fun _=> .ret ⟨(w.1,false),by rw[ec hl hk],hb.trans hw.1⟩))) (x,true) (.self ok)) ?_
 rintro _ ⟨c,a,hc,rfl⟩
 refine .bind (.count (B:=fY) (E:=fun e=> ∃ (c:dX) (a:Bool),Kp x c/\e=(((),(),a,()),(fz,fc c,()),c.servers,c.sides,c.master.configs,c.places,())) y.1.length (fun k (b:List dZ)=>((id,(),(),(),a,(k:Int),()),(fz,fc c,()),y.1,b,c.sides,c.master.configs,c.places,())) (fun _ b=>b.length=5/\ ∀s∈b,fX 1048576 s) (fun b hb=> .end (aR _) (.ret ⟨⟨c.now,b,c.sides,c.master,c.masterUp,c.lease,c.places⟩,a,hc.srvs (by rw[hb.1,hc.2,vc.len]) hb.2,rfl⟩)) (fun k b hk hb=> .go (aE.2 hk) (.br (fun _=> .ip ⟨ax k,aE.2 hk⟩ (.get (tn hk) fun z _ hz=> .at hb.1 ⟨h0,h5⟩ fun p _ _=> .at hb.1 (hy.2 z hz) fun q _ hq=> .ret ⟨b.set z.toNat ⟨q.up,q.intact,q.version,q.epoch,q.config,q.first,q.log,((p.log.length:Nat):Int),q.learned⟩,by rw[ec hl hk],GC hb (s:=⟨q.up,q.intact,q.version,q.epoch,q.config,q.first,q.log,((p.log.length:Nat):Int),q.learned⟩) (hb.2 q hq) _⟩)) fun _=> .ret ⟨⟨c.now,b,c.sides,c.master,c.masterUp,c.lease,c.places⟩,a,hc.srvs (by rw[hb.1,hc.2,vc.len]) hb.2,rfl⟩)) c.servers ⟨hc.2.trans vc.len,hc.1.1.2⟩) ?_
 rintro _ ⟨d,a',hd,rfl⟩
 exact .ret hd
theorem QG (x:dX) (ok:ft 1048576 x) (id:Int) (o:Op):Tt (fun y=>Kp x y.1) (rx x id o):=by
 unfold rx;refine .bind (QF x ok id o) fun y hy=> ?_;rw[ef];refine .br (fun e=> ?_) fun _=> .ret hy.1;obtain⟨h5,hid⟩:=hy.2 (eq_of_beq e)
 have same: ∀ {α:Type} {Q:α->Prop} {l:List dZ} {k:dZ->dZ->Option α},l.length=5->(∀s∈l,fX 1048576 s)->(∀s,fX 1048576 s->Tt Q (k s s))->Tt Q (iteP (0<=id/\id< (l.length:Int)) ((l[id.toNat]?).bind fun a=>(l[id.toNat]?).bind fun b=>k a b) none):=fun h5 hs h=> .at h5 hid fun s e1 e2=>by rw[e1,ae];exact h s (hs s e2)
 have MC: ∀s:dZ,(s.log.drop 0).take s.log.length=s.log:=fun s=>by rw[bP,bG]
 refine same h5 hy.1.1.1.2 fun s hs=> .ip (by omega) ?_;rw[MC];refine .bind (Rg _ _ _ (eS hs.2.1)) fun i _=> .at h5 hid fun t _ _=> .br (fun _=> .bind (Lf y.1 hy.1.1 id) fun z hz=> ?_) fun _=>same h5 hy.1.1.1.2 fun s hs=> .ip (by omega) ?_
 ·rw[ef];refine .br (fun _=>same (hz.2.trans h5) hz.1.1.2 fun s hs=> .ip (by omega) ?_) fun _=> .ret (hy.1.trans hz);rw[MC];exact .bind (Le _ _ (eS hs.2.1)) fun _ _=> .ret (hy.1.trans hz)
 ·rw[MC];exact .bind (Le _ _ (eS hs.2.1)) fun _ _=> .ret hy.1
end Go.Proofs.YtadabkgmdllbfabGreat.En
namespace Go.Proofs.YtadabkgmdllbfabGreat.En
open Go
theorem qo (x:dX) (ok:ft 1048576 x):Tt (fun y=>y.1=true->VC x) (eb x):=by obtain⟨v,v1,_⟩:=hU x ok;exact⟨(v,()),v1,fun e=>gR ok (by rw[v1,show v=true from e])⟩
theorem Lg (x:dX) (ok:ft 1048576 x) (e:Int): ∃c b,jA x.master e=some (c,b,())/\iu maxLen c/\(VC x->c.replicas.length<=5/\c.witnesses.length<=5/\(∀z∈c.replicas,0<=z/\z<5)/\(∀z∈c.witnesses,0<=z/\z<5)/\(b=true->eA c=some (true,())/\0<=c.primary/\c.primary<5)/\sa c.replicas):=by
 obtain⟨c,b,h1,_,h2⟩:=vY x.master e ok.2.2.1;refine⟨c,b,h1,h2,fun vc=> ?_⟩;obtain⟨c',b',g1,_,g2,_,g3,g4⟩:=vZ x.master e ok.2.2.1 vc.ml;rw[h1] at g1;obtain⟨rfl,rfl⟩:c=c'/\b=b':=by simpa using g1
 cases b with
 |false=>rw[g4 rfl];exact⟨aA _,aA _,nofun,nofun,nofun,fun k hk=>by simp at hk⟩
 |true=>obtain⟨a1,a2,a3,_⟩:=oY g2 (g3 rfl).1;exact⟨a1.len,a2.len,o0 a1,o0 a2,fun _=>⟨(g3 rfl).1,o0 a1 _ a3⟩,a1⟩
theorem Kb (x:dX) (ok:ft 1048576 x): ∃c b,eM x.master=some (c,b,())/\iu maxLen c/\(VC x->c.replicas.length<=5/\c.witnesses.length<=5/\(∀z∈c.replicas,0<=z/\z<5)/\(∀z∈c.witnesses,0<=z/\z<5)/\(b=true->eA c=some (true,())/\0<=c.primary/\c.primary<5)/\sa c.replicas):=by obtain⟨c,b,h1,h2⟩:=Lg x ok x.master.activated;exact⟨c,b,by unfold eM; rw[h1]; rfl,h2⟩
theorem IK (s:dZ) (e:Int) (h:fX 1048576 s):Tt (fun y=>fX 1048576 y.1) (hO s e):=by unfold hO;rw[(sF s h).1,ae,gF,ae,ef];exact .br (fun _=> .br (fun _=> .ret h) fun _=> .br (fun _=> .ret h) fun _=> .ret h) fun _=> .ret h
theorem TL (x:dX) (ok:ft 1048576 x) (id e:Int):Tt (fun y=>Kp x y.1) (fI x id e):=by
 obtain⟨c,b,c1,c2,c3⟩:=Kb x ok;unfold fI;rw[(gY x ok).1,ae,c1,ae];refine .bind (qo x ok) fun v hv=> ?_;rw[ef];refine .br (fun h=> ?_) fun _=> .ret (.self ok);have vc:=hv h;rw[ef];refine .br (fun _=> ?_) fun _=> .ret (.self ok);rw[gF,ae,ef];refine .br (fun _=> .bind (qa c c2) fun m hm=> ?_) fun _=> .ret (.self ok);have hl:m.1.length<=maxLen:=by have:=hm.1; unfold maxLen; omega
 refine .bind (.count (B:=fR) (E:=fun e=> ∃S:List dZ,(S.length=5/\ ∀s∈S,fX 1048576 s)/\e=(((),(),()),(fz,fc x,()),S,x.sides,x.master.configs,x.places,())) m.1.length (fun k (S:List dZ)=>((id,e,(),(),(),(),(k:Int),()),(fx x,fz,fc x,()),m.1,S,x.sides,x.master.configs,x.places,())) (fun _ S=>S.length=5/\ ∀s∈S,fX 1048576 s) (fun S hS=> .end (aR _) (.ret ⟨S,hS,rfl⟩)) (fun k S hk hS=> .go (aE.2 hk) (.ip ⟨ax k,aE.2 hk⟩ (.get (tn hk) fun z hz' hz=> .srv ok vc (hm.2 z hz) fun s _ _ _=> .br (fun _=> .ip ⟨ax k,aE.2 hk⟩ (.get (tn hk) fun z2 _ hz2=> .bind (AO ok vc id z2) fun _ _=> .br (fun _=> .ip ⟨ax k,aE.2 hk⟩ (.get (tn hk) fun z3 _ hz3=> .ip ⟨ax k,aE.2 hk⟩ (.get (tn hk) fun z4 _ hz4=> .srv ok vc (hm.2 z4 hz4) fun t _ t2 _=> .bind (IK t e t2) fun u hu=> .at hS.1 (hm.2 z3 hz3) fun _ _ _=> .ret ⟨S.set z3.toNat u.1,by rw[ec hl hk],GC hS hu _⟩))) fun _=> .ret ⟨S,by rw[ec hl hk],hS⟩)) fun _=> .ret ⟨S,by rw[ec hl hk],hS⟩))) x.servers ⟨vc.len,ok.1.2⟩) ?_
 rintro _ ⟨S,hS,rfl⟩
 exact .ret ((Kp.self ok).srvs (by rw[hS.1,vc.len]) hS.2)
section
variable {x:dX} (ok:ft 1048576 x) (vc:VC x) (id:Int)
include ok vc
theorem OF:Tt (fun y=>y.1.length<=5/\ ∀z∈y.1,0<=z/\z<5) (ox x id):=by
 obtain⟨c,d,c1,c2,c3⟩:=Kb x ok;obtain⟨r5,_,inr,_⟩:=c3 vc;have rm:c.replicas.length<=maxLen:=by unfold maxLen; omega
 unfold ox;rw[c1,ae];refine .bind (.count (B:=ow) (E:=fun e=>e.2.2.1.length<=5/\ ∀z∈e.2.2.1,0<=z/\z<5) c.replicas.length (fun k (b:List Int)=>((id,(),(),(),d,(k:Int),()),(fx x,(c.epoch,c.primary,(),(),()),()),b,c.replicas,c.witnesses,())) (fun k b=>b.length<=k/\ ∀z∈b,0<=z/\z<5) (fun b hb=> .end (aR _) (.ret ⟨aO hb.1 r5,hb.2⟩)) (fun k b hk hb=> ?_) [] ⟨aq _,nofun⟩) fun y hy=> .ret hy;have ex:b.length<=5/\ ∀z∈b,0<=z/\z<5:=⟨by omega,hb.2⟩
 have st:b.length<=k+1/\ ∀z∈b,0<=z/\z<5:=⟨by omega,hb.2⟩
 refine .go (aE.2 hk) (.br (fun _=> .bind (qo x ok) fun _ _=> .br (fun _=> ?_) fun _=> .ret ex) fun _=> .ret ex);rw[gF,ae];refine .br (fun _=> .ip ⟨ax k,aE.2 hk⟩ (.get (tn hk) fun z _ hz=> .srv ok vc (inr z hz) fun s _ _ _=> .br (fun _=> .br (fun _=> .ip ⟨ax k,aE.2 hk⟩ (.get (tn hk) fun z2 _ hz2=> .bind (AO ok vc id z2) fun _ _=> .br (fun _=> .ip ⟨ax k,aE.2 hk⟩ (.get (tn hk) fun z3 _ hz3=> .ip ?_ (.ret ⟨b++ [z3],by rw[ec rm hk],?_⟩))) fun _=> .ret ⟨b,by rw[ec rm hk],st⟩)) fun _=> .ret ⟨b,by rw[ec rm hk],st⟩) fun _=> .ret ⟨b,by rw[ec rm hk],st⟩)) fun _=> .ret ex
 ·show (b++ [z3]).length*8<=2 ^ 40;rw[az,aB];omega
 ·exact⟨by rw[az,aB]; omega,fun y hy=>(aY.1 hy).elim (hb.2 y) fun h=>by rw[aD.1 h]; exact inr z3 hz3⟩
theorem TM:Tt (fun y=>y.1= -1\/0<=y.1/\y.1<5) (oz x id):=by
 unfold oz;refine .bind (OF ok vc id) fun l hl=> ?_;have lm:l.1.length<=maxLen:=by have:=hl.1; unfold maxLen; omega
 refine .bind (.count (B:=oy) (E:=fun e=>e.1.1= -1\/0<=e.1.1/\e.1.1<5) l.1.length (fun k (b:Int)=>(((),b,(),(k:Int),()),(fx x,()),l.1,())) (fun _ b=>b= -1\/0<=b/\b<5) (fun b hb=> .end (aR _) (.ret hb)) (fun k b hk hb=> ?_) (-1) (.inl rfl)) fun y hy=> .ret hy;refine .go (aE.2 hk) (.br (fun _=> .ip ⟨ax k,aE.2 hk⟩ (.get (tn hk) fun z _ hz=> .ret ⟨z,by rw[ec lm hk], .inr (hl.2 z hz)⟩)) fun hn=> .ip ⟨ax k,aE.2 hk⟩ (.get (tn hk) fun z _ hz=> .srv ok vc (hl.2 z hz) fun s _ _ _=> .srv ok vc (a:=b) ?_ fun t _ _ _=> .br (fun _=> .ip ⟨ax k,aE.2 hk⟩ (.get (tn hk) fun z2 _ hz2=> .ret ⟨z2,by rw[ec lm hk], .inr (hl.2 z2 hz2)⟩)) fun _=> .ret ⟨b,by rw[ec lm hk],hb⟩));have hn: ¬b<0:=of_decide_eq_false hn;omega
omit ok vc in
theorem Mu (f:Int) (l:List ek) (hl:l.length<=maxLen):Tt (fun y=>y.1=true->0<=f/\l.length<=3) (tL f l):=by obtain⟨b,b1,b2⟩:=v5 hl;unfold tL;rw[b1,ae];refine .br (fun _=> .br (fun h=> ?_) fun _=> .ret nofun) fun _=> .ret nofun;have h: (l.length:Int)<=3:=of_decide_eq_true h;rw[gF,ae];refine .br (fun w=> ?_) fun _=> .ret nofun;have w:=eL.1 w;exact .br (fun _=> .ret fun _=>⟨w.1,by omega⟩) fun _=> .ret fun _=>⟨w.1,by omega⟩
omit ok vc in
theorem TN (a:List ek) (f:Int) (t:List ek) (ha:a.length<=1048576) (ht:t.length<=1048576):Tt (fun y=>y.1.length<=19) (rF a f t):=by
 obtain⟨b,b1,b2⟩:=v5 (eS ha);unfold rF;rw[b1,ae,ef];refine .br (fun e=> ?_) fun _=> .ret (aA _);have h16:=b2 e;refine .bind (Mu f t (eS ht)) fun g hg=> ?_;rw[ef];refine .br (fun e=> ?_) fun _=> .ret (aA _);obtain⟨f0,t3⟩:=hg e;refine .br (fun _=> .ret (aA _)) fun hn=> ?_;have hn: ¬f>(a.length:Int):=of_decide_eq_false hn;obtain⟨n,n1,n2,n3,_⟩:=Gy ((a.drop f.toNat).take ((a.length:Int).toNat-f.toNat)) t (aO (by rw[bf,bg]; omega) (eS ha));refine .ip (by omega) ?_;rw[n1,ae,ff (n:=(a.length:Int)-f) (by omega) (by omega)];refine .br (fun _=> .ret (aA _)) fun _=> ?_;rw[xe ha,ae]
 have hl: (a++((t.drop (n:Int).toNat).take ((t.length:Int).toNat-(n:Int).toNat))).length<=19:=by rw[az,bf,bg];omega
 refine .ip (by omega) (.ip (aO (bo 56 hl) (by omega)) ?_);obtain⟨d,d1,_⟩:=v5 (l:=a++((t.drop (n:Int).toNat).take ((t.length:Int).toNat-(n:Int).toNat))) (by unfold maxLen; omega);rw[show ig _=_ from d1,ae,ef];exact .br (fun _=> .ret hl) fun _=> .ret (aA _)
omit ok vc in
theorem TO (s:dZ) (id:Int) (h:fX 1048576 s) (hf:0<=s.first/\s.first<=16/\s.log.length<=16):Tt (fun y=>y.1.length<=1048576) (tK s id):=by obtain⟨n,n1,_⟩:=sZ s.config id (eG h.1);unfold tK;rw[n1,ae,xe h.2.2,ae];have gO:Tt (fun y:List ek×Unit=>y.1.length<=1048576) ((ga s).bind fun y3=>br (decide ((y3.1.length:Int)>(s.learned.length:Int))) (some (y3.1,())) (some (s.learned,()))):= .bind (x0 s h hf) fun y hy=> .br (fun _=> .ret (by show y.1.length<=_; omega)) fun _=> .ret h.2.2;exact .br (fun _=>gO) fun _=> .br (fun _=>gO) fun _=> .ret h.2.2
theorem Su {c:ed} {w:dZ} (hw:fX 1048576 w) (j:Int) (d:Bool) (b:List ek×Bool) (hb:b.1.length<=19):Tt (fun e=> ∃r:List ek×Bool,r.1.length<=19/\e=((id,(),(),r.2,(),d,j,()),(fx x,(c.epoch,c.primary,(),(),()),()),r.1,c.replicas,c.witnesses,())) (uT ((id,(),(),b.2,(),d,j,(),0,()),(fx x,(c.epoch,c.primary,(),(),()),Uy w,()),b.1,c.replicas,c.witnesses,())):=by
 refine .count (B:=nf) (E:=fun e=> ∃r:List ek×Bool,r.1.length<=19/\e=((id,(),(),r.2,(),d,j,()),(fx x,(c.epoch,c.primary,(),(),()),()),r.1,c.replicas,c.witnesses,())) 5 (fun k (b:List ek×Bool)=>((id,(),(),b.2,(),d,j,(),(k:Int),()),(fx x,(c.epoch,c.primary,(),(),()),Uy w,()),b.1,c.replicas,c.witnesses,())) (fun _ b=>b.1.length<=19) (fun b hb=> .end (aR _) (.ret ⟨b,hb,rfl⟩)) (fun k b hk hb=> ?_) b hb;have hkk:0<=(k:Int)/\(k:Int)<5:=⟨ax k,aE.2 hk⟩
 have sw:=ec (n:=5) (by decide) hk;refine .go hkk.2 (.srv ok vc hkk fun s _ _ _=> ?_);dsimp only;rw[sw,ef];refine .br (fun _=> .bind (AO ok vc id k) fun y _=> ?_) fun _=> .ret ⟨b,rfl,hb⟩;rw[ef];refine .br (fun _=> .srv ok vc hkk fun t _ t2 t3=> .bind (TO t k t2 (GB t2 t3)) fun y hy=> .bind (TN y.1 w.first w.log hy hw.2.1) fun z hz=> .br (fun _=> ?_) fun _=> .ret ⟨b,rfl,hb⟩) fun _=> .ret ⟨b,rfl,hb⟩;rw[ef];exact .br (fun _=> .br (fun _=> .ret ⟨(z.1,true),rfl,hz⟩) fun _=> .ret ⟨b,rfl,hb⟩) fun _=> .ret ⟨(z.1,true),rfl,hz⟩
theorem OG:Tt (fun y=>y.1.length<=19) (oB x id):=by
 obtain⟨c,d,c1,c2,c3⟩:=Kb x ok;obtain⟨_,r5,_,inw,_⟩:=c3 vc;have rm:c.witnesses.length<=maxLen:=by unfold maxLen; omega
 unfold oB;rw[c1,ae];refine .bind (.count (B:=oA) (E:=fun e=>e.2.2.1.length<=19) c.witnesses.length (fun k (b:List ek×Bool)=>((id,(),(),b.2,(),d,(k:Int),()),(fx x,(c.epoch,c.primary,(),(),()),()),b.1,c.replicas,c.witnesses,())) (fun _ b=>b.1.length<=19) (fun b hb=> .end (aR _) (.ret hb)) (fun k b hk hb=> ?_) ([],false) (aA _)) fun y hy=> .ret hy;refine .go (aE.2 hk) (.br (fun _=> .bind (qo x ok) fun _ _=> .br (fun _=> ?_) fun _=> .ret hb) fun _=> .ret hb);rw[gF,ae];refine .br (fun _=> .ip ⟨ax k,aE.2 hk⟩ (.get (tn hk) fun z _ hz=> .srv ok vc (inw z hz) fun s _ s2 _=> ?_)) fun _=> .ret hb;have sw:=ec rm hk;rw[ef];refine .br (fun _=> ?_) fun _=> .ret ⟨b,by rw[sw],hb⟩;rw[ef];refine .br (fun _=> .ip ⟨ax k,aE.2 hk⟩ (.get (tn hk) fun z2 _ _=> .bind (AO ok vc id z2) fun y _=> ?_)) fun _=> .ret ⟨b,by rw[sw],hb⟩;rw[ef];refine .br (fun _=> .bind (Su ok vc id (c:=c) s2 k d b hb) ?_) fun _=> .ret ⟨b,by rw[sw],hb⟩
 rintro _ ⟨r,hr,rfl⟩
 exact .ret ⟨r,by rw[<-sw],hr⟩
theorem QH:Tt (fun y=>y.1.length<=1048576) (pS x id):=by unfold pS;refine .bind (qo x ok) fun v _=> ?_;rw[ef];refine .br (fun _=> ?_) fun _=> .ret (aA _);rw[gF,ae,ef];refine .br (fun _=> .br (fun _=> .ret (aA _)) fun _=> .bind (TM ok vc id) fun n hn=> .br (fun h=> ?_) fun _=> .bind (OG ok vc id) fun y hy=> .ret (by show y.1.length<=_; omega)) fun _=> .ret (aA _);have h:n.1≥0:=of_decide_eq_true h;refine .srv ok vc (by omega) fun s _ s2 _=> ?_;rw[xe s2.2.1];exact .ret s2.2.1
end
theorem Bu (l:List ek) (hl:l.length<=maxLen):Tt T1 (jB l):=by unfold jB;refine .bind (.count (B:=mA) (E:=fun _=>True) l.length (fun k (_:Unit)=>((l,(k:Int),()),(),())) (fun _ _=>True) (fun _ _=> .end (aR _) (.ret trivial)) (fun k _ hk _=> .go (aE.2 hk) (.ip (ax k) (.get (tn hk) fun e _ _=> .bind (Q:=T1) (by unfold lF; exact .ret trivial) fun _ _=> .br (fun _=> .ret trivial) fun _=> .ret ⟨(),by rw[ec hl hk],trivial⟩))) () trivial) fun y _=> ?_;cases y<;>exact .ret trivial
theorem IL (s:dZ) (c:ed) (id:Int) (l:List ek) (hs:fX 1048576 s) (hc:iu 1048576 c) (hl:l.length<=1048576):Tt (fun y=>fX 1048576 y.1) (jN s c id l):=by
 obtain⟨n,n1,_⟩:=sZ c id (eG hc);obtain⟨b,b1,_⟩:=v5 (eS hl);obtain⟨e,e1,_⟩:=tY l (eS hl);unfold jN;simp only[n1,b1,e1,(sF s hs).1,(wC c hc).1,xe hl,gF,ae,ef,J5 l hl];have hk:ja l<=l.length:=Nat.sub_le _ _
 have hl2: ((l.drop (ja l)).take ((l.length:Int).toNat-ja l)).length<=1048576:=by rw[bf,bg];omega
 refine .br (fun _=> .ret hs) fun _=> .br (fun _=> .br (fun _=> .br (fun _=> .br (fun _=> .ret hs) fun _=> .br (fun _=> .bind (Bu l (eS hl)) fun _ _=> .br (fun _=> .ret hs) fun _=> ?_) fun _=> ?_) fun _=> .ret hs) fun _=> .ret hs) fun _=> .ret hs
 all_goals
  exact .br (fun _=> .ip (by omega) (.bind (Q:=fun y=>y.1.length<=1048576) ⟨_,xe hl2,hl2⟩ fun y hy=> .ret ⟨hc,hy,aA _⟩)) fun _=> .ret ⟨hc,hl,aA _⟩
theorem Dw (m:eh) (h:sb 1048576 m) (e:Int):Tt (fun y=>sb 1048576 y.1/\y.1.configs.length=m.configs.length) (jr m e):=by obtain⟨b,b1,_⟩:=masterLog m (kL h);unfold jr;rw[(Gr m h).1,ae,b1,ae,ef];refine .br (fun _=> ?_) fun _=> .ret ⟨h,rfl⟩;rw[ef];exact .br (fun _=> .br (fun _=> .ret ⟨h,rfl⟩) fun _=> .ret ⟨h,rfl⟩) fun _=> .ret ⟨h,rfl⟩
theorem Aa (x:dX) (ok:ft 1048576 x):Tt (fun y=>Kp x y.1) (nw x):=by
 obtain⟨c,b,c1,c2,c3⟩:=Lg x ok (x.master.configs.length:Int);unfold nw qI;rw[(gY x ok).1,ae,c1,ae,ae];refine .bind (qo x ok) fun v hv=> ?_;rw[ef];refine .br (fun h=> ?_) fun _=> .ret (.self ok);have vc:=hv h;rw[ef];refine .br (fun hb=> .br (fun _=> .ret (.self ok)) fun _=> .br (fun _=> .ret (.self ok)) fun _=> ?_) fun _=> .ret (.self ok);obtain⟨r5,w5,_,_,hp,_⟩:=c3 vc;have hp:=(hp hb).2;have hc:iu 1048576 c:=⟨by omega,by omega⟩
 have s5:=p9 (eS ok.2.1) vc.sides;refine .srv ok vc hp fun s _ _ _=> ?_;rw[ef];refine .br (fun _=> .ip hp.1 (.get (by show c.primary.toNat<x.sides.length; omega) fun sd _ _=> ?_)) fun _=> .ret (.self ok);rw[ef];refine .br (fun _=> ?_) fun _=> .ret (.self ok);obtain⟨o,o1,_⟩:=AN x.lease x.now;rw[o1,ae,ef];refine .br (fun _=> .bind (TL x ok c.primary c.epoch) fun y hy=> .bind (QH ok vc c.primary) fun l hl=> ?_) fun _=> .ret (.self ok);rw[ef];refine .br (fun _=> .bind (qa c c2) fun m hm=> ?_) fun _=> .ret hy;have ml:m.1.length<=maxLen:=by have:=hm.1; unfold maxLen; omega
 have hyS:y.1.servers.length=5/\ ∀s∈y.1.servers,fX 1048576 s:=⟨hy.2.trans vc.len,hy.1.1.2⟩
 refine .bind (.count (B:=pA) (E:=Sum.elim (fun e=> ∃n:Int,e=(((),(),n,(),(),(),(),()),(fx x,fc y.1,(fc y.1,(c.epoch,c.primary,(),(),()),())),l.1,m.1,y.1.servers,y.1.sides,y.1.master.configs,y.1.places,c.replicas,c.witnesses,())) fun e=>e.2=((fx x,fz,fc y.1,(c.epoch,c.primary,(),(),()),()),l.1,m.1,y.1.servers,y.1.sides,y.1.master.configs,y.1.places,c.replicas,c.witnesses,())) m.1.length (fun k (_:Unit)=>(((),(),(),(),(),(),(k:Int),()),(fx x,fz,fc y.1,(c.epoch,c.primary,(),(),()),()),l.1,m.1,y.1.servers,y.1.sides,y.1.master.configs,y.1.places,c.replicas,c.witnesses,())) (fun _ _=>True) (fun _ _=> .end (aR _) (.ret rfl)) (fun k _ hk _=> ?_) () trivial) fun e he=> ?_
 ·refine .go (aE.2 hk) (.ip ⟨ax k,aE.2 hk⟩ (.get (tn hk) fun z _ hz=> .srv ok vc (hm.2 z hz) fun s _ _ _=> ?_));rw[ef];refine .br (fun _=> .ip ⟨ax k,aE.2 hk⟩ (.get (tn hk) fun z2 _ hz2=> .ip (hm.2 z2 hz2).1 (.get (by have:=hm.2 z2 hz2; show z2.toNat<x.sides.length; omega) fun w _ _=> ?_))) fun _=> .ret ⟨_,rfl⟩;rw[ef];exact .br (fun _=> .ret ⟨(),by rw[ec ml hk],trivial⟩) fun _=> .ret ⟨_,rfl⟩
 cases e with
 |inl e=>obtain⟨n,rfl⟩:=he;exact .ret hy
 |inr e=>
  show Tt _ ((w6 (((),(),(),(),(),(),0,()),e.2)).bind _);rw[show e.2=_ from he];refine .bind (.count (B:=pB) (E:=Sum.elim (fun e=> ∃n:Int,e=(((),(),n,(),(),(),(),()),(fx x,fc y.1,(fc y.1,(c.epoch,c.primary,(),(),()),())),l.1,m.1,y.1.servers,y.1.sides,y.1.master.configs,y.1.places,c.replicas,c.witnesses,())) fun e=>e.2=((fx x,fz,fc y.1,(c.epoch,c.primary,(),(),()),()),l.1,m.1,y.1.servers,y.1.sides,y.1.master.configs,y.1.places,c.replicas,c.witnesses,())) m.1.length (fun k (_:Unit)=>(((),(),(),(),(),(),(k:Int),()),(fx x,fz,fc y.1,(c.epoch,c.primary,(),(),()),()),l.1,m.1,y.1.servers,y.1.sides,y.1.master.configs,y.1.places,c.replicas,c.witnesses,())) (fun _ _=>True) (fun _ _=> .end (aR _) (.ret rfl)) (fun k _ hk _=> .go (aE.2 hk) (.ip ⟨ax k,aE.2 hk⟩ (.get (tn hk) fun z _ hz=> .srv ok vc (hm.2 z hz) fun s _ _ _=> .br (fun _=> .bind (Bu l.1 (eS hl)) fun _ _=> .br (fun _=> .ret ⟨_,rfl⟩) fun _=> .ret ⟨(),by rw[ec ml hk],trivial⟩) fun _=> .ret ⟨(),by rw[ec ml hk],trivial⟩))) () trivial) fun e he=> ?_;cases e with
  |inl e=>obtain⟨n,rfl⟩:=he;exact .ret hy
  |inr e=>
   show Tt _ ((w8 (((),(),(),(),(),(),0,()),e.2)).bind _);rw[show e.2=_ from he];refine .bind (.count (B:=pC) (E:=fun e=> ∃S:List dZ,(S.length=5/\ ∀s∈S,fX 1048576 s)/\e=(((),(),(),(),()),(fx x,fz,fc y.1,(c.epoch,c.primary,(),(),()),()),S,y.1.sides,y.1.master.configs,y.1.places,c.replicas,c.witnesses,())) m.1.length (fun k (S:List dZ)=>(((),(),(),(),(),(),(k:Int),()),(fx x,fz,fc y.1,(c.epoch,c.primary,(),(),()),()),l.1,m.1,S,y.1.sides,y.1.master.configs,y.1.places,c.replicas,c.witnesses,())) (fun _ S=>S.length=5/\ ∀s∈S,fX 1048576 s) (fun S hS=> .end (aR _) (.ret ⟨S,hS,rfl⟩)) (fun k S hk hS=> ?_) y.1.servers hyS) ?_
   ·refine .go (aE.2 hk) (.ip ⟨ax k,aE.2 hk⟩ (.get (tn hk) fun z _ hz=> .ip ⟨ax k,aE.2 hk⟩ (.get (tn hk) fun z2 _ hz2=> .at hS.1 (hm.2 z2 hz2) fun s e' hs=> .ip ⟨ax k,aE.2 hk⟩ (.get (tn hk) fun z3 _ _=> ?_))));dsimp only;simp only[e',ae,bP,bG,aQ];refine .ip (aq _) (.ip (aq _) (.ip (aq _) (.ip (aq _) (.bind (IL s c z3 l.1 (hS.2 s hs) hc hl) fun u hu=> .at hS.1 (hm.2 z hz) fun _ _ _=> .ret ⟨S.set z.toNat u.1,by rw[ec ml hk],GC hS hu _⟩))))
   ·rintro _ ⟨S,hS,rfl⟩
    refine .bind (Dw x.master ok.2.2.1 c.epoch) fun w hw=> .ret ?_;exact⟨⟨⟨by show S.length<=_; rw[hS.1]; decide,hS.2⟩,hy.1.2.1,hw.1,hy.1.2.2.2⟩,by show S.length=_; rw[hS.1,vc.len]⟩
end Go.Proofs.YtadabkgmdllbfabGreat.En
