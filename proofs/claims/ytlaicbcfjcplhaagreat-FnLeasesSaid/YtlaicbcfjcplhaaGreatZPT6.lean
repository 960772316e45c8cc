/- Plain laws. -/
import Derived.Test.YtlaicbcfjcplhaaGreatZB
namespace Go.Proofs.YtlaicbcfjcplhaaGreat.En
open Go
def fE [dQ] (c:fV):Prop:= ∃l,nH c.b=some l/\l.length<=maxLen/\(∀m∈l,0<=m/\m<=255)/\0<=c.i/\c.i<=c.b.n
def Dn [dQ] {α:Type} (Q:α->Prop) (r:Option (List fV×α)):Prop:= ∃c a,r=some ([c],a)/\fE c/\Q a
section
variable [dQ] {α β:Type} {Q:α->Prop} {Q':β->Prop}
theorem Dn.ret {c:fV} {a:α} (hc:fE c) (h:Q a):Dn Q (some ([c],a)):=⟨c,a,rfl,hc,h⟩
theorem Dn.bind {r:Option (List fV×α)} {k:List fV×α->Option (List fV×β)} (h:Dn Q r) (hk: ∀c a,fE c->Q a->Dn Q' (k ([c],a))):Dn Q' (r.bind k):=by obtain⟨c,a,rfl,h1,h2⟩:=h;exact hk c a h1 h2
theorem Dn.mono {Q2:α->Prop} {r:Option (List fV×α)} (h:Dn Q r) (hq: ∀a,Q a->Q2 a):Dn Q2 r:=by obtain⟨c,a,h1,h2,h3⟩:=h;exact⟨c,a,h1,h2,hq a h3⟩
theorem Dn.iteP {p:Prop} [Decidable p] {x y:Option (List fV×α)} (hp:p) (h:Dn Q x):Dn Q (iteP p x y):=by rw[hU hp];exact h
theorem Dn.br {b:Bool} {x y:Option (List fV×α)} (h1:b=true->Dn Q x) (h2:b=false->Dn Q y):Dn Q (br b x y):=by
 cases b with
 |true=>exact h1 rfl
 |false=>exact h2 rfl
theorem Dn.get {γ:Type} {l:List γ} {i:Nat} {k:γ->Option (List fV×α)} (hi:i<l.length) (h: ∀x∈l,Dn Q (k x)):Dn Q ((l[i]?).bind k):=by rw[ah hi];exact h _ (bu hi)
end
theorem Hv (x:Int):0<=bits .and .i64 x 255/\bits .and .i64 x 255<=255:=by
 have h: (BitVec.ofInt 64 x&&& BitVec.ofInt 64 255).toNat<=255:=by rw[BitVec.toNat_and];exact Nat.and_le_right
 show 0<=IntKind.wrap .i64 _/\IntKind.wrap .i64 _<=255;have e:IntKind.wrap .i64 ((BitVec.ofInt 64 x&&& BitVec.ofInt 64 255).toNat:Int)=((BitVec.ofInt 64 x&&& BitVec.ofInt 64 255).toNat:Int):=eL (by omega) (by omega);have e2:bits .and .i64 x 255=IntKind.wrap .i64 ((BitVec.ofInt 64 x&&& BitVec.ofInt 64 255).toNat:Int):=rfl;rw[<-e2] at e;constructor
 ·show 0<=bits .and .i64 x 255;omega
 ·show bits .and .i64 x 255<=255;omega
theorem Kh {x n:Int} (hx:0<=x) (hn:0<n):0<=x.tmod n/\x.tmod n<n:=⟨Int.tmod_nonneg _ hx,Int.tmod_lt_of_pos _ hn⟩
section
variable [dQ]
theorem Nq {x:Hd} {l:List Int} (h:nH x=some l) (hl:l.length<=maxLen) (hb: ∀m∈l,0<=m/\m<=255):Dn (fun _:Unit=>True) (AD x):=by unfold AD EY;rw[h];exact⟨_,(),rfl,⟨l,h,hl,hb,bO _,au _⟩,trivial⟩
theorem xZ {c:fV} (h:fE c):Dn (fun y:Int×Unit=>0<=y.1/\y.1<=255) (sk [c]):=by
 obtain⟨l,h1,h2,h3,h4,h5⟩:=h;show Dn _ ((vu c).map fun y=>([y.1],y.2,()));unfold vu;have hlen:=(wH h1).1;by_cases hi:c.i< (c.b.n:Int)
 ·rw[if_pos hi,if_pos h4,h1,ae,ah (by omega)];refine⟨_,_,rfl,⟨l,h1,h2,h3,?_,?_⟩,Hv _⟩
  ·show 0<=RowKit.wrap64 (c.i+1);unfold RowKit.wrap64;simp only[maxLen] at h2;omega
  ·show RowKit.wrap64 (c.i+1)<=c.b.n;unfold RowKit.wrap64;simp only[maxLen] at h2;omega
 ·rw[if_neg hi];exact⟨_,_,rfl,⟨l,h1,h2,h3,h4,h5⟩,Hv _⟩
theorem gi {c:fV} (h:fE c) (n:Int):Dn (fun y:Int×Unit=>0<=y.1/\(y.1<n\/n<=0/\y.1=0)) (ed [c] n):=by
 unfold ed;refine .br (fun hn=> .ret h ⟨bO _, .inr ⟨of_decide_eq_true hn,rfl⟩⟩) fun hn=> ?_;have hn:=of_decide_eq_false hn;refine .br (fun _=> .bind (xZ h) fun c1 y h1 hy=> .iteP rfl ?_) fun _=> .bind (xZ h) fun c1 y h1 hy=> .iteP rfl (.bind (xZ h1) fun c2 y2 h2 hy2=> .iteP rfl (.bind (xZ h2) fun c3 y3 h3 hy3=> .iteP rfl (.bind (xZ h3) fun c4 y4 h4 hy4=> .iteP rfl ?_)))
 ·rw[G1 (by omega)];have:=Kh hy.1 (show 0<n by omega);exact .ret h1 ⟨this.1, .inl this.2⟩
 ·rw[G1 (by omega)];simp only;rw[eL (n:=y.1*16777216) (by omega) (by omega),eL (n:=y2.1*65536) (by omega) (by omega),eL (n:=y3.1*256) (by omega) (by omega),eL (n:=y.1*16777216+y2.1*65536) (by omega) (by omega),eL (n:=y.1*16777216+y2.1*65536+y3.1*256) (by omega) (by omega),eL (n:=y.1*16777216+y2.1*65536+y3.1*256+y4.1) (by omega) (by omega)];have:=Kh (show 0<=y.1*16777216+y2.1*65536+y3.1*256+y4.1 by omega) (show 0<n by omega);exact .ret h4 ⟨this.1, .inl this.2⟩
theorem l7 {c:fV} (h:fE c) {n:Int} (hn:0<n):Dn (fun y:Int×Unit=>0<=y.1/\y.1<n) (ed [c] n):=(gi h n).mono fun y hy=>⟨hy.1,by omega⟩
theorem jJ {c:fV} (h:fE c) (n:Int):Dn (fun _:Bool×Unit=>True) (gg [c] n):=by unfold gg;exact .bind (gi h n) fun c1 y h1 hy=> .iteP rfl (.ret h1 trivial)
theorem gC {c:fV} (h:fE c) {l:List Int} (hl:l≠ []):Dn (fun y:Int×Unit=>y.1∈l) (eu [c] l):=by unfold eu;have h0:0<l.length:=List.length_pos_iff.2 hl;refine .bind (l7 h (show 0< (l.length:Int) by omega)) fun c1 y h1 hy=> .iteP rfl (.iteP hy.1 (.get (by show y.1.toNat<l.length; have:=hy.1; have:=hy.2; omega) fun x hx=> .ret h1 hx))
theorem Hw {c:fV} (h:fE c):Dn (fun _:Op×Unit=>True) (rM [c]):=by
 unfold rM
 repeat first |exact .ret (by assumption) trivial|refine .iteP rfl ?_|refine .br (fun _=> ?_) fun _=> ?_|refine .bind (gi (by assumption) _) fun _ _ _ _=> ?_|refine .bind (jJ (by assumption) _) fun _ _ _ _=> ?_|refine .bind (gC (by assumption) (by simp)) fun _ _ _ _=> ?_
theorem Q4 {c:fV} (h:fE c):Dn (fun _:Int×Unit=>True) (u4 [c]):=by
 unfold u4
 repeat first |exact .ret (by assumption) trivial|refine .iteP rfl ?_|refine .br (fun _=> ?_) fun _=> ?_|refine .bind (gi (by assumption) _) fun _ _ _ _=> ?_|refine .bind (jJ (by assumption) _) fun _ _ _ _=> ?_|refine .bind (gC (by assumption) (by simp)) fun _ _ _ _=> ?_
theorem Hx {c:fV} (h:fE c):Dn (fun _:eK×Unit=>True) (sN [c]):=by
 unfold sN;dsimp only
 repeat first |exact .ret (by assumption) trivial|refine .iteP rfl ?_|refine .br (fun _=> ?_) fun _=> ?_|refine .bind (gi (by assumption) _) fun _ _ _ _=> ?_|refine .bind (jJ (by assumption) _) fun _ _ _ _=> ?_|refine .bind (gC (by assumption) (by simp)) fun _ _ _ _=> ?_
theorem Nr {c:fV} (h:fE c):Dn (fun _:fp×Unit=>True) (qG [c]):=by
 unfold qG;dsimp only
 repeat first |exact .ret (by assumption) trivial|refine .iteP rfl ?_|refine .br (fun _=> ?_) fun _=> ?_|refine .bind (gi (by assumption) _) fun _ _ _ _=> ?_|refine .bind (jJ (by assumption) _) fun _ _ _ _=> ?_|refine .bind (gC (by assumption) (by simp)) fun _ _ _ _=> ?_|refine .bind (Hw (by assumption)) fun _ _ _ _=> ?_
def Ro {σ ε:Type} (I:σ->Prop) (E:ε->Prop) (r:Option (σ⊕ε)):Prop:=(∃s,r=some (.inl s)/\I s)\/ ∃e,r=some (.inr e)/\E e
section
variable {σ ε α:Type} {I:σ->Prop} {E:ε->Prop} {Q:α->Prop}
omit [dQ] in
theorem Ro.again {s:σ} (h:I s):Ro I E (some (.inl s)):= .inl ⟨s,rfl,h⟩
omit [dQ] in
theorem Ro.done {e:ε} (h:E e):Ro I E (some (.inr e)):= .inr ⟨e,rfl,h⟩
omit [dQ] in
theorem Ro.iteP {p:Prop} [Decidable p] {x y:Option (σ⊕ε)} (hp:p) (h:Ro I E x):Ro I E (iteP p x y):=by rw[hU hp];exact h
omit [dQ] in
theorem Ro.br {b:Bool} {x y:Option (σ⊕ε)} (h1:b=true->Ro I E x) (h2:b=false->Ro I E y):Ro I E (br b x y):=by
 cases b with
 |true=>exact h1 rfl
 |false=>exact h2 rfl
theorem Ro.draw {r:Option (List fV×α)} {k:List fV×α->Option (σ⊕ε)} (h:Dn Q r) (hk: ∀c a,fE c->Q a->Ro I E (k ([c],a))):Ro I E (r.bind k):=by obtain⟨c,a,rfl,h1,h2⟩:=h;exact hk c a h1 h2
omit [dQ] in
theorem Fu {B:σ->Option (σ⊕ε)} (μ:σ->Nat) (h: ∀s,I s->Ro (fun s'=>I s'/\μ s'<μ s) E (B s)) {s:σ} (hs:I s): ∃e,gW B s=some e/\E e:=
 xA I μ E (fun s hs=>(h s hs).imp (fun ⟨s',a,b,c⟩=>⟨s',a,b,c⟩) id) hs
end
theorem Hy {c:fV} (h:fE c) {n:Int} (h0:0<=n) {evs:List fp} {M:Nat} (hM:evs.length+n.toNat<=M) (hM2:M<=1000):Dn (fun y:List fp×Unit=>y.1.length<=M) ((oU (((),(),n,()),(()),[c],evs,())).bind fun e=>some e.2.2):=by
 unfold oU
 obtain⟨⟨_,_,l,ps,_⟩,h1,c2,rfl,h2,h3⟩:=Fu (B:=mh) (I:=fun s=> ∃c,s.2.2.1= [c] /\fE c/\0<=s.1.2.2.1/\s.2.2.2.1.length+s.1.2.2.1.toNat<=M) (E:=fun e=> ∃c,e.2.2.1= [c] /\fE c/\e.2.2.2.1.length<=M) (fun s=>s.1.2.2.1.toNat) (by
  rintro⟨⟨_,_,k,_⟩,_,l,ps,_⟩ ⟨c,rfl,hc,h0,h1⟩
  simp only at h0 h1;unfold mh;refine .br (fun hk=> ?_) fun hk=> .done ⟨c,rfl,hc,by show ps.length<=M; omega⟩;have hk:k>0:=of_decide_eq_true hk;have e:IntKind.wrap .i64 (k-1)=k-1:=eL (by omega) (by omega)
  have gm: ∀ (c:fV) (x:fp),fE c->Ro (fun s': (Unit×Unit×Int×Unit)×Unit×List fV×List fp×Unit=>(∃c,s'.2.2.1= [c] /\fE c/\0<=s'.1.2.2.1/\s'.2.2.2.1.length+s'.1.2.2.1.toNat<=M)/\s'.1.2.2.1.toNat<k.toNat) (fun e: (Unit×Unit)×Unit×List fV×List fp×Unit=> ∃c,e.2.2.1= [c] /\fE c/\e.2.2.2.1.length<=M) (iteP ((ps++ [x]).length*80<=2 ^ 40) (some (.inl (((),(),IntKind.wrap .i64 (k-1),()),(()),[c],ps++ [x],()))) none):=fun c x hc=>by refine .iteP (by simp only[az,ax]; omega) (.again ?_);simp only[e];exact⟨⟨c,rfl,hc,by omega,by simp only[az,ax]; omega⟩,by omega⟩
  refine .draw (Nr hc) fun c1 _ h1 _=> .iteP rfl (.br (fun _=> .draw (jJ h1 _) fun c2 _ h2 _=> .iteP rfl (.br (fun _=> .draw (gC h2 (by simp)) fun c3 _ h3 _=> .iteP rfl (gm _ _ h3)) fun _=>gm _ _ h2)) fun _=>gm _ _ h1)) (s:=(((),(),n,()),(()),[c],evs,())) ⟨c,rfl,h,h0,hM⟩
 rw[h1];exact⟨c2,_,rfl,h2,h3⟩
theorem Ln {c:fV} (h:fE c) {n:Int} (h0:0<=n) (hn:n<=100):Dn (fun y:List fp×Unit=>y.1.length<=200) (pf [c] n):=by
 unfold pf;rw[eL (n:=n+1) (by omega) (by omega)];refine .bind (gi h _) fun c1 _ h1 _=> .iteP rfl (.bind (gi h1 _) fun c2 _ h2 _=> .iteP rfl (.bind (jJ h2 _) fun c3 _ h3 _=> .iteP rfl (.br (fun _=> ?_) fun _=> ?_)))
 ·exact .bind (l7 h3 (by omega)) fun c4 y h4 hy=> .iteP rfl (Hy h4 hy.1 (by have:=hy.2; simp only[bw,b9]; omega) (by omega))
 ·exact .bind (l7 h3 (by omega)) fun c4 y h4 hy=> .iteP rfl (Hy h4 hy.1 (by have:=hy.2; simp only[bw,b9]; omega) (by omega))
theorem Ns {c:fV} (h:fE c):Dn (fun y:List Int×Unit=>y.1.length=5) (q9 [c]):=by
 unfold q9 xP
 obtain⟨⟨_,_,l,ps,_⟩,h1,c2,rfl,h2,h3⟩:=Fu (B:=n9) (I:=fun s=> ∃c,s.2.2.1= [c] /\fE c/\0<=s.1.2.2.1/\s.1.2.2.1<=5/\(s.2.2.2.1.length:Int)=s.1.2.2.1) (E:=fun e=> ∃c,e.2.2.1= [c] /\fE c/\e.2.2.2.1.length=5) (fun s=>(5-s.1.2.2.1).toNat) (by
  rintro⟨⟨_,_,k,_⟩,_,l,ps,_⟩ ⟨c,rfl,hc,h0,h1,h2⟩
  simp only at h0 h1 h2;unfold n9;refine .br (fun hk=> ?_) fun hk=> .done ⟨c,rfl,hc,by have : ¬k<5:=of_decide_eq_false hk; show ps.length=5; omega⟩;have hk:k<5:=of_decide_eq_true hk;refine .draw (gC hc (by simp)) fun c1 _ h1 _=> .iteP rfl (.iteP (by simp only[az,ax]; omega) (.again ?_));simp only;rw[eL (n:=k+1) (by omega) (by omega)];exact⟨⟨c1,rfl,h1,by omega,by omega,by simp only[az,ax]; omega⟩,by omega⟩) (s:=(((),(),0,()),(()),[c],([]:List Int),())) ⟨c,rfl,h,bO _,by simp,by simp⟩
 rw[h1];exact⟨c2,_,rfl,h2,h3⟩
theorem Nt {c:fV} (h:fE c):Dn (fun y:List eb×Unit=>y.1.length<=6) (vz [c]):=by
 unfold vz;refine .bind (l7 h (by decide)) fun c0 y0 hc0 hy0=> .iteP rfl ?_;unfold DZ
 obtain⟨⟨_,_,l,ps,_⟩,h1,c2,rfl,h2,h3⟩:=Fu (B:=sO) (I:=fun s=> ∃c,s.2.2.1= [c] /\fE c/\0<=s.1.2.2.2.1/\s.2.2.2.1.length+s.1.2.2.2.1.toNat<=6) (E:=fun e=> ∃c,e.2.2.1= [c] /\fE c/\e.2.2.2.1.length<=6) (fun s=>s.1.2.2.2.1.toNat) (by
  rintro⟨⟨_,_,g,k,_⟩,_,l,ps,_⟩ ⟨c,rfl,hc,h0,h1⟩
  simp only at h0 h1;unfold sO;refine .br (fun hk=> ?_) fun hk=> .done ⟨c,rfl,hc,by show ps.length<=6; omega⟩;have hk:k>0:=of_decide_eq_true hk;have e:IntKind.wrap .i64 (k-1)=k-1:=eL (by omega) (by omega);refine .draw (jJ hc _) fun c1 _ h1 _=> .iteP rfl (.br (fun _=> .draw (Hw h1) fun c2 _ h2 _=> .iteP rfl (.iteP (by simp only[az,ax]; omega) (.again ?_))) fun _=> .draw (Hw h1) fun c2 _ h2 _=> .iteP rfl (.iteP (by simp only[az,ax]; omega) (.again ?_)))
  all_goals
   simp only[e];exact⟨⟨c2,rfl,h2,by omega,by simp only[az,ax]; omega⟩,by omega⟩) (s:=(((),(),1,y0.1,()),(()),[c0],([]:List eb),())) ⟨c0,rfl,hc0,hy0.1,by have:=hy0.2; simp; omega⟩
 rw[h1];exact⟨c2,_,rfl,h2,h3⟩
theorem Nu {c:fV} (h:fE c):Dn (fun _:Op×Unit=>True) (xR [c]):=by
 unfold xR;refine .bind (Hw h) fun _ _ _ _=> ?_
 repeat first |exact .ret (by assumption) trivial|refine .iteP rfl ?_|refine .br (fun _=> ?_) fun _=> ?_|refine .bind (gi (by assumption) _) fun _ _ _ _=> ?_|refine .bind (jJ (by assumption) _) fun _ _ _ _=> ?_|refine .bind (gC (by assumption) (by simp)) fun _ _ _ _=> ?_
theorem Lo {c:fV} (h:fE c):Dn (fun y:List eb×Unit=>y.1.length<=17) (xS [c]):=by
 unfold xS;refine .bind (Nt h) fun c1 y h1 hy=> .iteP rfl (.bind (gi h1 _) fun c2 _ h2 _=> .iteP rfl (.br (fun _=> ?_) fun _=> .br (fun _=> ?_) fun _=> .ret h2 (by show y.1.length<=17; omega)))
 ·refine .bind (gC h2 (by simp)) fun c3 _ h3 _=> .iteP rfl (.bind (Nu h3) fun c4 z h4 _=> .iteP rfl ?_);have e: ∀x:eb,(y.1++ [x]).length<=17:=fun x=>by simp only[az,ax]; omega
  exact .iteP (aL (bn _ (e _)) (by decide)) (.ret h4 (e _))
 ·unfold D3
  obtain⟨⟨_,_,l,ps,_⟩,h1,c2,rfl,h2,h3⟩:=Fu (B:=qm) (I:=fun s=> ∃c,s.2.2.1= [c] /\fE c/\s.2.2.2.1.length<=17) (E:=fun e=> ∃c,e.2.2.1= [c] /\fE c/\e.2.2.2.1.length<=17) (fun s=>17-s.2.2.2.1.length) (by
   rintro⟨⟨_,_,_⟩,_,l,ps,_⟩ ⟨c,rfl,hc,h0⟩
   simp only at h0;unfold qm;refine .br (fun hk=> ?_) fun hk=> .done ⟨c,rfl,hc,h0⟩;have hk: (ps.length:Int)<17:=of_decide_eq_true hk;refine .draw (Hw hc) fun c1 _ h1 _=> .iteP rfl (.iteP (by simp only[az,ax]; omega) (.again ?_));exact⟨⟨c1,rfl,h1,by simp only[az,ax]; omega⟩,by simp only[az,ax]; omega⟩) (s:=(((),(),()),(()),[c2],y.1,())) ⟨c2,rfl,h2,by show y.1.length<=17; omega⟩
  show Dn _ ((gW qm (((),(),()),(()),[_],y.1,())).bind _);rw[h1];exact⟨c2,_,rfl,h2,h3⟩
end
end Go.Proofs.YtlaicbcfjcplhaaGreat.En
namespace Go.Proofs.YtlaicbcfjcplhaaGreat.En
open Go
def iR (M:Nat) (c:dU):Prop:=c.replicas.length<=M/\c.witnesses.length<=M
def gr (M:Nat) (s:dT):Prop:=iR M s.config/\s.log.length<=M/\s.learned.length<=M
def ri (M:Nat) (m:dY):Prop:=m.configs.length<=M/\ ∀c∈m.configs,iR M c
def fO (M:Nat) (c:dR):Prop:=(c.servers.length<=M/\ ∀s∈c.servers,gr M s)/\c.sides.length<=M/\ri M c.master/\c.places.length<=M
theorem eD {n:Nat} (h:n<=1048576):n<=maxLen:=by unfold maxLen; omega
end Go.Proofs.YtlaicbcfjcplhaaGreat.En
namespace Go.Proofs.YtlaicbcfjcplhaaGreat.En
open Go
theorem pJ {ρ:Type} (a b:Int) (x y:ρ):br (a==b) x y=if a=b then x else y:=by rw[QR];by_cases h:a=b<;>simp[h]
theorem dS {ρ:Type} (b:Bool) (x y:ρ):br (!b) x y=br b y x:=by cases b<;>rfl
def kj (x a b:Int):Bool:=decide (a<=x)&&decide (x<=b)
theorem gl (x a b:Int):ev x a b=some (kj x a b,()):=by unfold ev kj;rw[ef];split<;>rename_i h<;>simp[h]
theorem pz (x a b:Int):eH x a b=some (kj x a b,()):=by unfold eH kj;rw[ef];split<;>rename_i h<;>simp[h]
theorem ey {x a b:Int}:kj x a b=true↔a<=x/\x<=b:=by simp[kj]
def rA (l:List Int):Prop:= ∀k (h:k<l.length),(0<=l[k] /\l[k] <=4)/\ ∀_:0<k,l[k-1]'(by omega)<l[k]
theorem tI (l:List Int) (hl:l.length<=maxLen): (fZ l=some (true,())/\iJ l=some (true,())/\rA l)\/(fZ l=some (false,())/\iJ l=some (false,())):=by
 have gm:=nG (B1:=gG) (B2:=gP) l.length (fun k=>((l,(k:Int),()),(),())) (fun k=>((l,l,(l.length:Int),(k:Int),()),(),())) (.inr (((),()),(),())) (.inr (((),()),(),())) (fun _=> .inl ((false,()),(),())) (fun _=> .inl ((false,()),(),()))
  (fun k=> ∀h:k<l.length,(0<=l[k] /\l[k] <=4)/\ ∀_:0<k,l[k-1]'(by omega)<l[k]) (fun _=>True)
  (by simp only[gG]; rw[ef,if_neg (by omega)])
  (by simp only[gP]; rw[ef,if_neg (by omega)])
  (fun k hk=>by
    have c1: (k:Int)< (l.length:Int):=by omega
    have c2: (0:Int)<=(k:Int):=by omega
    have e1:l[k]? =some l[k] :=ah hk;simp only[gG,gP,ef,ek,if_pos c1,if_pos c2,aB,e1,ae,gl,pz];cases hw:kj l[k] 0 4 with
    |false=>exact .inr ⟨rfl,rfl,trivial⟩
    |true=>
     simp only[cg,eS];have hw:=ey.1 hw;by_cases h0:0<k
     ·have c3: (k:Int)>0:=by omega
      have c4: (0:Int)<=((k-1:Nat):Int):=by omega
      have e2:l[k-1]? =some l[k-1] :=ah (by omega);simp only[if_pos c3,oy h0 (by omega),if_pos c4,aB,e2,ae];by_cases hlt:l[k-1]<l[k]
      ·rw[if_neg (by omega),if_neg (by omega),dV hl hk];exact .inl ⟨rfl,rfl,fun _=>⟨hw,fun _=>hlt⟩⟩
      ·rw[if_pos (by omega),if_pos (by omega)];exact .inr ⟨rfl,rfl,trivial⟩
     ·rw[if_neg (by omega),if_neg (by omega),dV hl hk];exact .inl ⟨rfl,rfl,fun _=>⟨hw,fun h=>absurd h h0⟩⟩)
 unfold fZ iJ;rcases gm with ⟨k1,k2,k3⟩| ⟨k,_,k1,k2,_⟩
 ·rw[show nK ((l,0,()),(),())=_ from k1,show oe ((l,l,(l.length:Int),0,()),(),())=_ from k2];exact .inl ⟨rfl,rfl,fun k hk=>k3 k hk hk⟩
 ·rw[show nK ((l,0,()),(),())=_ from k1,show oe ((l,l,(l.length:Int),0,()),(),())=_ from k2];exact .inr ⟨rfl,rfl⟩
theorem rA.lt {l:List Int} (h:rA l): ∀ (d i:Nat) (h2:i+d+1<l.length),l[i]'(by omega)<l[i+d+1] :=by
 intro d
 induction d with
 |zero=>intro i h2;exact (h (i+1) h2).2 (by omega)
 |succ d ih=>intro i h2;have h1:=ih i (by omega);have h3:=(h (i+d+1+1) h2).2 (by omega);exact Int.lt_trans h1 h3
theorem rA.pair {l:List Int} (h:rA l):l.Pairwise (· < ·):=by rw[bW];intro i j hi hj hij;have:=h.lt (j-i-1) i (by omega);simpa [show i+(j-i-1)+1=j by omega] using this
theorem rA.len {l:List Int} (h:rA l):l.length<=5:=by
 have ge: ∀k (hk:k<l.length),(k:Int)<=l[k] :=by
  intro k
  induction k with
  |zero=>intro hk; exact (h 0 hk).1.1
  |succ k ih=>intro hk;have h1:=ih (by omega);have h2:=(h (k+1) hk).2 (by omega);simp only[bS] at h2;omega
 rcases cN 5 l.length with hlt|hge
 ·have h1:=ge 5 hlt;have h2:=(h 5 hlt).1.2;omega
 ·exact hge
theorem gf (l:List Int) (x:Int) (hl:l.length<=maxLen):fg l x=some (decide (x∈l),())/\kp l x=some (decide (x∈l),()):=by
 have gm:=nG (B1:=kS) (B2:=ka) l.length (fun k=>((l,x,(k:Int),()),(),())) (fun k=>((l,x,(l.length:Int),(k:Int),()),(),())) (.inr (((),()),(),())) (.inr (((),()),(),())) (fun _=> .inl ((true,()),(),())) (fun k=> .inl (((k:Int),()),(),()))
  (fun k=>l[k]? ≠some x) (fun k=>l[k]? =some x)
  (by simp only[kS]; rw[ef,if_neg (by omega)])
  (by simp only[ka]; rw[ef,if_neg (by omega)])
  (fun k hk=>by
    have c1: (k:Int)< (l.length:Int):=by omega
    have c2: (0:Int)<=(k:Int):=by omega
    have e1:l[k]? =some l[k] :=ah hk;simp only[kS,ka,ef,ek,if_pos c1,if_pos c2,aB,e1,ae,dV hl hk,pJ];by_cases he:l[k] =x
    ·rw[if_pos he,if_pos he.symm,he];exact .inr ⟨rfl,rfl,rfl⟩
    ·rw[if_neg he,if_neg (fun h=>he h.symm)];exact .inl ⟨rfl,rfl,fun h=>he (Option.some.inj h)⟩)
 unfold fg kp mO qe;rcases gm with ⟨k1,k2,k3⟩| ⟨k,hk,k1,k2,k3⟩
 ·rw[show rN ((l,x,0,()),(),())=_ from k1,show rc ((l,x,(l.length:Int),0,()),(),())=_ from k2]
  have hn:x∉l:=fun h=>by obtain⟨k,hk,he⟩:=aP h;exact k3 k hk (by rw[ah hk,he])
  rw[decide_eq_false hn];exact⟨rfl,rfl⟩
 ·rw[show rN ((l,x,0,()),(),())=_ from k1,show rc ((l,x,(l.length:Int),0,()),(),())=_ from k2];rw[decide_eq_true (aw k3)];refine⟨rfl,?_⟩;simp only[ae,cW];rw[decide_eq_true (by omega)]
end Go.Proofs.YtlaicbcfjcplhaaGreat.En
namespace Go.Proofs.YtlaicbcfjcplhaaGreat.En
open Go
theorem l8 {n:Nat} (h:n<=1048576):n*8<=2 ^ 40:=by
 have : (2:Nat) ^ 40=1099511627776:=by decide
 omega
theorem Fv (l:List Int) (x:Int) (hl:l.length<=1000) (h: ∀y∈l,y<x):jR l x=some (l++ [x],()):=by
 have hm:l.length<=maxLen:=by unfold maxLen; omega
 have gm:=mf (B:=lT) l (fun k (_:Unit)=>((l,x,(k:Int),()),(),())) (fun _ _=>True) (fun k r _=>((l,x,((k+r.length:Nat):Int),()),(),()))
  (fun b hb=>by simp only[lT];rw[ef,if_neg (by omega)];rfl)
  (fun k b y hy hb=>by
    have hk:=la hy;have c1: (k:Int)< (l.length:Int):=by omega
    have c2: (0:Int)<=(k:Int):=by omega
    refine .inl ⟨(),?_,trivial,?_⟩
    ·simp only[lT,ef,ek,if_pos c1,if_pos c2,aB,hy,ae,if_pos (h y (aw hy)),dV hm hk]
    ·rw[bw,show k+((l.drop (k+1)).length+1)=k+1+(l.drop (k+1)).length by omega])
  0 () (aA _) trivial
 unfold jR;rw[show yP ((l,x,0,()),(),())=_ from gm];simp only[ae,bK,aR];have c0: ¬ ((l.length:Int)< (l.length:Int)):=by omega
 have d1: (0:Int)<=0/\(0:Int)<=(l.length:Int)/\(l.length:Int)<=(l.length:Int):=by omega
 have d2: (0:Int)<=(l.length:Int)/\(l.length:Int)<=(l.length:Int)/\(l.length:Int)<=(l.length:Int):=by omega
 simp only[ef,if_neg c0,ek,if_pos d1,if_pos d2,aB,Int.toNat_zero,bK,cU,cS,cR,b7,bU,aZ];rw[if_pos (l8 (by omega)),if_pos (l8 (by simp; omega))];exact if_pos (l8 (by simp; omega))
theorem x0 (a b:List Int) (ha:rA a) (hb:b.length<=maxLen):iz a b=some (a.filter fun x=>decide (x∈b),()):=by
 have hl:=ha.len;have hm:a.length<=maxLen:=by unfold maxLen; omega
 have hp:=ha.pair
 have gm:=mf (B:=iv) a (fun k (out:List Int)=>((a,b,(),(k:Int),()),(),(out,()))) (fun k out=>out=(a.take k).filter fun x=>decide (x∈b)) (fun k r out=>(((),()),(),(out++r.filter fun x=>decide (x∈b),())))
  (fun out hb=>by simp only[iv];rw[ef,if_neg (by omega)];simp)
  (fun k out x hx hout=>by
    have hk:=la hx;have c1: (k:Int)< (a.length:Int):=by omega
    have c2: (0:Int)<=(k:Int):=by omega
    have hxe:a[k] =x:=by rw[ah hk] at hx; exact Option.some.inj hx
    simp only[iv,ef,ek,if_pos c1,if_pos c2,aB,hx,ae,(gf b x hb).1,dV hm hk];by_cases hin:x∈b
    ·have hlt: ∀y∈out,y<x:=by
      intro y hy;rw[hout,cF] at hy;obtain⟨i,hi,he⟩:=aP hy.1;have hi':i<k:=by simp at hi; omega
      rw[dt] at he;rw[<-he,<-hxe];exact bW.1 hp i k (by omega) hk hi'
     have hol:out.length<=1000:=by rw[hout];have:=cY (fun x=>decide (x∈b)) (a.take k);simp at this;omega
     simp only[if_pos hin,Fv out x hol hlt,ae];refine .inl ⟨out++ [x],rfl,?_,?_⟩
     ·rw[hout,bM,hx,ca];simp[hin]
     ·simp[hin]
    ·simp only[if_neg hin];refine .inl ⟨out,rfl,?_,?_⟩
     ·rw[hout,bM,hx,ca];simp[hin]
     ·simp[hin])
  0 [] (aA _) rfl
 unfold iz;rw[show rx ((a,b,(),0,()),(),([],()))=_ from gm];rfl
theorem I9 {n:Nat} (hn:n<=5): ∃m,xU (IntKind.wrap .u64 (n:Int))=some (m,()):=by
 have :n=0\/n=1\/n=2\/n=3\/n=4\/n=5:=by omega
 rcases this with rfl|rfl|rfl|rfl|rfl|rfl
 ·exact⟨0,by kernel_rfl⟩
 ·exact⟨1,by kernel_rfl⟩
 ·exact⟨2,by kernel_rfl⟩
 ·exact⟨2,by kernel_rfl⟩
 ·exact⟨3,by kernel_rfl⟩
 ·exact⟨3,by kernel_rfl⟩
theorem Lp (l:List Int) (ha:rA l):ft l 0 (l.length:Int)=some (l,()):=by
 have hl:=ha.len;have hm:l.length<=maxLen:=by unfold maxLen; omega
 have inner: ∀k (hk:k<l.length),0<k->jD (((),0,(l.length:Int),(k:Int),(k:Int),()),(),(l,()))=some (((),0,(l.length:Int),(k:Int),()),(),(l,())):=by
  intro k hk h0;refine lw ?_;have c1: (k:Int)>0:=by omega
  have c2: (0:Int)<=(k:Int)/\(k:Int)< (l.length:Int):=by omega
  have c3: (0:Int)<=((k-1:Nat):Int)/\((k-1:Nat):Int)< (l.length:Int):=by omega
  have e1:l[k]? =some l[k] :=ah hk;have e2:l[k-1]? =some l[k-1] :=ah (by omega);have hlt:=(ha k hk).2 h0
  have less:of l[k] l[k-1] =some (false,()):=by unfold of mw;simp only[beq_self_eq_true,cg,ae,eS];rw[decide_eq_false (by omega)]
  simp only[fR,ef,ek,if_pos c1,if_pos c2,oy h0 (by omega),if_pos c3,aB,e1,e2,ae,less,eS]
 have outer:=xA (B:=eP) (fun s=> ∃k:Nat,0<k/\s=(((),0,(l.length:Int),(k:Int),()),(),(l,()))) (fun s=>l.length-s.1.2.2.2.1.toNat) (fun e=>e=((()),(),(l,())))
  (fun s hs=>by
    obtain⟨k,h0,rfl⟩:=hs;by_cases hk:k<l.length
    ·have c1: (k:Int)< (l.length:Int):=by omega
     refine .inl ⟨(((),0,(l.length:Int),((k+1:Nat):Int),()),(),(l,())),?_,⟨k+1,by omega,rfl⟩,?_⟩
     ·simp only[eP,ef,if_pos c1,inner k hk h0,ae,dV hm hk]
     ·simp only[aB];omega
    ·have c1: ¬ (k:Int)< (l.length:Int):=by omega
     exact .inr ⟨_,by simp only[eP,ef,if_neg c1],rfl⟩)
  (s:=(((),0,(l.length:Int),((1:Nat):Int),()),(),(l,()))) ⟨1,by omega,rfl⟩
 obtain⟨e,h1,rfl⟩:=outer;unfold ft;rw[show IntKind.wrap .i64 ((0:Int)+1)=((1:Nat):Int) from by rw[eL (by omega) (by omega)]; rfl,show jF (((),0,(l.length:Int),((1:Nat):Int),()),(),(l,()))=_ from h1];rfl
theorem Nv (l:List Int) (ha:rA l):lI l=some (l,()):=by
 have hl:=ha.len;obtain⟨m,hm⟩:=I9 hl
 have hp:gp l 0 (l.length:Int) m=some (l,()):=by
  unfold gp
  have :lH (((),0,(l.length:Int),m,true,true,()),(),(l,()))=some ((()),(),(l,())):=by refine lw ?_;simp only[gQ];rw[eL (by omega) (by omega),ef,if_pos (by omega),Lp l ha,ae,hU rfl]
  rw[this];rfl
 unfold lI;simp only[hm,ae,hp];exact hU trivial _ _
theorem Hz (l:List Int) (ha:rA l):jG l=some (l,()):=by
 have hl:=ha.len;have hm:l.length<=maxLen:=by unfold maxLen; omega
 unfold jG;rw[ef];split
 ·rfl
 ·have gm:=xA (B:=gU) (fun s=> ∃k:Nat,0<k/\k<=l.length/\s=(((),(k:Int),()),(),(l,()))) (fun s=>l.length-s.1.2.1.toNat) (fun e=>e= .inr (((),(),()),(),(l,())))
   (fun s hs=>by
     obtain⟨k,h0,hkl,rfl⟩:=hs;by_cases hk:k<l.length
     ·have c1: (k:Int)< (l.length:Int):=by omega
      have c2: (0:Int)<=(k:Int)/\(k:Int)< (l.length:Int):=by omega
      have c3: (0:Int)<=((k-1:Nat):Int)/\((k-1:Nat):Int)< (l.length:Int):=by omega
      have e1:l[k]? =some l[k] :=ah hk;have e2:l[k-1]? =some l[k-1] :=ah (by omega);have hlt:=(ha k hk).2 h0;refine .inl ⟨(((),((k+1:Nat):Int),()),(),(l,())),?_,⟨k+1,by omega,by omega,rfl⟩,?_⟩
      ·simp only[gU,ef,ek,if_pos c1,if_pos c2,oy h0 (by omega),if_pos c3,aB,e1,e2,ae,pJ,dV hm hk];rw[if_neg (by omega)]
      ·simp only[aB];omega
     ·have c1: ¬ (k:Int)< (l.length:Int):=by omega
      exact .inr ⟨_,by simp only[gU,ef,if_neg c1],rfl⟩)
   (s:=(((),((1:Nat):Int),()),(),(l,()))) ⟨1,by omega,by omega,rfl⟩
  obtain⟨e,h1,rfl⟩:=gm;rw[show pR (((),1,()),(),(l,()))=_ from h1];rfl
theorem Lq (l:List Int) (ha:rA l):pw l=some (l,()):=by have hl:=ha.len;unfold pw lZ;rw[hU (l8 (by omega)),ae,Nv l ha,ae,hU rfl,Hz l ha];rfl
end Go.Proofs.YtlaicbcfjcplhaaGreat.En
namespace Go.Proofs.YtlaicbcfjcplhaaGreat.En
open Go
theorem u5 {σ ε:Type} {B:σ->Option (σ⊕ε)} (n:Nat) (m:Nat->σ) (t:ε) (f:Nat->ε) (p:Nat->Bool) (h0:B (m n)=some (.inr t)) (h: ∀k,k<n->B (m k)=some (if p k=true then .inr (f k) else .inl (m (k+1)))):
  (gW B (m 0)=some t/\ ∀k,k<n->p k=false)\/ ∃k,k<n/\gW B (m 0)=some (f k)/\p k=true/\ ∀j,j<k->p j=false:=by
 have gm: ∀d j,j+d=n->(gW B (m j)=some t/\ ∀k,j<=k->k<n->p k=false)\/ ∃k,k<n/\gW B (m j)=some (f k)/\p k=true/\ ∀i,j<=i->i<k->p i=false:=by
  intro d
  induction d with
  |zero=>
   intro j hj;have :j=n:=by omega
   subst this;exact .inl ⟨lw h0,fun k a b=>by omega⟩
  |succ d ih=>
   intro j hj;have h1:=h j (by omega);cases hp:p j with
   |true=>rw[hp,if_pos rfl] at h1;exact .inr ⟨j,by omega,lw h1,hp,fun i a b=>by omega⟩
   |false=>
    rw[hp,if_neg (by simp)] at h1;rw[sj h1];rcases ih (j+1) (by omega) with ⟨k1,k2⟩| ⟨k,k0,k1,k2,k3⟩
    ·refine .inl ⟨k1,fun k a b=> ?_⟩;rcases dP a with rfl|a
     ·exact hp
     ·exact k2 k a b
    ·refine .inr ⟨k,k0,k1,k2,fun i a b=> ?_⟩;rcases dP a with rfl|a
     ·exact hp
     ·exact k3 i a b
 rcases gm n 0 (by omega) with ⟨a,b⟩| ⟨k,a,b,c,d⟩
 ·exact .inl ⟨a,fun k hk=>b k (aA _) hk⟩
 ·exact .inr ⟨k,a,b,c,fun j hj=>d j (aA _) hj⟩
theorem Pw {σ1 ε1 σ2 ε2 β:Type} {B1:σ1->Option (σ1⊕ε1)} {B2:σ2->Option (σ2⊕ε2)} (n:Nat) (m1:Nat->β->σ1) (m2:Nat->β->σ2) (J:Nat->β->Prop) (E1:β->ε1) (E2:β->ε2)
  (h0: ∀b,J n b->B1 (m1 n b)=some (.inr (E1 b))/\B2 (m2 n b)=some (.inr (E2 b)))
  (h1: ∀k b,k<n->J k b-> ∃b',B1 (m1 k b)=some (.inl (m1 (k+1) b'))/\B2 (m2 k b)=some (.inl (m2 (k+1) b'))/\J (k+1) b')
  (b:β) (hb:J 0 b): ∃b',J n b'/\gW B1 (m1 0 b)=some (E1 b')/\gW B2 (m2 0 b)=some (E2 b'):=by
 have go: ∀ (d k:Nat) (b:β),k+d=n->J k b-> ∃b',J n b'/\gW B1 (m1 k b)=some (E1 b')/\gW B2 (m2 k b)=some (E2 b'):=by
  intro d
  induction d with
  |zero=>
   intro k b hk hj;have :k=n:=by omega
   subst this;exact⟨b,hj,lw (h0 b hj).1,lw (h0 b hj).2⟩
  |succ d ih=>intro k b hk hj;obtain⟨b',p1,p2,p3⟩:=h1 k b (by omega) hj;obtain⟨c,q1,q2,q3⟩:=ih (k+1) b' (by omega) p3;exact⟨c,q1,by rw[sj p1]; exact q2,by rw[sj p2]; exact q3⟩
 exact go n 0 b (by omega) hb
theorem zV {l:List Int} {p:Int->Bool} (h: ∀x∈l,p x=true):l.filter p=l:=List.filter_eq_self.2 h
theorem Ja (a b:List Int) (ha:a.length<=1000) (hb:b.length<=maxLen):eN a b=some (a.filter fun x=> !decide (x∈b),()):=by
 have hm:a.length<=maxLen:=by unfold maxLen; omega
 have hm':a.length<=9223372036854775807:=hm
 have has: ∀x,gV x b=some (decide (x∈b),()):=by intro x;unfold gV;rw[(gf b x hb).2];rfl
 have find:=u5 (B:=eI) a.length (fun k=>((a,(b,()),(a.length:Int),(k:Int),()),(),())) (.inr (((),()),(),())) (fun k=> .inl (((k:Int),()),(),())) (fun k=>match a[k]? with |some x=>decide (x∈b)|none=>false)
  (by simp only[eI]; rw[ef,if_neg (by omega)])
  (fun k hk=>by
    have c1: (k:Int)< (a.length:Int):=by omega
    have c2: (0:Int)<=(k:Int):=by omega
    simp only[eI,ef,ek,if_pos c1,if_pos c2,aB,ah hk,ae,has,dV hm hk];by_cases hin:a[k] ∈b<;>simp[hin])
 unfold eN fw;rcases find with ⟨k1,k2⟩| ⟨i,hi,k1,k2,k3⟩
 ·rw[show ga ((a,(b,()),(a.length:Int),0,()),(),())=_ from k1];simp only[ae,cP,beq_self_eq_true,eg];rw[zV fun x hx=> ?_];obtain⟨k,hk,rfl⟩:=aP hx;have:=k2 k hk;rw[ah hk] at this;simpa using this
 ·rw[show ga ((a,(b,()),(a.length:Int),0,()),(),())=_ from k1]
  have hne: ((i:Int)== -1)=false:=by simp only[beq_eq_false_iff_ne,ne_eq];omega
  simp only[ae,cW,hne,eS,dV hm hi];rw[ah hi] at k2
  have loop:=xA (B:=eC) (fun s=> ∃ (i j:Nat) (v:List Int),s=(((),(b,()),(i:Int),(j:Int),()),(),(v,()))/\i<=j/\j<=a.length/\v.length=a.length/\v.take i=(a.take j).filter (fun x=> !decide (x∈b))/\v.drop j=a.drop j) (fun s=>a.length-s.1.2.2.2.1.toNat)
   (fun e=> ∃ (i:Nat) (v:List Int),e=(((),(i:Int),()),(),(v,()))/\i<=a.length/\v.length=a.length/\v.take i=a.filter (fun x=> !decide (x∈b)))
   (fun s hs=>by
     obtain⟨i,j,v,rfl,hij,hj,hv,ht,hd⟩:=hs;by_cases hlt:j<a.length
     ·have c1: (j:Int)< (v.length:Int):=by omega
      have c2: (0:Int)<=(j:Int)/\(j:Int)< (v.length:Int):=by omega
      have c3: (0:Int)<=(i:Int)/\(i:Int)< (v.length:Int):=by omega
      have e1:v[j]? =some a[j] :=by have:=congrArg (fun l:List Int=>l[0]?) hd;simpa [bz,ah hlt] using this
      have e2:v[i]? =some (v[i]'(by omega)):=ah _;have hta:a.take (j+1)=a.take j++ [a[j]] :=by rw[bM,ah hlt]; rfl
      have hdd:v.drop (j+1)=a.drop (j+1):=by have:=congrArg (List.drop 1) hd;simpa [ct,cf] using this
      left;simp only[eC,ef,ek,if_pos c1,if_pos c2,aB,e1,ae,has,if_pos c3,e2,dV hm hlt,dS,dV hm (show i<a.length by omega)];by_cases hin:a[j] ∈b
      ·rw[if_pos hin];refine⟨_,rfl,⟨i,j+1,v,rfl,by omega,by omega,hv,?_,hdd⟩,?_⟩
       ·rw[ht,hta,ca];simp[hin]
       ·simp only[aB];omega
      ·rw[if_neg hin];refine⟨_,rfl,⟨i+1,j+1,v.set i a[j],rfl,by omega,by omega,by simp[hv],?_,?_⟩,?_⟩
       ·rw[CZ _ (by omega),ht,hta,ca];simp[hin]
       ·rw[dI (by omega),hdd]
       ·simp only[aB];omega
     ·have :j=a.length:=by omega
      subst this;right;refine⟨_,by simp only[eC]; rw[ef,if_neg (by omega)],⟨i,v,rfl,hij,hv,?_⟩⟩;rw[ht,bU])
   (s:=(((),(b,()),(i:Int),((i+1:Nat):Int),()),(),(a,()))) ⟨i,i+1,a,rfl,by omega,by omega,rfl,by
     have hta:a.take (i+1)=a.take i++ [a[i]] :=by rw[bM,ah hi]; rfl
     rw[hta,ca,zV (l:=a.take i) fun x hx=> ?_]
     ·simp only[decide_eq_true_eq] at k2;simp[k2]
     ·obtain⟨j,hj,rfl⟩:=aP hx;have hj':j<i:=by simp at hj; omega
      have:=k3 j hj';rw[ah (by omega)] at this;rw[dt];simpa using this,rfl⟩
  obtain⟨e,h1,i',v,rfl,h2,h3,h4⟩:=loop;rw[show gZ (((),(b,()),(i:Int),((i+1:Nat):Int),()),(),(a,()))=_ from h1];have d1: (0:Int)<=(i':Int)/\(i':Int)<=(v.length:Int)/\(v.length:Int)<=((v.length:Nat):Int):=by omega
  have d2:i'+(v.length-i')<=v.length:=by omega
  have d3: (0:Int)<=0/\(0:Int)<=(i':Int)/\(i':Int)<=((v.length:Nat):Int):=by omega
  simp only[ae,aB,Int.toNat_zero,aR,cU,ek,if_pos d1,if_pos d2,if_pos d3];rw[if_pos ⟨trivial,by simp; omega⟩];rw[bB,List.take_append_of_le_length (by simp; omega),List.take_take,Nat.min_self,h4]
theorem HA (a b:List Int) (ha:rA a) (hb:b.length<=maxLen):iZ a b=some (a.filter fun x=> !decide (x∈b),()):=by have hl:=ha.len;unfold iZ;rw[Lq a ha,ae,Ja a b (by omega) hb];rfl
theorem Px (a b:List Int) (ha:rA a) (hb:b.length<=maxLen):kP a b=some (a.filter fun x=>decide (x∈b),()):=by
 have hl:=ha.len;unfold kP;rw[HA a b ha hb];simp only[ae]
 rw[HA a (a.filter fun x=> !decide (x∈b)) ha (by have:=cY (fun x=> !decide (x∈b)) a;unfold maxLen;omega)]
 simp only[ae]
 congr 2
 apply List.filter_congr;intro x hx;simp[cF,hx]
theorem pA (c:dU) (h:iR maxLen c):vQ (eB c) (jo c):=by
 unfold eB jo;simp only[gl,pz,ae];cases kj c.epoch 1 20 with
 |false=>exact⟨_,rfl,rfl⟩
 |true=>
  rcases tI c.replicas h.1 with ⟨a1,a2,a3⟩| ⟨a1,a2⟩
  ·rcases tI c.witnesses h.2 with ⟨b1,b2,b3⟩| ⟨b1,b2⟩
   ·simp only[a1,a2,b1,b2,ae,eg,(gf c.replicas c.primary h.1).1,(gf c.replicas c.primary h.1).2,x0 _ _ a3 h.2,Px _ _ a3 h.2];cases decide (c.primary∈c.replicas)<;>exact⟨_,rfl,rfl⟩
   ·simp only[a1,a2,b1,b2,ae,eg,eS];exact⟨_,rfl,rfl⟩
  ·simp only[a1,a2,ae,eg,eS];exact⟨_,rfl,rfl⟩
end Go.Proofs.YtlaicbcfjcplhaaGreat.En
namespace Go.Proofs.YtlaicbcfjcplhaaGreat.En
open Go
theorem u6 (l:List Int) (hl:l.length<=maxLen):vQ (i8 l) (oO l):=by
 have gm:=nG (B1:=lS) (B2:=eU) l.length (fun k=>((l,(k:Int),()),(),())) (fun k=>((l,(),(l.length:Int),(k:Int),()),(),())) (.inr ((l,(),()),(),())) (.inr (((),()),(),())) (fun _=> .inl ((l,false,()),(),())) (fun k=> .inl (((k:Int),()),(),()))
  (fun _=>True) (fun _=>True)
  (by simp only[lS]; rw[ef,if_neg (by omega)])
  (by simp only[eU]; rw[ef,if_neg (by omega)])
  (fun k hk=>by
    have c1: (k:Int)< (l.length:Int):=by omega
    have c2: (0:Int)<=(k:Int):=by omega
    simp only[lS,eU,ef,ek,if_pos c1,if_pos c2,aB,ah hk,ae,o7,gl,pz,dV hl hk];cases kj l[k] 0 3 with
    |false=>exact .inr ⟨rfl,rfl,trivial⟩
    |true=>exact .inl ⟨rfl,rfl,trivial⟩)
 unfold i8 oO fQ gk;rcases gm with ⟨k1,k2,_⟩| ⟨k,_,k1,k2,_⟩
 ·rw[show tz ((l,0,()),(),())=_ from k1,show hQ ((l,(),(l.length:Int),0,()),(),())=_ from k2];simp only[ae,cP];cases ((l.length:Int)==5)<;>exact⟨_,rfl,rfl⟩
 ·rw[show tz ((l,0,()),(),())=_ from k1,show hQ ((l,(),(l.length:Int),0,()),(),())=_ from k2];simp only[ae,cW];rw[decide_eq_true (by omega)];cases ((l.length:Int)==5)<;>exact⟨_,rfl,rfl⟩
theorem masterLog (m:dY) (h:ri maxLen m): ∃b,fv m=some (b,())/\kY m=some (b,()):=by
 obtain⟨hl,hc⟩:=h
 have gm:=nG (B1:=fr) (B2:=jq) m.configs.length (fun k=>(((),(k:Int),()),((m.configs,m.activated,()),()),())) (fun k=>(((),m.configs,(m.configs.length:Int),(k:Int),()),((m.configs,m.activated,()),()),())) (.inr (((),(),()),((m.configs,m.activated,()),()),())) (.inr (((),(),()),((m.configs,m.activated,()),()),())) (fun _=> .inl (((),false,()),((m.configs,m.activated,()),()),())) (fun _=> .inl (((),false,()),((m.configs,m.activated,()),()),()))
  (fun _=>True) (fun _=>True)
  (by simp only[fr]; rw[ef,if_neg (by omega)])
  (by simp only[jq]; rw[ef,if_neg (by omega)])
  (fun k hk=>by
    have c1: (k:Int)< (m.configs.length:Int):=by omega
    have c2: (0:Int)<=(k:Int):=by omega
    obtain⟨b,v1,v2⟩:=pA m.configs[k] (hc _ (bu hk));simp only[fr,jq,ef,ek,if_pos c1,if_pos c2,aB,ah hk,ae,v1,v2,dV hl hk,dS];cases b with
    |false=>exact .inr ⟨rfl,rfl,trivial⟩
    |true=>
     cases (m.configs[k].epoch==((k+1:Nat):Int)) with
     |false=>exact .inr ⟨rfl,rfl,trivial⟩
     |true=>exact .inl ⟨rfl,rfl,trivial⟩)
 unfold fv kY;rcases gm with ⟨k1,k2,_⟩| ⟨k,_,k1,k2,_⟩
 ·rw[show kJ (((),0,()),((m.configs,m.activated,()),()),())=_ from k1,show pI (((),m.configs,(m.configs.length:Int),0,()),((m.configs,m.activated,()),()),())=_ from k2];simp only[ae,cP,gl,pz];exact⟨_,rfl,rfl⟩
 ·rw[show kJ (((),0,()),((m.configs,m.activated,()),()),())=_ from k1,show pI (((),m.configs,(m.configs.length:Int),0,()),((m.configs,m.activated,()),()),())=_ from k2];exact⟨_,rfl,rfl⟩
theorem rB (x:eK):vQ (iw x) (ig x):=by unfold iw ig;simp only[gl,pz,ae];cases ((x.epoch==0)&&((x.holder==0)&&((x.ends==0)&&true)))<;>cases kj x.epoch 1 20<;>cases kj x.holder 0 4<;>exact⟨_,rfl,rfl⟩
theorem qq (l:List eG) (hl:l.length<=maxLen):vQ (fq l) (nq l):=by
 have gm:=nG (B1:=jL) (B2:=eM) l.length (fun k=>((l,(k:Int),()),(),())) (fun k=>((l,(),(l.length:Int),(k:Int),()),(),())) (.inr ((l,(),()),(),())) (.inr (((),()),(),())) (fun _=> .inl ((l,false,()),(),())) (fun k=> .inl (((k:Int),()),(),()))
  (fun _=>True) (fun _=>True)
  (by simp only[jL]; rw[ef,if_neg (by omega)])
  (by simp only[eM]; rw[ef,if_neg (by omega)])
  (fun k hk=>by
    have c1: (k:Int)< (l.length:Int):=by omega
    have c2: (0:Int)<=(k:Int):=by omega
    simp only[jL,eM,ef,ek,if_pos c1,if_pos c2,aB,ah hk,ae,om,gl,pz,dV hl hk];cases kj l[k].rack 0 9 with
    |false=>exact .inr ⟨rfl,rfl,trivial⟩
    |true=>
     cases kj l[k].capacity 0 9 with
     |false=>exact .inr ⟨rfl,rfl,trivial⟩
     |true=>
      cases kj l[k].load 0 99 with
      |false=>exact .inr ⟨rfl,rfl,trivial⟩
      |true=>exact .inl ⟨rfl,rfl,trivial⟩)
 unfold fq nq fy fS;rcases gm with ⟨k1,k2,_⟩| ⟨k,_,k1,k2,_⟩
 ·rw[show rL ((l,0,()),(),())=_ from k1,show gy ((l,(),(l.length:Int),0,()),(),())=_ from k2];simp only[ae,cP];cases ((l.length:Int)==5)<;>exact⟨_,rfl,rfl⟩
 ·rw[show rL ((l,0,()),(),())=_ from k1,show gy ((l,(),(l.length:Int),0,()),(),())=_ from k2];simp only[ae,cW];rw[decide_eq_true (by omega)];cases ((l.length:Int)==5)<;>exact⟨_,rfl,rfl⟩
theorem Ki (x:Op):vQ (fh x) (nr x):=by unfold fh nr;simp only[gl,pz,ae];cases kj x.client 0 2<;>cases kj x.seq 1 99<;>cases kj x.object 0 2<;>cases kj x.value 0 9<;>cases (x.kind==1)<;>cases (x.kind==2)<;>cases (x.old==0)<;>exact⟨_,rfl,rfl⟩
theorem HB (l:List eb) (hl:l.length<=maxLen): (gJ l=some (true,())/\rz l=some (true,())/\l.length<=16)\/(gJ l=some (false,())/\rz l=some (false,())):=by
 have gm:=nG (B1:=lU) (B2:=qp) l.length (fun k=>((l,(k:Int),()),(),())) (fun k=>((l,l,(l.length:Int),(k:Int),()),(),())) (.inr ((l,(),()),(),())) (.inr ((l,(),()),(),())) (fun _=> .inl ((l,false,()),(),())) (fun _=> .inl ((l,false,()),(),()))
  (fun _=>True) (fun _=>True)
  (by simp only[lU]; rw[ef,if_neg (by omega)])
  (by simp only[qp]; rw[ef,if_neg (by omega)])
  (fun k hk=>by
    have c1: (k:Int)< (l.length:Int):=by omega
    have c2: (0:Int)<=(k:Int):=by omega
    obtain⟨b,v1,v2⟩:=Ki l[k].op;simp only[lU,qp,ef,ek,if_pos c1,if_pos c2,aB,ah hk,ae,v1,v2,gl,pz,dV hl hk,dS];cases kj l[k].epoch 1 20 with
    |false=>exact .inr ⟨rfl,rfl,trivial⟩
    |true=>
     simp only[eg];by_cases h0:0<k
     ·have c3: (k:Int)>0:=by omega
      have c4: (0:Int)<=((k-1:Nat):Int):=by omega
      have e2:l[k-1]? =some l[k-1] :=ah (by omega);simp only[if_pos c3,oy h0 (by omega),if_pos c4,aB,e2,ae];by_cases hlt:l[k].epoch<l[k-1].epoch
      ·rw[if_pos hlt,if_pos (show l[k-1].epoch>l[k].epoch from hlt)];cases b<;>exact .inr ⟨rfl,rfl,trivial⟩
      ·rw[if_neg hlt,if_neg (show ¬l[k-1].epoch>l[k].epoch from hlt)];cases b with
       |false=>exact .inr ⟨rfl,rfl,trivial⟩
       |true=>exact .inl ⟨rfl,rfl,trivial⟩
     ·have c3: ¬ (k:Int)>0:=by omega
      simp only[if_neg c3];cases b with
      |false=>exact .inr ⟨rfl,rfl,trivial⟩
      |true=>exact .inl ⟨rfl,rfl,trivial⟩)
 unfold gJ rz;rcases gm with ⟨k1,k2,_⟩| ⟨k,_,k1,k2,_⟩
 ·rw[show sn ((l,0,()),(),())=_ from k1,show zg ((l,l,(l.length:Int),0,()),(),())=_ from k2];simp only[ae,cP];by_cases h: (l.length:Int)<=16
  ·rw[decide_eq_true h];exact .inl ⟨rfl,rfl,by omega⟩
  ·rw[decide_eq_false h];exact .inr ⟨rfl,rfl⟩
 ·rw[show sn ((l,0,()),(),())=_ from k1,show zg ((l,l,(l.length:Int),0,()),(),())=_ from k2];exact .inr ⟨rfl,rfl⟩
theorem qf (a b:List Int) (ha:a.length<=maxLen):jU a b=some (decide (a=b),())/\kb a b=some (decide (a=b),()):=by
 unfold jU kb kA;by_cases hlen:a.length=b.length
 ·have hbe: (!((a.length:Int)==(b.length:Int)))=false:=by simp[hlen]
  have gm:=nG (B1:=iU) (B2:=jc) a.length (fun k=>((a,b,(k:Int),()),(),())) (fun k=>((a,b,(a.length:Int),(k:Int),()),(),())) (.inr (((),()),(),())) (.inr (((),()),(),())) (fun _=> .inl ((false,()),(),())) (fun _=> .inl ((false,()),(),()))
   (fun k=>a[k]? =b[k]?) (fun k=>a[k]? ≠b[k]?)
   (by simp only[iU]; rw[ef,if_neg (by omega)])
   (by simp only[jc]; rw[ef,if_neg (by omega)])
   (fun k hk=>by
     have c1: (k:Int)< (a.length:Int):=by omega
     have c2: (0:Int)<=(k:Int):=by omega
     simp only[iU,jc,ef,ek,if_pos c1,if_pos c2,aB,ah hk,ah (show k<b.length by omega),ae,dV ha hk,dS,pJ];by_cases he:a[k] =b[k]'(by omega)
     ·simp only[if_pos he];exact .inl ⟨trivial,trivial,by rw[he]⟩
     ·simp only[if_neg he];exact .inr ⟨trivial,trivial,fun h=>he (Option.some.inj h)⟩)
  rw[hbe,eS,eS];rcases gm with ⟨k1,k2,k3⟩| ⟨k,hk,k1,k2,k3⟩
  ·rw[show oC ((a,b,0,()),(),())=_ from k1,show rf ((a,b,(a.length:Int),0,()),(),())=_ from k2]
   have :a=b:=bC fun k=>by
    rcases cN k a.length with h|h
    ·exact k3 k h
    ·rw[b6 h,b6 (by omega)]
   rw[decide_eq_true this];exact⟨rfl,rfl⟩
  ·rw[show oC ((a,b,0,()),(),())=_ from k1,show rf ((a,b,(a.length:Int),0,()),(),())=_ from k2];have :a≠b:=fun h=>k3 (by rw[h]);rw[decide_eq_false this];exact⟨rfl,rfl⟩
 ·have hbe: (!((a.length:Int)==(b.length:Int)))=true:=by
   simp only[bZ,beq_eq_false_iff_ne,ne_eq];omega
  rw[hbe,eg,eg,decide_eq_false (fun h=>hlen (by rw[h]))];exact⟨rfl,rfl⟩
theorem gT (a b:dU) (ha:iR maxLen a):gK a b=some (decide (a=b),())/\gR a b=some (decide (a=b),()):=by unfold gK gR;simp only[(qf a.replicas b.replicas ha.1).1,(qf a.replicas b.replicas ha.1).2,(qf a.witnesses b.witnesses ha.2).1,(qf a.witnesses b.witnesses ha.2).2,ae,pJ,ef];obtain⟨a1,a2,a3,a4⟩:=a;obtain⟨b1,b2,b3,b4⟩:=b;simp only[dU.mk.injEq];by_cases h1:a1=b1<;>by_cases h2:a2=b2<;>by_cases h3:a3=b3<;>by_cases h4:a4=b4<;>simp[h1,h2,h3,h4]
theorem sU (l:List eb) (hl:l.length<=maxLen): ∃n,nk l=some (n,())/\nu l=some (n,()):=by
 unfold nk nu;rcases be l.length with h|h
 ·have : ((l.length:Int)==0)=true:=by simp[h]
  rw[this];exact⟨_,rfl,rfl⟩
 ·have : ((l.length:Int)==0)=false:=by
   simp only[beq_eq_false_iff_ne,ne_eq];omega
  rw[this,eS,oy h hl,hU (by omega),aB,ah (show l.length-1<l.length by omega)];exact⟨_,rfl,rfl⟩
theorem wY (c:dU) (x:Int) (h:iR maxLen c): ∃n,kK c x=some (n,())/\sQ c x=some (n,())/\(n=0\/n=1\/n=2\/n=3):=by unfold kK sQ;obtain⟨b,v1,v2⟩:=pA c h;simp only[v1,v2,ae,(gf c.replicas x h.1).1,(gf c.replicas x h.1).2,(gf c.witnesses x h.2).1,(gf c.witnesses x h.2).2];cases b<;>cases (x==c.primary)<;>cases decide (x∈c.replicas)<;>cases decide (x∈c.witnesses)<;>exact⟨_,rfl,rfl,by decide⟩
end Go.Proofs.YtlaicbcfjcplhaaGreat.En
namespace Go.Proofs.YtlaicbcfjcplhaaGreat.En
open Go
theorem eV {c:dU} (h:iR 1048576 c):iR maxLen c:=⟨eD h.1,eD h.2⟩
theorem kh {m:dY} (h:ri 1048576 m):ri maxLen m:=⟨eD h.1,fun c hc=>eV (h.2 c hc)⟩
theorem vA (c:dU) (h:iR maxLen c):kT c=some (decide (c=⟨0,0,[],[]⟩),()):=by unfold kT;rw[(gT c _ h).1];rfl
theorem rC (s:dT) (id:Int) (h:gr 1048576 s):vQ (eX s id) (jr s id):=by
 have hc:=eV h.1;unfold eX jr;simp only[gl,pz,ae,dS];cases kj s.version 1 2 with
 |false=>exact⟨_,rfl,rfl⟩
 |true=>
 cases kj s.epoch 0 20 with
 |false=>exact⟨_,rfl,rfl⟩
 |true=>
 rcases HB s.log (eD h.2.1) with ⟨a1,a2,a3⟩| ⟨a1,a2⟩
 case inr=>simp only[a1,a2,ae,eg,eS]; exact⟨_,rfl,rfl⟩
 rcases HB s.learned (eD h.2.2) with ⟨b1,b2,b3⟩| ⟨b1,b2⟩
 case inr=>simp only[a1,a2,b1,b2,ae,eg,eS]; exact⟨_,rfl,rfl⟩
 simp only[a1,a2,b1,b2,ae,eg];cases hw:kj s.first 0 16 with
 |false=>exact⟨_,rfl,rfl⟩
 |true=>
 have hf:=ey.1 hw;rw[eL (n:=s.first+(s.log.length:Int)) (by omega) (by omega)];by_cases h16:s.first+(s.log.length:Int)<=16
 case neg=>
  have e1:kj (s.first+(s.log.length:Int)) 0 16=false:=by unfold kj; simp; omega
  simp only[e1,eg,eS,ef,if_pos (show s.first+(s.log.length:Int)>16 by omega)];exact⟨_,rfl,rfl⟩
 have e1:kj (s.first+(s.log.length:Int)) 0 16=true:=ey.2 ⟨by omega,h16⟩;simp only[e1,eg,ef,if_neg (show ¬s.first+(s.log.length:Int)>16 by omega),vA s.config hc,(gT s.config ⟨0,0,[],[]⟩ hc).2,ae];cases kj s.commit 0 (s.first+(s.log.length:Int)) with
 |false=>exact⟨_,rfl,rfl⟩
 |true=>
 simp only[eg];by_cases hz:s.config=⟨0,0,[],[]⟩
 ·simp only[if_pos hz];cases (s.first==0)<;>cases (s.commit==0)<;>cases ((s.log.length:Int)==0)<;>exact⟨_,rfl,rfl⟩
 ·simp only[if_neg hz];cases s.intact with
  |false=>exact⟨_,rfl,rfl⟩
  |true=>
  simp only[eg];by_cases he:s.epoch<s.config.epoch
  ·simp only[if_pos he];exact⟨_,rfl,rfl⟩
  ·simp only[if_neg he];obtain⟨n,n1,n2⟩:=sU s.log (eD h.2.1);simp only[n1,n2,ae];by_cases hn:n>s.config.epoch
   ·simp only[if_pos hn];exact⟨_,rfl,rfl⟩
   ·simp only[if_neg hn];obtain⟨r,r1,r2,r3⟩:=wY s.config id hc;simp only[r1,r2,ae];rcases r3 with rfl|rfl|rfl|rfl
    ·exact⟨_,rfl,rfl⟩
    ·exact⟨_,rfl,rfl⟩
    ·exact⟨_,rfl,rfl⟩
    ·have ht:u3 s.first s.log=some (decide ((s.log.length:Int)<=3)&&((s.first==0)||((s.log.length:Int)==3)),()):=by
      unfold u3;simp only[a2,pz,ae,eg,ef];rw[eL (by omega) (by omega),show kj s.first 0 (16-(s.log.length:Int))=true from ey.2 ⟨by omega,by omega⟩];by_cases h3: (s.log.length:Int)<=3
      ·rw[if_pos h3,decide_eq_true h3];cases (s.first==0)<;>cases ((s.log.length:Int)==3)<;>rfl
      ·rw[if_neg h3,decide_eq_false h3];rfl
     rw[ht];by_cases h3: (s.log.length:Int)<=3
     ·rw[if_pos h3,decide_eq_true h3];cases (s.first==0)<;>cases ((s.log.length:Int)==3)<;>exact⟨_,rfl,rfl⟩
     ·rw[if_neg h3,decide_eq_false h3];exact⟨_,rfl,rfl⟩
theorem ya (m:dY) (e:Int) (h:ri 1048576 m): ∃c b,i9 m e=some (c,b,())/\m8 m e=some (c,b,())/\iR maxLen c:=by
 obtain⟨b,m1,m2⟩:=masterLog m (kh h);have zero:iR maxLen ⟨0,0,[],[]⟩:=⟨aA _,aA _⟩
 have hl:=h.1;unfold i9 m8;simp only[m1,m2,gl,pz,ae,dS];cases b with
 |false=>exact⟨_,_,rfl,rfl,zero⟩
 |true=>
  cases hw:kj e 1 (m.configs.length:Int) with
  |false=>exact⟨_,_,rfl,rfl,zero⟩
  |true=>
   have hw:=ey.1 hw;simp only[eg];rw[eL (n:=e-1) (by omega) (by omega)];have hlt: (e-1).toNat<m.configs.length:=by omega
   have hk:=h.2 _ (bu hlt)
   have copy: ∀c:dU,iR 1048576 c->jT c=some (c,())/\gO c=some (c,()):=by intro c hc;unfold jT gO;simp only[aZ];rw[hU (l8 hc.1),hU (l8 hc.2)];exact⟨rfl,rfl⟩
   rw[hU (by omega),hU (by omega),ah hlt];simp only[ae,(copy _ hk).1,(copy _ hk).2];exact⟨_,_,rfl,rfl,eV hk⟩
theorem ik (x:dR) (h:fO 1048576 x):vQ (dX x) (ke x):=by
 obtain⟨⟨hs1,hs2⟩,hsd,hml,hpl⟩:=h;have hm:=eD hs1
 have gm:=nG (B1:=ej) (B2:=ii) x.servers.length (fun k=>(((),(k:Int),()),((x.now,x.servers,x.sides,x.master.configs,x.master.activated,x.masterUp,x.lease.epoch,x.lease.holder,x.lease.ends,x.places,()),()),())) (fun k=>(((),x.servers,(x.servers.length:Int),(k:Int),()),((x.now,x.servers,x.sides,x.master.configs,x.master.activated,x.masterUp,x.lease.epoch,x.lease.holder,x.lease.ends,x.places,()),()),())) (.inr (((),()),(),())) (.inr (((),()),(),())) (fun _=> .inl ((false,()),(),())) (fun _=> .inl ((false,()),(),()))
  (fun _=>True) (fun _=>True)
  (by simp only[ej]; rw[ef,if_neg (by omega)])
  (by simp only[ii]; rw[ef,if_neg (by omega)])
  (fun k hk=>by
    have c1: (k:Int)< (x.servers.length:Int):=by omega
    have c2: (0:Int)<=(k:Int):=by omega
    have hsk:=hs2 _ (bu hk);obtain⟨b,v1,v2⟩:=rC x.servers[k] (k:Int) hsk;obtain⟨n,n1,n2⟩:=sU x.servers[k].learned (eD hsk.2.2);obtain⟨c,d,d1,d2,d3⟩:=ya x.master x.servers[k].config.epoch hml;have hcfg:=eV hsk.1
    simp only[ej,ii,ef,ek,if_pos c1,if_pos c2,aB,ah hk,ae,v1,v2,n1,n2,dV hm hk,dS,
     show (⟨x.master.configs,x.master.activated⟩:dY)=x.master from rfl,d1,d2,vA _ hcfg,(gT _ (⟨0,0,[],[]⟩:dU) hcfg).2,(gT c x.servers[k].config d3).1,(gT c x.servers[k].config d3).2]
    cases b with
    |false=>exact .inr ⟨rfl,rfl,trivial⟩
    |true=>
     simp only[eg];by_cases h1:x.servers[k].epoch>(x.master.configs.length:Int)
     ·simp only[if_pos h1];exact .inr ⟨trivial,trivial,trivial⟩
     ·simp only[if_neg h1];by_cases h2:n>x.master.activated
      ·simp only[if_pos h2];exact .inr ⟨trivial,trivial,trivial⟩
      ·simp only[if_neg h2];by_cases h3:x.servers[k].config=⟨0,0,[],[]⟩
       ·simp only[if_pos h3];exact .inl ⟨trivial,trivial,trivial⟩
       ·simp only[if_neg h3];cases d with
        |false=>exact .inr ⟨rfl,rfl,trivial⟩
        |true=>
         simp only[eg];by_cases h4:c=x.servers[k].config
         ·simp only[if_pos h4];by_cases h5:x.servers[k].config.epoch>x.master.activated
          ·simp only[if_pos h5];exact .inr ⟨trivial,trivial,trivial⟩
          ·simp only[if_neg h5];exact .inl ⟨trivial,trivial,trivial⟩
         ·simp only[if_neg h4];exact .inr ⟨trivial,trivial,trivial⟩)
 unfold dX ke;obtain⟨b1,a1,a2⟩:=u6 x.sides (eD hsd);obtain⟨b2,m1,m2⟩:=masterLog x.master (kh hml);obtain⟨b3,l1,l2⟩:=rB x.lease;obtain⟨b4,p1,p2⟩:=qq x.places (eD hpl);simp only[gl,pz,a1,a2,m1,m2,l1,l2,p1,p2,ae,dS,ef];cases kj x.now 0 999 with
 |false=>exact⟨_,rfl,rfl⟩
 |true=>
 cases ((x.servers.length:Int)==5) with
 |false=>exact⟨_,rfl,rfl⟩
 |true=>
 cases b1 with
 |false=>exact⟨_,rfl,rfl⟩
 |true=>
 cases b2 with
 |false=>exact⟨_,rfl,rfl⟩
 |true=>
 cases kj x.masterUp 0 3 with
 |false=>cases b3<;>cases b4<;>exact⟨_,rfl,rfl⟩
 |true=>
 cases b3 with
 |false=>exact⟨_,rfl,rfl⟩
 |true=>
 cases b4 with
 |false=>exact⟨_,rfl,rfl⟩
 |true=>
 simp only[eg];by_cases h1:x.lease.epoch>x.master.activated
 ·simp only[if_pos h1];exact⟨_,rfl,rfl⟩
 ·simp only[if_neg h1];rcases gm with ⟨k1,k2,_⟩| ⟨k,_,k1,k2,_⟩
  ·rw[show ia (((),0,()),((x.now,x.servers,x.sides,x.master.configs,x.master.activated,x.masterUp,x.lease.epoch,x.lease.holder,x.lease.ends,x.places,()),()),())=_ from k1,show m9 (((),x.servers,(x.servers.length:Int),0,()),((x.now,x.servers,x.sides,x.master.configs,x.master.activated,x.masterUp,x.lease.epoch,x.lease.holder,x.lease.ends,x.places,()),()),())=_ from k2];exact⟨_,rfl,rfl⟩
  ·rw[show ia (((),0,()),((x.now,x.servers,x.sides,x.master.configs,x.master.activated,x.masterUp,x.lease.epoch,x.lease.holder,x.lease.ends,x.places,()),()),())=_ from k1,show m9 (((),x.servers,(x.servers.length:Int),0,()),((x.now,x.servers,x.sides,x.master.configs,x.master.activated,x.masterUp,x.lease.epoch,x.lease.holder,x.lease.ends,x.places,()),()),())=_ from k2];exact⟨_,rfl,rfl⟩
end Go.Proofs.YtlaicbcfjcplhaaGreat.En
namespace Go.Proofs.YtlaicbcfjcplhaaGreat.En
open Go
theorem yb {c:dU} (h:iR maxLen c) (hv:eB c=some (true,())):rA c.replicas/\rA c.witnesses/\c.primary∈c.replicas/\1<=c.epoch/\c.epoch<=20/\ ∀x∈c.replicas,x∉c.witnesses:=by
 unfold eB at hv;simp only[gl,ae] at hv;cases hw:kj c.epoch 1 20 with
 |false=>rw[hw] at hv; cases hv
 |true=>
  rw[hw] at hv;rcases tI c.replicas h.1 with ⟨a1,a2,a3⟩| ⟨a1,a2⟩
  ·rcases tI c.witnesses h.2 with ⟨b1,b2,b3⟩| ⟨b1,b2⟩
   ·simp only[a1,b1,ae,eg,(gf c.replicas c.primary h.1).1,x0 _ _ a3 h.2,ef] at hv;by_cases hp:c.primary∈c.replicas
    ·rw[if_pos hp] at hv;refine⟨a3,b3,hp,(ey.1 hw).1,(ey.1 hw).2,fun x hx hxw=> ?_⟩
     have hz: ((((c.replicas.filter fun x=>decide (x∈c.witnesses)).length:Nat):Int)==0)=true:=by simpa using hv
     have hz: (c.replicas.filter fun x=>decide (x∈c.witnesses)).length=0:=by simp only[beq_iff_eq] at hz;omega
     have:=bo hz;have hm:x∈c.replicas.filter fun x=>decide (x∈c.witnesses):=by simp[cF,hx,hxw]
     rw[this] at hm;cases hm
    ·rw[if_neg hp] at hv; cases hv
   ·simp only[a1,b1,ae,eg,eS] at hv; cases hv
  ·simp only[a1,ae,eg,eS] at hv; cases hv
theorem AE {m:dY} (h:ri maxLen m) (hv:fv m=some (true,())): (∀k (hk:k<m.configs.length),eB m.configs[k] =some (true,())/\m.configs[k].epoch=(k:Int)+1)/\0<=m.activated/\m.activated<=(m.configs.length:Int):=by
 obtain⟨hl,hc⟩:=h
 have gm:=nG (B1:=fr) (B2:=fr) m.configs.length (fun k=>(((),(k:Int),()),((m.configs,m.activated,()),()),())) (fun k=>(((),(k:Int),()),((m.configs,m.activated,()),()),())) (.inr (((),(),()),((m.configs,m.activated,()),()),())) (.inr (((),(),()),((m.configs,m.activated,()),()),())) (fun _=> .inl (((),false,()),((m.configs,m.activated,()),()),())) (fun _=> .inl (((),false,()),((m.configs,m.activated,()),()),()))
  (fun k=> ∀hk:k<m.configs.length,eB m.configs[k] =some (true,())/\m.configs[k].epoch=(k:Int)+1) (fun _=>True)
  (by simp only[fr]; rw[ef,if_neg (by omega)])
  (by simp only[fr]; rw[ef,if_neg (by omega)])
  (fun k hk=>by
    have c1: (k:Int)< (m.configs.length:Int):=by omega
    have c2: (0:Int)<=(k:Int):=by omega
    obtain⟨b,v1,v2⟩:=pA m.configs[k] (hc _ (bu hk))
    have step:fr (((),(k:Int),()),((m.configs,m.activated,()),()),())=br b (br (m.configs[k].epoch==((k+1:Nat):Int)) (some (.inl (((),((k+1:Nat):Int),()),((m.configs,m.activated,()),()),()))) (some (.inr (.inl (((),false,()),((m.configs,m.activated,()),()),()))))) (some (.inr (.inl (((),false,()),((m.configs,m.activated,()),()),())))):=by simp only[fr,ef,ek,if_pos c1,if_pos c2,aB,ah hk,ae,v1,dV hl hk,dS]
    rw[step];cases b with
    |false=>exact .inr ⟨rfl,rfl,trivial⟩
    |true=>
     rw[eg,pJ];by_cases he:m.configs[k].epoch=((k+1:Nat):Int)
     ·rw[if_pos he];exact .inl ⟨rfl,rfl,fun _=>⟨v1,by omega⟩⟩
     ·rw[if_neg he];exact .inr ⟨rfl,rfl,trivial⟩)
 unfold fv at hv;rcases gm with ⟨k1,_,k3⟩| ⟨k,_,k1,_,_⟩
 ·rw[show kJ (((),0,()),((m.configs,m.activated,()),()),())=_ from k1] at hv;simp only[ae,cP,gl,af,an,and_true] at hv;exact⟨fun k hk=>k3 k hk hk,(ey.1 hv).1,(ey.1 hv).2⟩
 ·rw[show kJ (((),0,()),((m.configs,m.activated,()),()),())=_ from k1] at hv;cases hv
theorem HC {s:dT} {id:Int} (h:gr 1048576 s) (hv:eX s id=some (true,())):0<=s.first/\s.first<=16/\s.log.length<=16/\0<=s.commit/\s.commit<=s.first+(s.log.length:Int)/\gJ s.log=some (true,())/\gJ s.learned=some (true,())/\0<=s.epoch/\s.epoch<=20:=by
 unfold eX at hv;simp only[gl,ae,dS] at hv;cases h1:kj s.version 1 2 with
 |false=>rw[h1] at hv; cases hv
 |true=>
 cases h2:kj s.epoch 0 20 with
 |false=>rw[h1,h2] at hv; cases hv
 |true=>
 rw[h1,h2] at hv;rcases HB s.log (eD h.2.1) with ⟨a1,a2,a3⟩| ⟨a1,a2⟩
 case inr=>simp only[a1,ae,eg,eS] at hv; cases hv
 rcases HB s.learned (eD h.2.2) with ⟨b1,b2,b3⟩| ⟨b1,b2⟩
 case inr=>simp only[a1,b1,ae,eg,eS] at hv; cases hv
 simp only[a1,b1,ae,eg] at hv;cases hw:kj s.first 0 16 with
 |false=>rw[hw] at hv; cases hv
 |true=>
 have hf:=ey.1 hw;rw[hw,eL (n:=s.first+(s.log.length:Int)) (by omega) (by omega)] at hv;simp only[eg] at hv;cases h3:kj (s.first+(s.log.length:Int)) 0 16 with
 |false=>rw[h3] at hv; cases hv
 |true=>
 cases h4:kj s.commit 0 (s.first+(s.log.length:Int)) with
 |false=>rw[h3,h4] at hv; cases hv
 |true=>
 exact⟨hf.1,hf.2,a3,(ey.1 h4).1,(ey.1 h4).2,a1,b1,(ey.1 h2).1,(ey.1 h2).2⟩
structure VC (x:dR):Prop where
 len:x.servers.length=5
 ml:fv x.master=some (true,())
 sides:i8 x.sides=some (true,())
 places:fq x.places=some (true,())
 lease:iw x.lease=some (true,())
 now:0<=x.now/\x.now<=999
 up:0<=x.masterUp/\x.masterUp<=3
 srv: ∀k (hk:k<x.servers.length),eX x.servers[k] (k:Int)=some (true,())
theorem iK {x:dR} (h:fO 1048576 x) (hv:dX x=some (true,())):VC x:=by
 obtain⟨⟨hs1,hs2⟩,hsd,hml,hpl⟩:=h;have hm:=eD hs1
 have gm:=nG (B1:=ej) (B2:=ej) x.servers.length (fun k=>(((),(k:Int),()),((x.now,x.servers,x.sides,x.master.configs,x.master.activated,x.masterUp,x.lease.epoch,x.lease.holder,x.lease.ends,x.places,()),()),())) (fun k=>(((),(k:Int),()),((x.now,x.servers,x.sides,x.master.configs,x.master.activated,x.masterUp,x.lease.epoch,x.lease.holder,x.lease.ends,x.places,()),()),())) (.inr (((),()),(),())) (.inr (((),()),(),())) (fun _=> .inl ((false,()),(),())) (fun _=> .inl ((false,()),(),()))
  (fun k=> ∀hk:k<x.servers.length,eX x.servers[k] (k:Int)=some (true,())) (fun _=>True)
  (by simp only[ej]; rw[ef,if_neg (by omega)])
  (by simp only[ej]; rw[ef,if_neg (by omega)])
  (fun k hk=>by
    have c1: (k:Int)< (x.servers.length:Int):=by omega
    have c2: (0:Int)<=(k:Int):=by omega
    have hsk:=hs2 _ (bu hk);obtain⟨b,v1,v2⟩:=rC x.servers[k] (k:Int) hsk;obtain⟨n,n1,n2⟩:=sU x.servers[k].learned (eD hsk.2.2);obtain⟨c,d,d1,d2,d3⟩:=ya x.master x.servers[k].config.epoch hml;have hcfg:=eV hsk.1
    have step:ej (((),(k:Int),()),((x.now,x.servers,x.sides,x.master.configs,x.master.activated,x.masterUp,x.lease.epoch,x.lease.holder,x.lease.ends,x.places,()),()),())=some (.inr (.inl ((false,()),(),())))\/(b=true/\ej (((),(k:Int),()),((x.now,x.servers,x.sides,x.master.configs,x.master.activated,x.masterUp,x.lease.epoch,x.lease.holder,x.lease.ends,x.places,()),()),())=some (.inl (((),((k+1:Nat):Int),()),((x.now,x.servers,x.sides,x.master.configs,x.master.activated,x.masterUp,x.lease.epoch,x.lease.holder,x.lease.ends,x.places,()),()),()))):=by
     simp only[ej,ef,ek,if_pos c1,if_pos c2,aB,ah hk,ae,v1,n1,dV hm hk,dS,
      show (⟨x.master.configs,x.master.activated⟩:dY)=x.master from rfl,d1,vA _ hcfg,(gT c x.servers[k].config d3).1]
     cases b with
     |false=>exact .inl rfl
     |true=>
      simp only[eg]
      repeat' split
      all_goals first |exact .inl trivial|exact .inr ⟨trivial,trivial⟩| (cases d<;>first |exact .inl rfl| (simp only[eg]; repeat' split)<;>first |exact .inl trivial|exact .inr ⟨trivial,trivial⟩)
    rcases step with h1| ⟨rfl,h1⟩
    ·rw[h1]; exact .inr ⟨rfl,rfl,trivial⟩
    ·rw[h1]; exact .inl ⟨rfl,rfl,fun _=>v1⟩)
 unfold dX at hv;obtain⟨b1,a1,a2⟩:=u6 x.sides (eD hsd);obtain⟨b2,m1,m2⟩:=masterLog x.master (kh hml);obtain⟨b3,l1,l2⟩:=rB x.lease;obtain⟨b4,p1,p2⟩:=qq x.places (eD hpl);simp only[gl,a1,m1,l1,p1,ae,dS,ef] at hv;cases h1:kj x.now 0 999 with
 |false=>rw[h1] at hv; cases hv
 |true=>
 cases h2: ((x.servers.length:Int)==5) with
 |false=>rw[h1,h2] at hv; cases hv
 |true=>
 cases b1 with
 |false=>rw[h1,h2] at hv; cases hv
 |true=>
 cases b2 with
 |false=>rw[h1,h2] at hv; cases hv
 |true=>
 cases h3:kj x.masterUp 0 3 with
 |false=>rw[h1,h2,h3] at hv; cases hv
 |true=>
 cases b3 with
 |false=>rw[h1,h2,h3] at hv; cases hv
 |true=>
 cases b4 with
 |false=>rw[h1,h2,h3] at hv; cases hv
 |true=>
 rw[h1,h2,h3] at hv;simp only[eg] at hv;by_cases h4:x.lease.epoch>x.master.activated
 ·rw[if_pos h4] at hv; cases hv
 ·rw[if_neg h4] at hv;rcases gm with ⟨k1,_,k3⟩| ⟨k,_,k1,_,_⟩
  ·refine⟨?_,m1,a1,p1,l1,ey.1 h1,ey.1 h3,fun k hk=>k3 k hk hk⟩;simp only[beq_iff_eq] at h2;omega
  ·rw[show ia (((),0,()),((x.now,x.servers,x.sides,x.master.configs,x.master.activated,x.masterUp,x.lease.epoch,x.lease.holder,x.lease.ends,x.places,()),()),())=_ from k1] at hv;cases hv
end Go.Proofs.YtlaicbcfjcplhaaGreat.En
namespace Go.Proofs.YtlaicbcfjcplhaaGreat.En
open Go
end Go.Proofs.YtlaicbcfjcplhaaGreat.En
namespace Go.Proofs.YtlaicbcfjcplhaaGreat.En
open Go
section
variable {α:Type}
def Q5 (w:α->Int):List α->Int
 | [] =>0
 |x::l=>w x+Q5 w l
def HD (l:List α):Int:=(l.length:Int)
end
def Sd (c:dU):Int:=HD c.replicas+HD c.witnesses
def Tg (s:dT):Int:=Sd s.config+HD s.log+HD s.learned
def TG (m:dY):Int:=HD m.configs+Q5 Sd m.configs
def TH (l:List dT):Int:=HD l+Q5 Tg l
def SJ (c:dR):Int:=TH c.servers+HD c.sides+TG c.master+HD c.places
end Go.Proofs.YtlaicbcfjcplhaaGreat.En
namespace Go.Proofs.YtlaicbcfjcplhaaGreat.En
open Go
end Go.Proofs.YtlaicbcfjcplhaaGreat.En
namespace Go.Proofs.YtlaicbcfjcplhaaGreat.En
open Go
theorem Cx {n c:Nat} (h:n<=1048577) (hc:c<=1000):n*c<=2 ^ 40:=by
 have h1:n*c<=1048577*1000:=Nat.mul_le_mul h hc;have h2: (2:Nat) ^ 40=1099511627776:=by decide
 omega
theorem vB (c:dU) (h:iR 1048576 c):jT c=some (c,())/\gO c=some (c,()):=by have a:=h.1;have b:=h.2;unfold jT gO;simp only[aZ,ek,if_pos (Cx (cd a) (show 8<=1000 by decide)),if_pos (Cx (cd b) (show 8<=1000 by decide))];exact⟨trivial,trivial⟩
theorem vC (l:List eb) (h:l.length<=1048576):iq l=some (l,())/\lF l=some (l,()):=by unfold iq lF;simp only[aZ,ek,if_pos (Cx (cd h) (show 56<=1000 by decide))];exact⟨trivial,trivial⟩
theorem Py (l:List Int) (h:l.length<=1048576):lZ l=some (l,()):=by unfold lZ;simp only[ek,if_pos (Cx (cd h) (show 8<=1000 by decide))]
theorem Jb (l:List eG) (h:l.length<=1048576):oc l=some (l,()):=by unfold oc;simp only[ek,if_pos (Cx (cd h) (show 24<=1000 by decide))]
theorem AF (s:dT) (h:gr 1048576 s):jj s=some (s,())/\oa s=some (s,()):=by unfold jj oa;simp only[(vB _ h.1).1,(vB _ h.1).2,(vC _ h.2.1).1,(vC _ h.2.1).2,(vC _ h.2.2).1,(vC _ h.2.2).2,ae];exact⟨trivial,trivial⟩
theorem o8 {α:Type} {l:List α} {k:Nat} {x:α} (h:l[k]? =some x):l.take (k+1)=l.take k++ [x] :=by rw[bM,h]; rfl
theorem qg {α:Type} (l:List α) (k:Nat) (x:α) (h:l.length<=1048576): (l.take k++ [x]).length<=1048577:=by rw[az,aY,ax];omega
theorem Fw (m:dY) (h:ri 1048576 m):oB m=some (m,())/\ob m=some (m,()):=by
 obtain⟨hl,hc⟩:=h
 have k1:=mf (B:=ni) m.configs (fun k (b:List dU)=>(((),(),(),(k:Int),()),((m.configs,m.activated,()),((),0,()),((),m.activated,()),()),(b,()))) (fun k b=>b=m.configs.take k) (fun _ _ _=>(((),(),()),(((),0,()),((),m.activated,()),()),(m.configs,())))
  (fun b hb=>by simp only[ni];rw[ef,if_neg (by omega),hb,bU])
  (fun k b c hx hb=>by
    have hk:=la hx;have c1: (k:Int)< (m.configs.length:Int):=by omega
    have c2: (0:Int)<=(k:Int):=by omega
    subst hb;refine .inl ⟨m.configs.take (k+1),?_,rfl,rfl⟩;simp only[ni,ef,ek,if_pos c1,if_pos c2,aB,hx,ae,(vB c (hc c (aw hx))).1,dV (eD hl) hk,if_pos (Cx (qg m.configs k c hl) (show 64<=1000 by decide)),o8 hx])
  0 [] (aA _) rfl
 have k2:=mf (B:=j8) m.configs (fun k (b:List dU)=>(((),(),m.configs,(m.configs.length:Int),(k:Int),()),(((),0,()),((),m.activated,()),()),(b,()))) (fun k b=>b=m.configs.take k) (fun _ _ _=>(((),(),()),(((),0,()),((),m.activated,()),()),(m.configs,())))
  (fun b hb=>by simp only[j8];rw[ef,if_neg (by omega),hb,bU])
  (fun k b c hx hb=>by
    have hk:=la hx;have c1: (k:Int)< (m.configs.length:Int):=by omega
    have c2: (0:Int)<=(k:Int):=by omega
    subst hb;refine .inl ⟨m.configs.take (k+1),?_,rfl,rfl⟩;simp only[j8,ef,ek,if_pos c1,if_pos c2,aB,hx,ae,(vB c (hc c (aw hx))).2,dV (eD hl) hk,if_pos (Cx (qg m.configs k c hl) (show 64<=1000 by decide)),o8 hx])
  0 [] (aA _) rfl
 unfold oB ob;rw[show zN (((),(),(),0,()),((m.configs,m.activated,()),((),0,()),((),m.activated,()),()),(([]:List dU),()))=_ from k1,show uV (((),(),m.configs,(m.configs.length:Int),0,()),(((),0,()),((),m.activated,()),()),(([]:List dU),()))=_ from k2];exact⟨rfl,rfl⟩
theorem ir (x:dR) (ok:fO 1048576 x):eT x=some (x,())/\kX x=some (x,()):=by
 obtain⟨⟨hl,hs⟩,hsd,hml,hpl⟩:=ok
 have k1:=mf (B:=nj) x.servers (fun k (b:List dT)=>(((),(),(),(k:Int),()),((x.now,x.servers,x.sides,x.master.configs,x.master.activated,x.masterUp,x.lease.epoch,x.lease.holder,x.lease.ends,x.places,()),(0,(),(),(),0,0,0,0,0,(),()),(x.now,(),x.sides,x.master.configs,x.master.activated,x.masterUp,x.lease.epoch,x.lease.holder,x.lease.ends,x.places,()),()),(b,()))) (fun k b=>b=x.servers.take k) (fun _ _ _=>(((),(),(),()),((x.now,x.servers,x.sides,x.master.configs,x.master.activated,x.masterUp,x.lease.epoch,x.lease.holder,x.lease.ends,x.places,()),(0,(),(),(),0,0,0,0,0,(),()),(x.now,(),x.sides,x.master.configs,x.master.activated,x.masterUp,x.lease.epoch,x.lease.holder,x.lease.ends,x.places,()),()),(x.servers,())))
  (fun b hb=>by simp only[nj];rw[ef,if_neg (by omega),hb,bU])
  (fun k b c hx hb=>by
    have hk:=la hx;have c1: (k:Int)< (x.servers.length:Int):=by omega
    have c2: (0:Int)<=(k:Int):=by omega
    subst hb;refine .inl ⟨x.servers.take (k+1),?_,rfl,rfl⟩;simp only[nj,ef,ek,if_pos c1,if_pos c2,aB,hx,ae,(AF c (hs c (aw hx))).1,dV (eD hl) hk,if_pos (Cx (qg x.servers k c hl) (show 152<=1000 by decide)),o8 hx])
  0 [] (aA _) rfl
 have k2:=mf (B:=jn) x.servers (fun k (b:List dT)=>(((),(),(),x.servers,(x.servers.length:Int),(k:Int),()),((x.now,x.servers,x.sides,x.master.configs,x.master.activated,x.masterUp,x.lease.epoch,x.lease.holder,x.lease.ends,x.places,()),(0,(),(),(),0,0,0,0,0,(),()),(x.now,(),x.sides,x.master.configs,x.master.activated,x.masterUp,x.lease.epoch,x.lease.holder,x.lease.ends,x.places,()),()),(b,()))) (fun k b=>b=x.servers.take k) (fun _ _ _=>(((),(),(),()),((x.now,x.servers,x.sides,x.master.configs,x.master.activated,x.masterUp,x.lease.epoch,x.lease.holder,x.lease.ends,x.places,()),(0,(),(),(),0,0,0,0,0,(),()),(x.now,(),x.sides,x.master.configs,x.master.activated,x.masterUp,x.lease.epoch,x.lease.holder,x.lease.ends,x.places,()),()),(x.servers,())))
  (fun b hb=>by simp only[jn];rw[ef,if_neg (by omega),hb,bU])
  (fun k b c hx hb=>by
    have hk:=la hx;have c1: (k:Int)< (x.servers.length:Int):=by omega
    have c2: (0:Int)<=(k:Int):=by omega
    subst hb;refine .inl ⟨x.servers.take (k+1),?_,rfl,rfl⟩;simp only[jn,ef,ek,if_pos c1,if_pos c2,aB,hx,ae,(AF c (hs c (aw hx))).2,dV (eD hl) hk,if_pos (Cx (qg x.servers k c hl) (show 152<=1000 by decide)),o8 hx])
  0 [] (aA _) rfl
 unfold eT kX
 rw[show zP (((),(),(),0,()),((x.now,x.servers,x.sides,x.master.configs,x.master.activated,x.masterUp,x.lease.epoch,x.lease.holder,x.lease.ends,x.places,()),(0,(),(),(),0,0,0,0,0,(),()),(x.now,(),x.sides,x.master.configs,x.master.activated,x.masterUp,x.lease.epoch,x.lease.holder,x.lease.ends,x.places,()),()),(([]:List dT),()))=_ from k1,
  show t5 (((),(),(),x.servers,(x.servers.length:Int),0,()),((x.now,x.servers,x.sides,x.master.configs,x.master.activated,x.masterUp,x.lease.epoch,x.lease.holder,x.lease.ends,x.places,()),(0,(),(),(),0,0,0,0,0,(),()),(x.now,(),x.sides,x.master.configs,x.master.activated,x.masterUp,x.lease.epoch,x.lease.holder,x.lease.ends,x.places,()),()),(([]:List dT),()))=_ from k2]
 have em: (⟨x.master.configs,x.master.activated⟩:dY)=x.master:=rfl;simp only[ae,aZ,em,(Fw _ hml).1,(Fw _ hml).2,Py _ hsd,Jb _ hpl,ek,if_pos (Cx (cd hsd) (show 8<=1000 by decide)),if_pos (Cx (cd hpl) (show 24<=1000 by decide))];exact⟨trivial,trivial⟩
theorem Fx (x:dR) (id:Int) (ok:fO 1048576 x): ∃b,kW x id=some (b,())/\gq x id=some (b,())/\(b=true->dX x=some (true,())/\0<=id/\id<5):=by
 obtain⟨v,v1,v2⟩:=ik x ok;unfold kW gq;simp only[v1,v2,ae,gl,pz];cases v with
 |false=>exact⟨false,rfl,rfl,nofun⟩
 |true=>refine⟨kj id 0 4,rfl,rfl,fun h=>⟨rfl,?_⟩⟩;have:=ey.1 h;omega
end Go.Proofs.YtlaicbcfjcplhaaGreat.En
namespace Go.Proofs.YtlaicbcfjcplhaaGreat.En
open Go
end Go.Proofs.YtlaicbcfjcplhaaGreat.En
namespace Go.Proofs.YtlaicbcfjcplhaaGreat.En
open Go
def SS (l:List Int):Prop:=l.Pairwise (· < ·)
theorem Nw {A B:List Int} {x:Int} (h:SS (A++B)) (ha: ∀y∈A,y<x) (hb: ∀y∈B,x<y):SS (A++ [x] ++B):=by
 obtain⟨h1,h2,h3⟩:=db.1 h;refine db.2 ⟨db.2 ⟨h1,dp _ _,fun a h b hb'=> ?_⟩,h2,fun a h b hb'=> ?_⟩
 ·rw[aE.1 hb'];exact ha a h
 ·rcases bf.1 h with h|h
  ·exact h3 a h b hb'
  ·rw[aE.1 h];exact hb b hb'
theorem Pz (l:List Int) (x:Int) (hl:l.length<=1000) (hs:SS l): ∃r,jR l x=some (r,())/\SS r/\(∀y,y∈r↔y=x\/y∈l)/\r.length<=l.length+1/\(x∉l->r.length=l.length+1):=by
 have hm:l.length<=maxLen:=by unfold maxLen; omega
 rcases u5 (B:=lT) l.length (fun k=>((l,x,(k:Int),()),(),())) ((l,x,(l.length:Int),()),(),()) (fun k=>((l,x,(k:Int),()),(),())) (fun k=>match l[k]? with |some y=> !decide (y<x)|none=>false)
  (by simp only[lT]; rw[ef,if_neg (by omega)])
  (fun k hk=>by
    have c1: (k:Int)< (l.length:Int):=by omega
    have c2: (0:Int)<=(k:Int):=by omega
    simp only[lT,ef,ek,if_pos c1,if_pos c2,aB,ah hk,ae,dV hm hk];by_cases h:l[k]<x<;>simp[h]) with ⟨k1,k2⟩| ⟨i,hi,k1,k2,k3⟩
 ·have all: ∀y∈l,y<x:=by
   intro y hy;obtain⟨k,hk,rfl⟩:=aP hy;have:=k2 k hk;rw[ah hk] at this;simpa using this
  refine⟨l++ [x],Fv l x hl all,?_,?_,?_,fun _=>by simp⟩
  ·have:=Nw (A:=l) (B:= []) (x:=x) (by simpa using hs) all (by simp);simpa using this
  ·intro y;simp[or_comm]
  ·simp
 ·rw[ah hi] at k2;simp only[bZ,decide_eq_false_iff_not,Int.not_lt] at k2
  have lt: ∀y∈l.take i,y<x:=by
   intro y hy;obtain⟨j,hj,rfl⟩:=aP hy;have hj':j<i:=by simp at hj; omega
   have:=k3 j hj';rw[ah (by omega)] at this;rw[dt];simpa using this
  have hd:l.drop i=l[i]::l.drop (i+1):=bV hi;have hsp:l.take i++l.drop i=l:=dy i l
  have ge: ∀y∈l.drop i,l[i] <=y:=by
   intro y hy;rw[hd] at hy;rcases bc.1 hy with rfl|hy
   ·exact bO _
   ·have h2:SS (l.drop i):=List.Pairwise.sublist (List.drop_sublist i l) hs;rw[hd] at h2;exact Int.le_of_lt ((List.pairwise_cons.1 h2).1 y hy)
  unfold jR;rw[show yP ((l,x,0,()),(),())=_ from k1];have c1: (i:Int)< (l.length:Int):=by omega
  have c2: (0:Int)<=(i:Int):=by omega
  simp only[ae,ef,pJ,ek,if_pos c1,if_pos c2,aB,ah hi,aZ];by_cases he:l[i] =x
  ·simp only[if_pos he,if_pos (l8 (show l.length<=1048576 by omega))];refine⟨l,rfl,hs,fun y=>⟨.inr,?_⟩,by omega,fun h=>absurd (by rw[<-he]; exact bu hi) h⟩
   rintro (rfl|h)
   ·rw[<-he];exact bu hi
   ·exact h
  ·have d1: (0:Int)<=0/\(0:Int)<=(i:Int)/\(i:Int)<=(l.length:Int):=by omega
   have d2: (0:Int)<=(i:Int)/\(i:Int)<=(l.length:Int)/\(l.length:Int)<=(l.length:Int):=by omega
   have e1: (l.drop i).take (l.length-i)=l.drop i:=bJ (by simp);simp only[if_neg he,if_pos d1,if_pos d2,Int.toNat_zero,bK,cU,e1];rw[if_pos (l8 (by simp; omega)),if_pos (l8 (by simp; omega)),if_pos (l8 (by simp; omega))];refine⟨_,rfl,Nw (by rw[hsp]; exact hs) lt (fun y hy=> ?_),fun y=> ?_,by simp; omega,fun _=>by simp; omega⟩
   ·have:=ge y hy;omega
   ·conv=>rhs; rw[<-hsp]
    simp only[bf,aE];constructor
    ·rintro ((h|h)|h)
     ·exact .inr (.inl h)
     ·exact .inl h
     ·exact .inr (.inr h)
    ·rintro (h|h|h)
     ·exact .inl (.inr h)
     ·exact .inl (.inl h)
     ·exact .inr h
theorem P7 {β:Type} (l:List Int) (hl:l.length<=500) {mk:Nat->List Int->β} {ε:Type} {B:β->Option (β⊕ε)} {E:List Int->ε}
  (h0: ∀v,B (mk l.length v)=some (.inr (E v)))
  (h1: ∀k v x,l[k]? =some x->B (mk k v)=(jR v x).bind fun y=>some (.inl (mk (k+1) y.1)))
  (v:List Int) (hv:SS v) (hvl:v.length<=500): ∃r,gW B (mk 0 v)=some (E r)/\SS r/\(∀y,y∈r↔y∈v\/y∈l)/\r.length<=v.length+l.length:=by
 have go: ∀ (n k:Nat) (v:List Int),k+n=l.length->SS v->v.length+n<=1000-> ∃r,gW B (mk k v)=some (E r)/\SS r/\(∀y,y∈r↔y∈v\/y∈l.drop k)/\r.length<=v.length+n:=by
  intro n
  induction n with
  |zero=>
   intro k v hk hv _;have :k=l.length:=by omega
   subst this;exact⟨v,lw (h0 v),hv,by simp,by omega⟩
  |succ n ih=>
   intro k v hk hv hn;have hlt:k<l.length:=by omega
   obtain⟨r,r1,r2,r3,r4,_⟩:=Pz v l[k] (by omega) hv;obtain⟨s,s1,s2,s3,s4⟩:=ih (k+1) r (by omega) r2 (by omega);refine⟨s,?_,s2,fun y=> ?_,by omega⟩
   ·rw[sj (by rw[h1 k v _ (ah hlt),r1]; rfl)];exact s1
   ·rw[s3,r3,bV hlt,bc];constructor
    ·rintro ((h|h)|h)
     ·exact .inr (.inl h)
     ·exact .inl h
     ·exact .inr (.inr h)
    ·rintro (h|h|h)
     ·exact .inl (.inr h)
     ·exact .inl (.inl h)
     ·exact .inr h
 obtain⟨r,h1,h2,h3,h4⟩:=go l.length 0 v (by omega) hv (by omega);rw[bK] at h3;exact⟨r,h1,h2,h3,h4⟩
theorem Nx (a b:List Int) (ha:a.length<=100) (hb:b.length<=100): ∃r,lA a b=some (r,())/\SS r/\(∀y,y∈r↔y∈a\/y∈b)/\r.length<=a.length+b.length:=by
 have am:a.length<=maxLen:=by unfold maxLen; omega
 have bm:b.length<=maxLen:=by unfold maxLen; omega
 obtain⟨r,r1,r2,r3,r4⟩:=P7 (B:=iW) (mk:=fun k v=>((a,b,(),(k:Int),()),(),(v,()))) (E:=fun v=>((b,(),()),(),(v,()))) a (by omega)
  (fun v=>by simp only[iW]; rw[ef,if_neg (by omega)])
  (fun k v x hx=>by
    have hk:=la hx;have c1: (k:Int)< (a.length:Int):=by omega
    have c2: (0:Int)<=(k:Int):=by omega
    simp only[iW,ef,ek,if_pos c1,if_pos c2,aB,hx,ae,dV am hk])
  [] List.Pairwise.nil (aA _)
 obtain⟨s,s1,s2,s3,s4⟩:=P7 (B:=iX) (mk:=fun k v=>((b,(),(k:Int),()),(),(v,()))) (E:=fun v=>(((),()),(),(v,()))) b (by omega)
  (fun v=>by simp only[iX]; rw[ef,if_neg (by omega)])
  (fun k v x hx=>by
    have hk:=la hx;have c1: (k:Int)< (b.length:Int):=by omega
    have c2: (0:Int)<=(k:Int):=by omega
    simp only[iX,ef,ek,if_pos c1,if_pos c2,aB,hx,ae,dV bm hk])
  r r2 (by simp at r4; omega)
 unfold lA;rw[show sB ((a,b,(),0,()),(),([],()))=_ from r1];simp only[ae];rw[show sD ((b,(),0,()),(),(r,()))=_ from s1];refine⟨s,rfl,s2,fun y=> ?_,by simp at r4; omega⟩;rw[s3,r3];simp
end Go.Proofs.YtlaicbcfjcplhaaGreat.En
namespace Go.Proofs.YtlaicbcfjcplhaaGreat.En
open Go
theorem Cy (m:dY) (e:Int) (h:ri 1048576 m) (hv:fv m=some (true,())): ∃c b,i9 m e=some (c,b,())/\m8 m e=some (c,b,())/\iR maxLen c/\(b=kj e 1 (m.configs.length:Int))/\(b=true->eB c=some (true,())/\c.epoch=e)/\(b=false->c=⟨0,0,[],[]⟩):=by
 obtain⟨b,m1,m2⟩:=masterLog m (kh h);rw[hv] at m1;simp only[af,an,and_true] at m1;subst m1;obtain⟨f1,_,_⟩:=AE (kh h) hv;have zero:iR maxLen ⟨0,0,[],[]⟩:=⟨aA _,aA _⟩
 have hl:=h.1;unfold i9 m8;simp only[hv,m2,gl,pz,ae,dS,eg];cases hw:kj e 1 (m.configs.length:Int) with
 |false=>exact⟨_,_,rfl,rfl,zero,rfl,nofun,fun _=>rfl⟩
 |true=>
  have hw:=ey.1 hw;simp only[eg];rw[eL (n:=e-1) (by omega) (by omega)];have hlt: (e-1).toNat<m.configs.length:=by omega
  have hk:=h.2 _ (bu hlt)
  have copy: ∀c:dU,iR 1048576 c->jT c=some (c,())/\gO c=some (c,()):=by intro c hc;unfold jT gO;simp only[aZ];rw[hU (l8 hc.1),hU (l8 hc.2)];exact⟨rfl,rfl⟩
  rw[hU (by omega),hU (by omega),ah hlt];simp only[ae,(copy _ hk).1,(copy _ hk).2];refine⟨_,_,rfl,rfl,eV hk,rfl,fun _=>⟨(f1 _ hlt).1,?_⟩,nofun⟩;rw[(f1 _ hlt).2];omega
end Go.Proofs.YtlaicbcfjcplhaaGreat.En
namespace Go.Proofs.YtlaicbcfjcplhaaGreat.En
open Go
def yc (p:Nat->Bool) (n:Nat):List Int:=((List.range n).filter p).map fun (k:Nat)=>(k:Int)
theorem HE (p:Nat->Bool) (n:Nat):yc p (n+1)=yc p n++if p n=true then [(n:Int)] else [] :=by
 unfold yc;rw[List.range_succ,ca,bT]
 congr 1
 cases h:p n<;>simp[h]
theorem Fy (p:Nat->Bool) (n:Nat) (x:Int):x∈yc p n↔ ∃k:Nat,k<n/\p k=true/\x=(k:Int):=by
 unfold yc;simp only[aJ,cF,bH];constructor
 ·rintro⟨k,⟨h1,h2⟩,rfl⟩; exact⟨k,h1,h2,rfl⟩
 ·rintro⟨k,h1,h2,rfl⟩; exact⟨k,⟨h1,h2⟩,rfl⟩
theorem Kj (p:Nat->Bool) (n:Nat): (yc p n).length<=n:=by unfold yc;rw[aK];exact aL (cY _ _) (by simp)
theorem Kk (p:Nat->Bool) {n:Nat} (hn:n<=5):rA (yc p n):=by
 have hp: (yc p n).Pairwise (· < ·):=by unfold yc;rw[List.pairwise_map];exact (List.Pairwise.filter _ List.pairwise_lt_range).imp fun h=>by omega
 intro k hk;have hm: (yc p n)[k] ∈yc p n:=bu hk;obtain⟨j,h1,_,h2⟩:=(Fy p n _).1 hm;exact⟨⟨by omega,by omega⟩,fun h0=>bW.1 hp (k-1) k (by omega) hk (by omega)⟩
theorem PA (p q:Nat->Bool) (n:Nat): (yc p n).filter (fun x=>decide (x∈yc q n))=yc (fun k=>p k&&q k) n:=by
 unfold yc;rw[List.filter_map,List.filter_filter]
 congr 1
 apply List.filter_congr;intro k hk;have hk:=bH.1 hk
 have : (((fun x=>decide (x∈yc q n))∘fun (k:Nat)=>(k:Int)) k)=q k:=by
  show decide ((k:Int)∈yc q n)=q k;cases hq:q k with
  |true=>exact decide_eq_true ((Fy q n _).2 ⟨k,hk,hq,rfl⟩)
  |false=>
   refine decide_eq_false fun h=> ?_;obtain⟨j,_,h1,h2⟩:=(Fy q n _).1 h;have :j=k:=by omega
   subst this;rw[hq] at h1;cases h1
 have e:decide ((k:Int)∈List.map (fun (k:Nat)=>(k:Int)) (List.filter q (List.range n)))=q k:=this;simp only[Function.comp,e,Bool.and_comm]
def HF (x:dR) (k:Nat):Bool:=match x.servers[k]? with |some s=>s.up|none=>false
def u7 (l:List Int) (k:Nat):Bool:=match l[k]? with |some s=>s==0|none=>false
theorem P8 {p:Nat->Bool} {k:Nat} (h:k<=1000) (y:Int): (yc p k++ [y]).length*8<=2 ^ 40:=by have:=Kj p k;refine l8 ?_;rw[az,ax];omega
theorem Lr (x:dR) (hl:x.servers.length=5) (hv:dX x=some (true,())):pj x=some (yc (HF x) 5,()):=by
 have ex: (⟨x.now,x.servers,x.sides,⟨x.master.configs,x.master.activated⟩,x.masterUp,⟨x.lease.epoch,x.lease.holder,x.lease.ends⟩,x.places⟩:dR)=x:=rfl
 have gm:=mf (B:=kV) x.servers (fun k (b:List Int)=>(((),(),(k:Int),()),((x.now,x.servers,x.sides,x.master.configs,x.master.activated,x.masterUp,x.lease.epoch,x.lease.holder,x.lease.ends,x.places,()),()),(b,()))) (fun k b=>b=yc (HF x) k) (fun _ _ _=>(((),()),(),(yc (HF x) 5,())))
  (fun b hb=>by simp only[kV];rw[ef,if_neg (by omega),hb,hl])
  (fun k b s hs hb=>by
    have hk:=la hs;have c1: (k:Int)< (x.servers.length:Int):=by omega
    have c2: (0:Int)<=(k:Int):=by omega
    have hup:HF x k=s.up:=by unfold HF; rw[hs]
    subst hb;simp only[kV,ef,ek,if_pos c1,if_pos c2,aB,hs,ae,ex,hv,eg,dV (n:=5) (by decide) (by omega:k<5),if_pos (P8 (p:=HF x) (k:=k) (by omega) (k:Int))];refine .inl ⟨yc (HF x) (k+1),?_,rfl,trivial⟩;rw[HE,hup];cases s.up
    ·simp;rfl
    ·rfl)
  0 [] (aA _) rfl
 unfold pj;rw[show vY (((),(),0,()),((x.now,x.servers,x.sides,x.master.configs,x.master.activated,x.masterUp,x.lease.epoch,x.lease.holder,x.lease.ends,x.places,()),()),([],()))=_ from gm];rfl
theorem mC {l:List Int} (hl:l.length<=maxLen) (hv:i8 l=some (true,())):l.length=5:=by
 obtain⟨b,h1,h2⟩:=u6 l hl;rw[hv] at h1;simp only[af,an,and_true] at h1;subst h1;unfold oO at h2;cases h: ((l.length:Int)==5) with
 |false=>rw[h] at h2; cases h2
 |true=>simp only[beq_iff_eq] at h; omega
theorem Jc (l:List Int) (hl:l.length=5) (hv:i8 l=some (true,())):nP l=some (yc (u7 l) 5,()):=by
 have gm:=mf (B:=jX) l (fun k (b:List Int)=>((l,(),(k:Int),()),(),(b,()))) (fun k b=>b=yc (u7 l) k) (fun _ _ _=>(((),()),(),(yc (u7 l) 5,())))
  (fun b hb=>by simp only[jX];rw[ef,if_neg (by omega),hb,hl])
  (fun k b s hs hb=>by
    have hk:=la hs;have c1: (k:Int)< (l.length:Int):=by omega
    have c2: (0:Int)<=(k:Int):=by omega
    have hup:u7 l k=(s==0):=by unfold u7; rw[hs]
    subst hb;simp only[jX,ef,ek,if_pos c1,if_pos c2,aB,hs,ae,hv,eg,dV (n:=5) (by decide) (by omega:k<5),if_pos (P8 (p:=u7 l) (k:=k) (by omega) (k:Int))];refine .inl ⟨yc (u7 l) (k+1),?_,rfl,trivial⟩;rw[HE,hup];cases (s==0)
    ·simp;rfl
    ·rfl)
  0 [] (aA _) rfl
 unfold nP;rw[show uH ((l,(),0,()),(),([],()))=_ from gm];rfl
def Fz (x:dR) (k:Nat):Bool:=HF x k&&u7 x.sides k
theorem Se (x:dR) (ok:fO 1048576 x) (hv:dX x=some (true,())):qO x=some (yc (Fz x) 5,()):=by have vc:=iK ok hv;have hsl:=mC (eD ok.2.1) vc.sides;unfold qO;rw[Lr x vc.len hv,Jc x.sides hsl vc.sides];simp only[ae];rw[x0 _ _ (Kk _ (aq 5)) (aL (Kj _ _) (by decide)),PA];rfl
end Go.Proofs.YtlaicbcfjcplhaaGreat.En
namespace Go.Proofs.YtlaicbcfjcplhaaGreat.En
open Go
def Jd (x:dR) (a:Int):Int:=(x.sides[a.toNat]?).getD 0
theorem zW {x:dR} (ok:fO 1048576 x) (vc:VC x) {a:Int} (ha:0<=a/\a<5): ∃s,x.servers[a.toNat]? =some s/\gr 1048576 s/\eX s a=some (true,()):=by
 have hlt:a.toNat<x.servers.length:=by rw[vc.len]; omega
 refine⟨_,ah hlt,ok.1.2 _ (bu hlt),?_⟩;have:=vc.srv _ hlt
 rwa [Int.toNat_of_nonneg ha.1] at this
theorem lO (s:dT) (id:Int) (h:gr 1048576 s): ∃b,fG s id=some (b,())/\lJ s id=some (b,()):=by obtain⟨v,v1,v2⟩:=rC s id h;obtain⟨n,n1,n2,_⟩:=wY s.config id (eV h.1);unfold fG lJ;simp only[v1,v2,n1,n2,ae];cases v<;>cases s.up<;>cases (n==1)<;>exact⟨_,rfl,rfl⟩
end Go.Proofs.YtlaicbcfjcplhaaGreat.En
namespace Go.Proofs.YtlaicbcfjcplhaaGreat.En
open Go
end Go.Proofs.YtlaicbcfjcplhaaGreat.En
namespace Go.Proofs.YtlaicbcfjcplhaaGreat.En
open Go
end Go.Proofs.YtlaicbcfjcplhaaGreat.En
namespace Go.Proofs.YtlaicbcfjcplhaaGreat.En
open Go
theorem P9 (x y:eb): ((x.epoch==y.epoch)&&((x.op.client==y.op.client)&&((x.op.seq==y.op.seq)&&((x.op.kind==y.op.kind)&&((x.op.object==y.op.object)&&((x.op.old==y.op.old)&&((x.op.value==y.op.value)&&true)))))))=decide (x=y):=by obtain⟨a,b,c,d,e,f,g⟩:=x;obtain⟨a',b',c',d',e',f',g'⟩:=y;rw[b8];simp[and_assoc]
theorem Ny (a b:List eb) (ha:a.length<=maxLen):kf a b=some (decide (a=b),()):=by
 unfold kf;rw[dS,pJ];split
 ·rename_i hl;have hl:a.length=b.length:=by omega
  rcases u5 (B:=i4) a.length (fun k=>((a,b,(a.length:Int),(k:Int),()),(),())) (.inr (((),()),(),())) (fun _=> .inl ((false,()),(),())) (fun k=>decide (a[k]? ≠b[k]?))
   (by simp only[i4]; rw[ef,if_neg (by omega)])
   (fun k hk=>by
     have c1: (k:Int)< (a.length:Int):=by omega
     have c2: (0:Int)<=(k:Int):=by omega
     have hk':k<b.length:=by omega
     simp only[i4,P9,dS,ef,ek,if_pos c1,if_pos c2,aB,ah hk,ah hk',ae,dV ha hk];by_cases h:a[k] =b[k]<;>simp[h]) with ⟨k1,k2⟩| ⟨i,hi,k1,k2,_⟩
  ·rw[show oQ ((a,b,(a.length:Int),0,()),(),())=_ from k1]
   have :a=b:=List.ext_getElem hl fun k h1 h2=>by have:=k2 k h1;rw[ah h1,ah h2] at this;simpa using this
   rw[decide_eq_true this];rfl
  ·rw[show oQ ((a,b,(a.length:Int),0,()),(),())=_ from k1]
   have :a≠b:=fun h=>by rw[h] at k2;simp at k2
   rw[decide_eq_false this];rfl
 ·rename_i hl;have :a≠b:=fun h=>hl (by rw[h]);rw[decide_eq_false this]
theorem FA (a b:List eb) (ha:a.length<=maxLen): ∃n:Nat,jY a b=some ((n:Int),())/\n<=a.length/\n<=b.length/\a.take n=b.take n/\(n<a.length->n<b.length->a[n]? ≠b[n]?):=by
 rcases u5 (B:=ic) a.length (fun k=>((a,b,(k:Int),()),(),())) ((((a.length:Nat):Int),()),(),()) (fun k=>(((k:Int),()),(),())) (fun k=>decide (a[k]? ≠b[k]?))
  (by simp only[ic]; rw[ef,if_neg (by omega)])
  (fun k hk=>by
    have c1: (k:Int)< (a.length:Int):=by omega
    have c2: (0:Int)<=(k:Int):=by omega
    by_cases hk':k<b.length
    ·have c3: (k:Int)< (b.length:Int):=by omega
     simp only[ic,P9,ef,ek,if_pos c1,if_pos c2,if_pos c3,aB,ah hk,ah hk',ae,dV ha hk];by_cases h:a[k] =b[k]<;>simp[h]
    ·have c3: ¬ (k:Int)< (b.length:Int):=by omega
     simp only[ic,ef,if_pos c1,if_neg c3,ah hk,b6 (show b.length<=k by omega)];simp) with ⟨k1,k2⟩| ⟨i,hi,k1,k2,k3⟩
 ·have eq: ∀k,k<a.length->a[k]? =b[k]? :=fun k hk=>by simpa using k2 k hk
  have hl:a.length<=b.length:=by
   rcases be a.length with h|h
   ·omega
   ·have:=eq (a.length-1) (by omega);rw[ah (by omega)] at this;have:=la this.symm;omega
  refine⟨a.length,?_,aq _,hl,?_,fun h=>absurd h (de _)⟩
  ·unfold jY;rw[show oJ ((a,b,0,()),(),())=_ from k1];rfl
  ·refine bC fun k=> ?_;rw[bg,bg];split
   ·exact eq k (by assumption)
   ·rfl
 ·have eq: ∀k,k<i->a[k]? =b[k]? :=fun k hk=>by simpa using k3 k hk
  have hl:i<=b.length:=by
   rcases be i with h|h
   ·omega
   ·have:=eq (i-1) (by omega);rw[ah (by omega)] at this;have:=la this.symm;omega
  refine⟨i,?_,by omega,hl,?_,fun _ _=>by simpa using k2⟩
  ·unfold jY;rw[show oJ ((a,b,0,()),(),())=_ from k1];rfl
  ·refine bC fun k=> ?_;rw[bg,bg];split
   ·exact eq k (by assumption)
   ·rfl
end Go.Proofs.YtlaicbcfjcplhaaGreat.En
namespace Go.Proofs.YtlaicbcfjcplhaaGreat.En
open Go
theorem Cz (x:eK):vQ (mX x) (na x):=by
 obtain⟨b,h1,h2⟩:=rB x;unfold mX na;simp only[h1,h2,ae];cases b with
 |false=>simp only[Bool.not_false,eg];cases ((x.epoch==0)&&((x.holder==0)&&((x.ends==0)&&true)))<;>exact⟨_,rfl,rfl⟩
 |true=>
  simp only[cg,eS];cases he:x.ends==0 with
  |true=>
   cases hz: ((x.epoch==0)&&((x.holder==0)&&(true&&true))) with
   |true=>exact⟨_,rfl,rfl⟩
   |false=>
    exfalso;unfold ig at h2;rw[he,hz] at h2;simp only[eS,pz,ae] at h2
    have hw:kj x.ends 1 1049=false:=by rw[Bool.eq_false_iff];intro hw;have:=ey.1 hw;simp only[beq_iff_eq] at he;omega
    rw[hw] at h2;revert h2;cases kj x.epoch 1 20<;>cases kj x.holder 0 4<;>intro h2<;>cases h2
  |false=>
   have hz: ((x.epoch==0)&&((x.holder==0)&&(false&&true)))=false:=by cases x.epoch==0<;>cases x.holder==0<;>rfl
   rw[hz];exact⟨_,rfl,rfl⟩
theorem rD (x:eK) (n:Int):vQ (iO x n) (gD x n):=by obtain⟨b,h1,h2⟩:=rB x;obtain⟨t,t1,t2⟩:=Cz x;unfold iO gD;simp only[h1,h2,t1,t2,gl,pz,ae];cases b<;>cases kj n 0 999<;>exact⟨_,rfl,rfl⟩
end Go.Proofs.YtlaicbcfjcplhaaGreat.En
namespace Go.Proofs.YtlaicbcfjcplhaaGreat.En
open Go
theorem zm {l:List eG} (hl:l.length<=maxLen) (hv:fq l=some (true,())):l.length=5:=by
 obtain⟨b,h1,h2⟩:=qq l hl;rw[hv] at h1;simp only[af,an,and_true] at h1;subst h1;unfold nq at h2;cases h: ((l.length:Int)==5) with
 |false=>rw[h] at h2; cases h2
 |true=>simp only[beq_iff_eq] at h; omega
end Go.Proofs.YtlaicbcfjcplhaaGreat.En
namespace Go.Proofs.YtlaicbcfjcplhaaGreat.En
open Go
theorem CA (a b:List Int) (ha:rA a) (hb:b.length<=maxLen):fL a b=some (a.filter fun x=> !decide (x∈b),()):=by
 have hl:=ha.len;have hm:a.length<=maxLen:=by unfold maxLen; omega
 have hp:=ha.pair
 have gm:=mf (B:=ib) a (fun k (out:List Int)=>((a,b,(),(k:Int),()),(),(out,()))) (fun k out=>out=(a.take k).filter fun x=> !decide (x∈b)) (fun k r out=>(((),()),(),(out++r.filter fun x=> !decide (x∈b),())))
  (fun out hb=>by simp only[ib];rw[ef,if_neg (by omega)];simp)
  (fun k out x hx hout=>by
    have hk:=la hx;have c1: (k:Int)< (a.length:Int):=by omega
    have c2: (0:Int)<=(k:Int):=by omega
    have hxe:a[k] =x:=by rw[ah hk] at hx; exact Option.some.inj hx
    simp only[ib,dS,ef,ek,if_pos c1,if_pos c2,aB,hx,ae,(gf b x hb).1,dV hm hk];by_cases hin:x∈b
    ·simp only[if_pos hin];refine .inl ⟨out,rfl,?_,?_⟩
     ·rw[hout,bM,hx,ca];simp[hin]
     ·simp[hin]
    ·have hlt: ∀y∈out,y<x:=by
      intro y hy;rw[hout,cF] at hy;obtain⟨i,hi,he⟩:=aP hy.1;have hi':i<k:=by simp at hi; omega
      rw[dt] at he;rw[<-he,<-hxe];exact bW.1 hp i k (by omega) hk hi'
     have hol:out.length<=1000:=by rw[hout];have:=cY (fun x=> !decide (x∈b)) (a.take k);simp only[aY] at this;omega
     simp only[if_neg hin,Fv out x hol hlt,ae];refine .inl ⟨out++ [x],rfl,?_,?_⟩
     ·rw[hout,bM,hx,ca];simp[hin]
     ·simp[hin])
  0 [] (aA _) rfl
 unfold fL;rw[show qQ ((a,b,(),0,()),(),([],()))=_ from gm];rfl
end Go.Proofs.YtlaicbcfjcplhaaGreat.En
namespace Go.Proofs.YtlaicbcfjcplhaaGreat.En
open Go
theorem u9 {l:List Int} (h:SS l) (hr: ∀y∈l,0<=y/\y<5):rA l:=by intro k hk;have:=hr _ (bu hk);exact⟨by omega,fun h0=>bW.1 h _ _ (by omega) hk (by omega)⟩
theorem vD {l:List Int} (h:rA l):fZ l=some (true,())/\iJ l=some (true,()):=by
 have hl:=h.len;have hm:l.length<=maxLen:=by unfold maxLen; omega
 obtain⟨_,_,h1,h2⟩:=Pw (B1:=gG) (B2:=gP) l.length (fun k (_:Unit)=>((l,(k:Int),()),(),())) (fun k _=>((l,l,(l.length:Int),(k:Int),()),(),())) (fun _ _=>True) (fun _=> .inr (((),()),(),())) (fun _=> .inr (((),()),(),()))
  (fun _ _=>by simp only[gG,gP,ef];exact⟨if_neg (by omega),if_neg (by omega)⟩)
  (fun k _ hk _=>by
    have c1: (k:Int)< (l.length:Int):=by omega
    have c2: (0:Int)<=(k:Int):=by omega
    obtain⟨r1,r2⟩:=h k hk;have w:kj l[k] 0 4=true:=ey.2 r1;refine⟨(),?_⟩;simp only[gG,gP,ef,ek,if_pos c1,if_pos c2,aB,ah hk,ae,gl,pz,w,cg,eS,dV hm hk];by_cases h0:0<k
    ·have c3: (k:Int)>0:=by omega
     have c4: (0:Int)<=((k-1:Nat):Int):=by omega
     have e2:l[k-1]? =some l[k-1] :=ah (by omega);have:=r2 h0;simp only[if_pos c3,oy h0 (by omega),if_pos c4,aB,e2,ae,if_neg (show ¬l[k-1] ≥l[k] by omega),if_neg (show ¬l[k] <=l[k-1] by omega),and_self]
    ·simp only[if_neg (show ¬ (k:Int)>0 by omega),and_self])
  () trivial
 unfold fZ iJ;rw[show nK ((l,0,()),(),())=_ from h1,show oe ((l,l,(l.length:Int),0,()),(),())=_ from h2];exact⟨rfl,rfl⟩
end Go.Proofs.YtlaicbcfjcplhaaGreat.En
namespace Go.Proofs.YtlaicbcfjcplhaaGreat.En
open Go
end Go.Proofs.YtlaicbcfjcplhaaGreat.En
namespace Go.Proofs.YtlaicbcfjcplhaaGreat.En
open Go
theorem Sf {m:dY} (h:ri 1048576 m) (hv:fv m=some (true,())):m.configs.length<=20:=by
 obtain⟨f,_,_⟩:=AE (kh h) hv;rcases be m.configs.length with h0|h0
 ·omega
 ·have hk:m.configs.length-1<m.configs.length:=by omega
  obtain⟨f1,f2⟩:=f _ hk;have:=(yb (eV (h.2 _ (bu hk))) f1).2.2.2.2.1;omega
def pB (l:List eb):Nat:=l.length-3
theorem Nz (l:List eb) (hl:l.length<=1048576): (if IntKind.wrap .i64 ((l.length:Int)-3)>0 then IntKind.wrap .i64 ((l.length:Int)-3) else 0)=((pB l:Nat):Int):=by rw[eL (by omega) (by omega)];unfold pB;split<;>omega
end Go.Proofs.YtlaicbcfjcplhaaGreat.En
namespace Go.Proofs.YtlaicbcfjcplhaaGreat.En
open Go
end Go.Proofs.YtlaicbcfjcplhaaGreat.En
namespace Go.Proofs.YtlaicbcfjcplhaaGreat.En
open Go
end Go.Proofs.YtlaicbcfjcplhaaGreat.En
namespace Go.Proofs.YtlaicbcfjcplhaaGreat.En
open Go
end Go.Proofs.YtlaicbcfjcplhaaGreat.En
namespace Go.Proofs.YtlaicbcfjcplhaaGreat.En
open Go
end Go.Proofs.YtlaicbcfjcplhaaGreat.En
namespace Go.Proofs.YtlaicbcfjcplhaaGreat.En
open Go
abbrev fx (x:dR):Int×List dT×List Int×List dU×Int×Int×Int×Int×Int×List eG×Unit:=(x.now,x.servers,x.sides,x.master.configs,x.master.activated,x.masterUp,x.lease.epoch,x.lease.holder,x.lease.ends,x.places,())
abbrev Th (s:dT):Bool×Bool×Int×Int×Int×Int×List Int×List Int×Int×List eb×Int×List eb×Unit:=(s.up,s.intact,s.version,s.epoch,s.config.epoch,s.config.primary,s.config.replicas,s.config.witnesses,s.first,s.log,s.commit,s.learned,())
structure Sg (x x':dR):Prop where
 sides:x'.sides=x.sides
 master:x'.master=x.master
 srv: ∀ (k:Nat) (s:dT),x.servers[k]? =some s-> ∃e,x'.servers[k]? =some (⟨s.up,s.intact,s.version,e,s.config,s.first,s.log,s.commit,s.learned⟩:dT)
theorem Sg.refl (x:dR):Sg x x:=⟨rfl,rfl,fun _ s h=>⟨s.epoch,h⟩⟩
theorem Sg.side {x x':dR} (h:Sg x x') (a:Int):Jd x' a=Jd x a:=by unfold Jd; rw[h.sides]
section
variable {x x':dR} (ok:fO 1048576 x) (ok':fO 1048576 x') (hv:dX x=some (true,())) (hv':dX x'=some (true,())) (se:Sg x x') {id:Int} (hid:0<=id/\id<5)
include ok ok' hv hv' se hid
omit ok hv se in
end
end Go.Proofs.YtlaicbcfjcplhaaGreat.En
namespace Go.Proofs.YtlaicbcfjcplhaaGreat.En
open Go
structure SV (m:dY) (s:dT) (k:Int):Prop where
 val:eX s k=some (true,())
 ep:s.epoch<=(m.configs.length:Int)
 lrn: ∃e,nk s.learned=some (e,())/\e<=m.activated
 cfg:s.config=⟨0,0,[],[]⟩\/(i9 m s.config.epoch=some (s.config,true,())/\s.config.epoch<=m.activated)
theorem Q6 (x:dR) (ok:fO 1048576 x) (k:Nat) (hk:k<x.servers.length):
  (SV x.master x.servers[k] (k:Int)/\ej (((),(k:Int),()),((x.now,x.servers,x.sides,x.master.configs,x.master.activated,x.masterUp,x.lease.epoch,x.lease.holder,x.lease.ends,x.places,()),()),())=some (.inl (((),((k+1:Nat):Int),()),((x.now,x.servers,x.sides,x.master.configs,x.master.activated,x.masterUp,x.lease.epoch,x.lease.holder,x.lease.ends,x.places,()),()),())))\/
  (¬SV x.master x.servers[k] (k:Int)/\ej (((),(k:Int),()),((x.now,x.servers,x.sides,x.master.configs,x.master.activated,x.masterUp,x.lease.epoch,x.lease.holder,x.lease.ends,x.places,()),()),())=some (.inr (.inl ((false,()),(),())))):=by
 obtain⟨⟨hs1,hs2⟩,hsd,hml,hpl⟩:=ok;have hm:=eD hs1;have c1: (k:Int)< (x.servers.length:Int):=by omega
 have c2: (0:Int)<=(k:Int):=by omega
 have hsk:=hs2 _ (bu hk);obtain⟨b,v1,v2⟩:=rC x.servers[k] (k:Int) hsk;obtain⟨n,n1,n2⟩:=sU x.servers[k].learned (eD hsk.2.2);obtain⟨c,d,d1,d2,d3⟩:=ya x.master x.servers[k].config.epoch hml;have hcfg:=eV hsk.1
 simp only[ej,ef,ek,if_pos c1,if_pos c2,aB,ah hk,ae,v1,n1,dV hm hk,dS,
  show (⟨x.master.configs,x.master.activated⟩:dY)=x.master from rfl,d1,vA _ hcfg,(gT c x.servers[k].config d3).1]
 cases b with
 |false=>exact .inr ⟨(fun h=>(by have h:=v1.symm.trans h.val; cases h)),rfl⟩
 |true=>
  simp only[eg];by_cases h1:x.servers[k].epoch>(x.master.configs.length:Int)
  ·simp only[if_pos h1];exact .inr ⟨fun h=>by have:=h.ep; omega,trivial⟩
  ·simp only[if_neg h1];by_cases h2:n>x.master.activated
   ·simp only[if_pos h2];refine .inr ⟨fun h=> ?_,trivial⟩;obtain⟨e,e1,e2⟩:=h.lrn;rw[n1] at e1;simp only[af,an,and_true] at e1;omega
   ·simp only[if_neg h2];by_cases h3:x.servers[k].config=⟨0,0,[],[]⟩
    ·simp only[if_pos h3];exact .inl ⟨⟨v1,by omega,⟨n,n1,by omega⟩, .inl h3⟩,trivial⟩
    ·simp only[if_neg h3];cases d with
     |false=>
      refine .inr ⟨fun h=> ?_,rfl⟩;rcases h.cfg with h| ⟨h,_⟩
      ·exact h3 h
      ·rw[d1] at h;cases h
     |true=>
      simp only[eg];by_cases h4:c=x.servers[k].config
      ·simp only[if_pos h4];by_cases h5:x.servers[k].config.epoch>x.master.activated
       ·simp only[if_pos h5];refine .inr ⟨fun h=> ?_,trivial⟩;rcases h.cfg with h| ⟨_,h⟩
        ·exact h3 h
        ·omega
       ·simp only[if_neg h5];exact .inl ⟨⟨v1,by omega,⟨n,n1,by omega⟩, .inr ⟨by rw[d1,h4],by omega⟩⟩,trivial⟩
      ·simp only[if_neg h4];refine .inr ⟨fun h=> ?_,trivial⟩;rcases h.cfg with h| ⟨h,_⟩
       ·exact h3 h
       ·rw[d1] at h;simp only[af,an,and_true] at h;exact h4 h
theorem Q7 (x:dR) (ok:fO 1048576 x):
  ((∀k (hk:k<x.servers.length),SV x.master x.servers[k] (k:Int))/\ia (((),0,()),((x.now,x.servers,x.sides,x.master.configs,x.master.activated,x.masterUp,x.lease.epoch,x.lease.holder,x.lease.ends,x.places,()),()),())=some (.inr (((),()),(),())))\/
  ((∃k,∃hk:k<x.servers.length,¬SV x.master x.servers[k] (k:Int))/\ia (((),0,()),((x.now,x.servers,x.sides,x.master.configs,x.master.activated,x.masterUp,x.lease.epoch,x.lease.holder,x.lease.ends,x.places,()),()),())=some (.inl ((false,()),(),()))):=by
 have gm:=nG (B1:=ej) (B2:=ej) x.servers.length (fun k=>(((),(k:Int),()),((x.now,x.servers,x.sides,x.master.configs,x.master.activated,x.masterUp,x.lease.epoch,x.lease.holder,x.lease.ends,x.places,()),()),())) (fun k=>(((),(k:Int),()),((x.now,x.servers,x.sides,x.master.configs,x.master.activated,x.masterUp,x.lease.epoch,x.lease.holder,x.lease.ends,x.places,()),()),())) (.inr (((),()),(),())) (.inr (((),()),(),())) (fun _=> .inl ((false,()),(),())) (fun _=> .inl ((false,()),(),()))
  (fun k=> ∀hk:k<x.servers.length,SV x.master x.servers[k] (k:Int)) (fun k=> ∃hk:k<x.servers.length,¬SV x.master x.servers[k] (k:Int))
  (by simp only[ej]; rw[ef,if_neg (by omega)])
  (by simp only[ej]; rw[ef,if_neg (by omega)])
  (fun k hk=>by
    rcases Q6 x ok k hk with ⟨h1,h2⟩| ⟨h1,h2⟩
    ·exact .inl ⟨h2,h2,fun _=>h1⟩
    ·exact .inr ⟨h2,h2,hk,h1⟩)
 rcases gm with ⟨k1,_,k3⟩| ⟨k,hk,k1,_,k3⟩
 ·exact .inl ⟨fun k hk=>k3 k hk hk,k1⟩
 ·exact .inr ⟨⟨k,k3⟩,k1⟩
theorem Qa {x:dR} (ok:fO 1048576 x) (hv:dX x=some (true,())): ∀k (hk:k<x.servers.length),SV x.master x.servers[k] (k:Int):=by
 rcases Q7 x ok with ⟨h,_⟩| ⟨_,h⟩
 ·exact h
 ·exfalso;obtain⟨b1,a1,_⟩:=u6 x.sides (eD ok.2.1);obtain⟨b2,m1,_⟩:=masterLog x.master (kh ok.2.2.1);obtain⟨b3,l1,_⟩:=rB x.lease;obtain⟨b4,p1,_⟩:=qq x.places (eD ok.2.2.2);unfold dX at hv;simp only[gl,a1,m1,l1,p1,ae,h,cW] at hv;revert hv;cases kj x.now 0 999<;>cases ((x.servers.length:Int)==5)<;>cases b1<;>cases b2<;>cases kj x.masterUp 0 3<;>cases b3<;>cases b4<;>cases decide (x.lease.epoch>x.master.activated)<;>intro hv<;>cases hv
theorem SV.old {m:dY} {s:dT} {k:Int} (h:SV m s k) (hm:ri 1048576 m) (hv:fv m=some (true,())):s.config.epoch<=(m.configs.length:Int):=by
 obtain⟨_,f2,f3⟩:=AE (kh hm) hv;rcases h.cfg with h| ⟨_,h⟩
 ·rw[h];show (0:Int)<=_;omega
 ·omega
end Go.Proofs.YtlaicbcfjcplhaaGreat.En
namespace Go.Proofs.YtlaicbcfjcplhaaGreat.En
open Go
end Go.Proofs.YtlaicbcfjcplhaaGreat.En
namespace Go.Proofs.YtlaicbcfjcplhaaGreat.En
open Go
end Go.Proofs.YtlaicbcfjcplhaaGreat.En
namespace Go.Proofs.YtlaicbcfjcplhaaGreat.En
open Go
theorem rA.filter {l:List Int} (h:rA l) (p:Int->Bool):rA (l.filter p):=by refine u9 (h.pair.filter p) fun y hy=> ?_;obtain⟨k,hk,rfl⟩:=aP (cF.1 hy).1;have:=(h k hk).1;omega
theorem Kl:rA [0,1,2,3,4] :=by refine u9 (by simp[SS]) fun y hy=> ?_;simp at hy;omega
end Go.Proofs.YtlaicbcfjcplhaaGreat.En
namespace Go.Proofs.YtlaicbcfjcplhaaGreat.En
open Go
theorem wZ (l:eK) (e h n t:Int): ∃r b,jy l e h n t=some (r,b,())/\l5 l e h n t=some (r,b,()):=by obtain⟨b,h1,h2⟩:=rB l;obtain⟨q,q1,q2⟩:=rD l n;unfold jy l5;simp only[h1,h2,q1,q2,gl,pz,ae];cases (l.epoch==e)<;>cases b<;>cases kj e 1 20<;>cases kj h 0 4<;>cases kj n 0 999<;>cases kj t 1 50<;>cases (l.holder==h)<;>cases q<;>exact⟨_,_,rfl,rfl⟩
theorem Je (x:dR) (ok:fO 1048576 x) (id t:Int): ∃y n,gM x id t=some (y,n,())/\ot x id t=some (y,n,())/\fO 1048576 y/\SJ y=SJ x:=by
 obtain⟨v,v1,v2⟩:=ik x ok;unfold gM ot jw sR iP gq kZ;simp only[(ir x ok).1,(ir x ok).2,v1,v2,gl,pz,ae,dS];have dn: ∀n:Int,∃y k,some (x,n,())=some (y,k,())/\some (x,n,())=some (y,k,())/\fO 1048576 y/\SJ y=SJ x:=fun n=>⟨x,n,rfl,rfl,ok,rfl⟩
 cases v with
 |false=>exact dn 1
 |true=>
  simp only[eg];cases hw:kj id 0 4 with
  |false=>exact dn 1
  |true=>
   have hw:=ey.1 hw;have hid:0<=id/\id<5:=by omega
   have vc:=iK ok v1;obtain⟨s,s1,s2,_⟩:=zW ok vc hid;obtain⟨p,p1,p2⟩:=lO s id s2;have hup:=vc.up;have w1:IntKind.wrap .i64 (x.masterUp*2)=x.masterUp*2:=eL (by omega) (by omega);have w2:IntKind.wrap .i64 (2*x.masterUp)=x.masterUp*2:=by rw[eL (by omega) (by omega),dE]
   have hsl:=mC (eD ok.2.1) vc.sides;have hside:id.toNat<x.sides.length:=by omega
   have g1:x.sides[id.toNat]? =some x.sides[id.toNat] :=ah hside;have hlt:=la s1;have sv:=Qa ok v1 id.toNat hlt;rw[ah hlt] at s1;rw[Option.some.inj s1] at sv;rw[<-ah hlt] at s1;have old:=sv.old ok.2.2.1 vc.ml;obtain⟨r,b,r1,r2⟩:=wZ x.lease s.config.epoch id x.now t;simp only[eg,ek,if_pos hid.1,s1,ae];cases s.up with
   |false=>exact dn 2
   |true=>
    simp only[eg,pJ,if_true,p1,p2,ae,w1,w2,ef,g1];cases p with
    |false=>exact dn 3
    |true=>
     simp only[eg];by_cases h2:x.masterUp*2<=3
     ·simp only[if_pos h2,if_neg (show ¬x.masterUp*2>3 by omega)];exact dn 8
     ·simp only[if_neg h2,if_pos (show x.masterUp*2>3 by omega)];by_cases h3:x.sides[id.toNat] =0
      case neg=>simp only[if_neg h3]; exact dn 8
      simp only[if_pos h3];by_cases h4:s.config.epoch=(x.master.configs.length:Int)
      case neg=>simp only[if_neg h4,if_pos (show (x.master.configs.length:Int)>s.config.epoch by omega)]; exact dn 11
      simp only[if_pos h4,if_neg (show ¬ (x.master.configs.length:Int)>s.config.epoch by omega)];simp only[r1,r2,ae];cases b with
      |false=>exact dn 7
      |true=>exact⟨_,_,rfl,rfl,ok,rfl⟩
end Go.Proofs.YtlaicbcfjcplhaaGreat.En
namespace Go.Proofs.YtlaicbcfjcplhaaGreat.En
open Go
def w3:List en->Int->Nat
 | [],_=>0
 |x::l,c=>if x.client<c then w3 l c+1 else 0
theorem PB (l:List en) (c:Int):w3 l c<=l.length:=by
 induction l with
 |nil=>exact aq _
 |cons x l ih=>
  unfold w3;split
  ·simp only[bw]; omega
  ·exact aA _
theorem PC {l:List en} {c:Int} (h: ∃x∈l,x.client=c):w3 l c<l.length:=by
 induction l with
 |nil=>obtain⟨x,hx,_⟩:=h; cases hx
 |cons y l ih=>
  unfold w3;split
  ·rename_i hy;obtain⟨x,hx,hc⟩:=h;rcases bc.1 hx with rfl|hx
   ·omega
   ·have:=ih ⟨x,hx,hc⟩;simp only[bw]; omega
  ·simp
theorem Ti (b d:Bool) (v:Int) (o:Op) (objs:List Int) (l:List en) (hl:l.length<=1000):p9 (((),(),(),(),b,(),0,()),((o.client,o.seq,o.kind,o.object,o.old,o.value,()),((),(),()),(false,0,()),((),(),()),(d,v,()),()),objs,l,())=
  some (((),(),(),(),b,(),((w3 l o.client:Nat):Int),()),((o.client,o.seq,o.kind,o.object,o.old,o.value,()),((),(),()),(false,0,()),((),(),()),(d,v,()),()),objs,l,()):=by
 have ml:l.length<=maxLen:=by unfold maxLen; omega
 have gm:=mf (B:=lV) l (fun k (_:Unit)=>(((),(),(),(),b,(),(k:Int),()),((o.client,o.seq,o.kind,o.object,o.old,o.value,()),((),(),()),(false,0,()),((),(),()),(d,v,()),()),objs,l,())) (fun _ _=>True)
  (fun k r _=>(((),(),(),(),b,(),((k+w3 r o.client:Nat):Int),()),((o.client,o.seq,o.kind,o.object,o.old,o.value,()),((),(),()),(false,0,()),((),(),()),(d,v,()),()),objs,l,()))
  (fun _ _=>by simp only[lV]; rw[ef,if_neg (by omega)]; rfl)
  (fun k _ x hx _=>by
    have hk:=la hx;have c1: (k:Int)< (l.length:Int):=by omega
    have c2: (0:Int)<=(k:Int)/\(k:Int)< (l.length:Int):=by omega
    simp only[lV,ef,ek,if_pos c1,if_pos c2,aB,hx,ae,dV ml hk];by_cases h:x.client<o.client
    ·rw[if_pos h];refine .inl ⟨(),rfl,trivial,?_⟩;rw[w3,if_pos h,show k+(w3 (l.drop (k+1)) o.client+1)=k+1+w3 (l.drop (k+1)) o.client by omega]
    ·rw[if_neg h];refine .inr ?_;rw[w3,if_neg h];rfl) 0 () (aA _) trivial
 simp only[aR,bK] at gm;exact gm
theorem Km {o:Op} (h:fh o=some (true,())):0<=o.object/\o.object<=2:=by
 unfold fh at h;simp only[gl,ae] at h;cases h1:kj o.client 0 2 with
 |false=>rw[h1] at h; cases h
 |true=>
  cases h2:kj o.seq 1 99 with
  |false=>rw[h1,h2] at h; cases h
  |true=>
   cases h3:kj o.object 0 2 with
   |false=>rw[h1,h2,h3] at h; cases h
   |true=>exact ey.1 h3
def Q8 (o:Op):Bool:=match fh o with |some (b,_)=>b|none=>false
theorem tJ (o:Op):fh o=some (Q8 o,()):=by obtain⟨b,h,_⟩:=Ki o;unfold Q8;rw[h]
def PD (l:List eb) (k:Nat):Bool:=match l[k]? with
 |some e=>kj e.epoch 1 20&&(Q8 e.op&&(decide (k=0)||match l[k-1]? with |some d=> !decide (d.epoch>e.epoch)|none=>false))
 |none=>false
theorem NA (l:List eb) (hl:l.length<=maxLen):gJ l=some (true,())↔l.length<=16/\ ∀k,k<l.length->PD l k=true:=by
 have gm:=u5 (B:=lU) l.length (fun k=>((l,(k:Int),()),(),())) (.inr ((l,(),()),(),())) (fun _=> .inl ((l,false,()),(),())) (fun k=> !PD l k)
  (by simp only[lU]; rw[ef,if_neg (by omega)])
  (fun k hk=>by
    have c1: (k:Int)< (l.length:Int):=by omega
    have c2: (0:Int)<=(k:Int):=by omega
    simp only[lU,ef,ek,if_pos c1,if_pos c2,aB,ah hk,ae,tJ,gl,dV hl hk,dS,PD];cases kj l[k].epoch 1 20 with
    |false=>rfl
    |true=>
     cases Q8 l[k].op with
     |false=>rfl
     |true=>
      by_cases h0:0<k
      ·have c3: (k:Int)>0:=by omega
       have c4: (0:Int)<=((k-1:Nat):Int):=by omega
       have c5: ¬k=0:=by omega
       have e2:l[k-1]? =some l[k-1] :=ah (by omega);simp only[eg,if_pos c3,oy h0 (by omega),if_pos c4,aB,e2,ae,decide_eq_false c5,du,ch,Bool.not_not];by_cases hlt:l[k-1].epoch>l[k].epoch
       ·rw[if_pos hlt,decide_eq_true hlt];rfl
       ·rw[if_neg hlt,decide_eq_false hlt];rfl
      ·have c3: ¬ (k:Int)>0:=by omega
       have c5:k=0:=by omega
       simp only[eg,if_neg c3,decide_eq_true c5];rfl)
 unfold gJ;rcases gm with ⟨k1,k2⟩| ⟨k,h0,k1,k2,_⟩
 ·rw[show sn ((l,0,()),(),())=_ from k1];simp only[ae,cP,af,an,and_true,decide_eq_true_eq];constructor
  ·intro h;exact⟨by omega,fun k hk=>by simpa using k2 k hk⟩
  ·intro h;omega
 ·rw[show sn ((l,0,()),(),())=_ from k1];simp only[ae,cW,af,an,and_true];constructor
  ·intro h;cases h
  ·rintro⟨_,h⟩
   have:=h k h0;rw[this] at k2;cases k2
structure VM (m:fJ):Prop where
 vlen:m.objects.length=3
 vobj: ∀v∈m.objects,kj v 0 9=true
 vses: ∀x∈m.sessions,kj x.client 0 2=true/\kj x.seq 1 99=true/\kj x.result.value 0 9=true
 vasc:m.sessions.Pairwise fun x y=>x.client<y.client
theorem Q9 {o:Op} (h:Q8 o=true):kj o.client 0 2=true/\kj o.seq 1 99=true/\kj o.value 0 9=true:=by
 have h0:fh o=some (true,()):=by rw[tJ,h]
 unfold fh at h0;simp only[gl,ae] at h0;cases h1:kj o.client 0 2 with
 |false=>rw[h1] at h0; cases h0
 |true=>
  cases h2:kj o.seq 1 99 with
  |false=>rw[h1,h2] at h0; cases h0
  |true=>
   cases h3:kj o.object 0 2 with
   |false=>rw[h1,h2,h3] at h0; cases h0
   |true=>
    cases h4:kj o.value 0 9 with
    |false=>rw[h1,h2,h3,h4] at h0; cases h0
    |true=>exact⟨rfl,rfl,rfl⟩
end Go.Proofs.YtlaicbcfjcplhaaGreat.En
namespace Go.Proofs.YtlaicbcfjcplhaaGreat.En
open Go
theorem vE (x:dR) (ok:fO 1048576 x) (id:Int): ∃b,ij x id=some (b,())/\iP x id=some (b,())/\(b=true->dX x=some (true,())/\0<=id/\id<5/\ ∀s,x.servers[id.toNat]? =some s->fG s id=some (true,())):=by
 obtain⟨v,v1,v2⟩:=ik x ok;cases v with
 |false=>
  refine⟨false,?_,?_,nofun⟩
  ·unfold ij; simp only[v1,ae,eS]
  ·unfold iP gq; simp only[v2,ae,eS]
 |true=>
  cases hw:kj id 0 4 with
  |false=>
   refine⟨false,?_,?_,nofun⟩
   ·unfold ij; simp only[v1,gl,hw,ae,eg,eS]
   ·unfold iP gq; simp only[v2,pz,hw,ae,eg,eS]
  |true=>
   have hid:=ey.1 hw;obtain⟨s,s1,s2,s3⟩:=zW ok (iK ok v1) (a:=id) (by omega);obtain⟨b,b1,b2⟩:=lO s id s2;refine⟨b,?_,?_,fun hb=>⟨v1,hid.1,by omega,fun s' hs=> ?_⟩⟩
   ·unfold ij; simp only[v1,gl,hw,ae,eg,ek,if_pos hid.1,s1,b1]
   ·unfold iP gq; simp only[v2,pz,hw,ae,eg,ek,if_pos hid.1,s1,b2]
   ·rw[s1] at hs;obtain rfl:=Option.some.inj hs;rw[b1,hb]
theorem NB (l:List eb) (hl:l.length<=1048576) (hv:gJ l=some (true,())):uE l=some (((pB l:Nat):Int),l.drop (pB l),()):=by
 unfold uE vw;have hc:pB l<=l.length:=by unfold pB; omega
 have c1: (0:Int)<=((pB l:Nat):Int)/\((pB l:Nat):Int)<=(l.length:Int)/\(l.length:Int)<=(l.length:Int):=by omega
 have ht: ((l.drop (pB l)).take (l.length-pB l))=l.drop (pB l):=bJ (by simp);simp only[hv,ae,cg,eS,Nz l hl,ek,if_pos c1,aB,ht,(vC (l.drop (pB l)) (by simp; omega)).1]
end Go.Proofs.YtlaicbcfjcplhaaGreat.En
namespace Go.Proofs.YtlaicbcfjcplhaaGreat.En
open Go
def Tt {α:Type} (Q:α->Prop) (r:Option α):Prop:= ∃a,r=some a/\Q a
section
variable {α β σ ε:Type} {Q:α->Prop} {Q':β->Prop}
theorem Tt.ret {a:α} (h:Q a):Tt Q (some a):=⟨a,rfl,h⟩
theorem Tt.bind {r:Option α} {k:α->Option β} (h:Tt Q r) (hk: ∀a,Q a->Tt Q' (k a)):Tt Q' (r.bind k):=by obtain⟨a,rfl,h⟩:=h;exact hk a h
theorem Tt.mono {Q2:α->Prop} {r:Option α} (h:Tt Q r) (hq: ∀a,Q a->Q2 a):Tt Q2 r:=h.imp fun _ h=>⟨h.1,hq _ h.2⟩
theorem Tt.ip {p:Prop} {d:Decidable p} {x y:Option α} (hp:p) (h:Tt Q x):Tt Q (@iteP _ p d x y):=by rw[hU hp];exact h
theorem Tt.br {b:Bool} {x y:Option α} (h1:b=true->Tt Q x) (h2:b=false->Tt Q y):Tt Q (br b x y):=by
 cases b with
 |true=>exact h1 rfl
 |false=>exact h2 rfl
theorem Tt.get {γ:Type} {l:List γ} {i:Nat} {k:γ->Option α} (hi:i<l.length) (h: ∀x,l[i]? =some x->x∈l->Tt Q (k x)):Tt Q ((l[i]?).bind k):=by rw[ah hi];exact h _ (ah hi) (bu hi)
theorem Tt.loop {B:σ->Option (σ⊕ε)} {E:ε->Prop} (I:σ->Prop) (μ:σ->Nat) (h: ∀s,I s->Tt (Sum.elim (fun s'=>I s'/\μ s'<μ s) E) (B s)) {s:σ} (hs:I s):Tt E (gW B s):=
 xA I μ E (fun s hs=>by
  obtain⟨r,h1,h2⟩:=h s hs;cases r with
  |inl s'=>exact .inl ⟨s',h1,h2.1,h2.2⟩
  |inr e=>exact .inr ⟨e,h1,h2⟩) hs
theorem Tt.go {p:Prop} [Decidable p] {x y:Option α} (hp:p) (h:Tt Q x):Tt Q (Go.Proofs.YtlaicbcfjcplhaaGreat.En.br (decide p) x y):=by rw[ef,if_pos hp];exact h
theorem Tt.end {p:Prop} [Decidable p] {x y:Option α} (hp: ¬p) (h:Tt Q y):Tt Q (Go.Proofs.YtlaicbcfjcplhaaGreat.En.br (decide p) x y):=by rw[ef,if_neg hp];exact h
theorem Tt.count {B:σ->Option (σ⊕ε)} {E:ε->Prop} (n:Nat) (m:Nat->β->σ) (J:Nat->β->Prop) (h0: ∀b,J n b->Tt (Sum.elim (fun _=>False) E) (B (m n b)))
  (h1: ∀k b,k<n->J k b->Tt (Sum.elim (fun s=> ∃b',s=m (k+1) b'/\J (k+1) b') E) (B (m k b))) (b:β) (hb:J 0 b):Tt E (gW B (m 0 b)):=by
 have go: ∀ (d k:Nat) (b:β),k+d=n->J k b->Tt E (gW B (m k b)):=by
  intro d
  induction d with
  |zero=>
   intro k b hk hb;obtain rfl:k=n:=hk;obtain⟨r,e1,e2⟩:=h0 b hb;cases r with
   |inl s=>exact e2.elim
   |inr e=>exact⟨e,by rw[qE,e1]; rfl,e2⟩
  |succ d ih=>
   intro k b hk hb;obtain⟨r,e1,e2⟩:=h1 k b (by omega) hb;cases r with
   |inl s=>obtain⟨b',rfl,hb'⟩:=e2;rw[qE,e1];exact ih (k+1) b' (by omega) hb'
   |inr e=>exact⟨e,by rw[qE,e1]; rfl,e2⟩
 exact go n 0 b (aR n) hb
end
abbrev T1 {α:Type} (_:α):Prop:=True
theorem o9 {l:List Int} (ha:rA l): ∀y∈l,0<=y/\y<5:=by intro y hy;obtain⟨k,hk,rfl⟩:=aP hy;have:=(ha k hk).1;omega
theorem sV (c:dU) (h:iR maxLen c):Tt (fun y=>y.1.length<=10/\ ∀z∈y.1,0<=z/\z<5) (gA c):=by obtain⟨v,v1,_⟩:=pA c h;unfold gA;rw[v1,ae,dS];refine .br (fun e=> ?_) fun _=> .ret ⟨aA _,nofun⟩;subst e;obtain⟨a1,a2,_⟩:=yb h v1;have l1:=a1.len;have l2:=a2.len;obtain⟨r,r1,_,r4,r5⟩:=Nx c.replicas c.witnesses (by omega) (by omega);rw[r1];exact .ret ⟨by show r.length<=10; omega,fun z hz=>((r4 z).1 hz).elim (o9 a1 z) (o9 a2 z)⟩
theorem HG {x:dR} (ok:fO 1048576 x) (vc:VC x) (a b:Int):Tt T1 (iA x.sides a b):=by have h5:=mC (eD ok.2.1) vc.sides;unfold iA;simp only[vc.sides,gl,ae,eg];refine .br (fun ha=> .br (fun hb=> ?_) fun _=> .ret trivial) fun _=> .ret trivial;have ha:=ey.1 ha;have hb:=ey.1 hb;exact .ip ha.1 (.get (by omega) fun _ _ _=> .ip hb.1 (.get (by omega) fun _ _ _=> .ret trivial))
theorem Tt.srv {α:Type} {Q:α->Prop} {x:dR} (ok:fO 1048576 x) (vc:VC x) {a:Int} (ha:0<=a/\a<5) {k:dT->Option α} (h: ∀s,x.servers[a.toNat]? =some s->gr 1048576 s->eX s a=some (true,())->Tt Q (k s)):Tt Q (iteP (0<=a) ((x.servers[a.toNat]?).bind k) none):=by obtain⟨s,s1,s2,s3⟩:=zW ok vc ha;refine .ip ha.1 ?_;rw[s1];exact h s s1 s2 s3
theorem NC {x:dR} (ok:fO 1048576 x) (vc:VC x) {a b:Int} (ha:0<=a/\a<5) (hb:0<=b/\b<5):Tt T1 (oG x a b):=by unfold oG;refine .srv ok vc hb fun m m1 m2 _=> .bind (HG ok vc a b) fun _ _=> .br (fun _=> .br (fun _=> .srv ok vc ha fun p p1 p2 _=> .br (fun _=> .srv ok vc ha fun _ _ _ _=> .br (fun _=> .srv ok vc ha fun q _ _ _=> ?_) fun _=> .ret trivial) fun _=> .ret trivial) fun _=> .ret trivial) fun _=> .ret trivial;rw[(gT m.config q.config (eV m2.1)).1];exact .ret trivial
theorem va {l:List eb} (h:l.length<=maxLen): ∃b,gJ l=some (b,())/\(b=true->l.length<=16):=by
 rcases HB l h with ⟨h1,_,h2⟩| ⟨h1,_⟩
 ·exact⟨true,h1,fun _=>h2⟩
 ·exact⟨false,h1,nofun⟩
theorem yd {l:List eb} (h:l.length<=1048576):iq l=some (l,()):=(vC l h).1
theorem Qb (l:List eb) (c q:Int) (hl:l.length<=maxLen):Tt (fun y=>y.1= -1\/0<=y.1/\y.1< (l.length:Int)) (sx l c q):=by
 unfold sx;refine .bind (.count (B:=oD) (E:=Sum.elim (fun y=>0<=y.1.1/\y.1.1< (l.length:Int)) fun _=>True) l.length (fun k (_:Unit)=>((l,c,q,(k:Int),()),(),())) (fun _ _=>True) (fun _ _=> ?_) (fun k _ hk _=> ?_) () trivial) fun y hy=> ?_
 ·unfold oD;simp only[ef];rw[if_neg (by omega)];exact .ret trivial
 ·unfold oD;simp only[ef];rw[if_pos (by omega)];refine .ip (by omega) (.get (by omega) fun _ _ _=> .br (fun _=> .ip (by omega) (.get (by omega) fun _ _ _=> .br (fun _=> .ret ?_) fun _=> .ret ⟨(),by rw[dV hl hk],trivial⟩)) fun _=> .ret ⟨(),by rw[dV hl hk],trivial⟩);exact⟨by show (0:Int)<=k; omega,by show (k:Int)<_; omega⟩
 ·cases y with
  |inl y=>exact .ret (.inr hy)
  |inr y=>exact .ret (.inl rfl)
end Go.Proofs.YtlaicbcfjcplhaaGreat.En
namespace Go.Proofs.YtlaicbcfjcplhaaGreat.En
open Go
theorem w4 {l:List dT} (h:l.length<=1048576/\ ∀s∈l,gr 1048576 s) {s:dT} (hs:gr 1048576 s) (i:Nat): (l.set i s).length<=1048576/\ ∀s'∈l.set i s,gr 1048576 s':=
 ⟨by rw[bD]; exact h.1,fun s' hm=>(cu hm).elim (h.2 s') fun e=>e ▸ hs⟩
theorem Ra (x:dR) (ok:fO 1048576 x) (id:Int): ∃y n,mq x id=some (y,n,())/\fO 1048576 y/\y.servers.length=x.servers.length:=by
 obtain⟨b,b1,_,b2⟩:=Fx x id ok;unfold mq;simp only[(ir x ok).1,b1,ae,dS];cases b with
 |false=>exact⟨x,1,rfl,ok,rfl⟩
 |true=>
  obtain⟨hv,h0,h5⟩:=b2 rfl;obtain⟨s,s1,_⟩:=zW ok (iK ok hv) ⟨h0,h5⟩;have hlt:=la s1;have hs:=ok.1.2 s (aw s1);simp only[eg,ek,if_pos h0,s1,ae];rw[if_pos ⟨h0,by omega⟩];cases s.up with
  |false=>exact⟨x,2,rfl,ok,rfl⟩
  |true=>exact⟨_,0,rfl,⟨w4 ok.1 (show gr 1048576 ⟨false,s.intact,s.version,s.epoch,s.config,s.first,s.log,s.commit,s.learned⟩ from hs) _,ok.2⟩,bD⟩
theorem ND (x:dR) (ok:fO 1048576 x) (id:Int): ∃y n,kL x id=some (y,n,())/\fO 1048576 y/\y.servers.length=x.servers.length:=by
 obtain⟨b,b1,_,b2⟩:=Fx x id ok;unfold kL;simp only[(ir x ok).1,b1,ae,dS];cases b with
 |false=>exact⟨x,1,rfl,ok,rfl⟩
 |true=>
  obtain⟨hv,h0,h5⟩:=b2 rfl;obtain⟨s,s1,_⟩:=zW ok (iK ok hv) ⟨h0,h5⟩;have hlt:=la s1;have hs:=ok.1.2 s (aw s1);simp only[eg,ek,if_pos h0,s1,ae];rw[if_pos ⟨h0,by omega⟩];cases s.up with
  |true=>exact⟨x,1,rfl,ok,rfl⟩
  |false=>exact⟨_,0,rfl,⟨w4 ok.1 (show gr 1048576 ⟨true,s.intact,s.version,s.epoch,s.config,s.first,s.log,s.commit,s.learned⟩ from hs) _,ok.2⟩,bD⟩
theorem Si (x:dR) (ok:fO 1048576 x) (id:Int): ∃y n,qW x id=some (y,n,())/\fO 1048576 y/\y.servers.length=x.servers.length:=by
 obtain⟨b,b1,_,b2⟩:=Fx x id ok;unfold qW;simp only[(ir x ok).1,b1,ae,dS];cases b with
 |false=>exact⟨x,1,rfl,ok,rfl⟩
 |true=>obtain⟨hv,h0,h5⟩:=b2 rfl;obtain⟨s,s1,_⟩:=zW ok (iK ok hv) ⟨h0,h5⟩;have hlt:=la s1;simp only[eg,ek,if_pos h0,s1,ae,qc];rw[if_pos ⟨h0,by omega⟩];exact⟨_,0,rfl,⟨w4 ok.1 ⟨⟨aA _,aA _⟩,aA _,aA _⟩ _,ok.2⟩,bD⟩
theorem NE (x:dR) (ok:fO 1048576 x) (n:Int): ∃y k,nY x n=some (y,k,())/\fO 1048576 y/\y.servers.length=x.servers.length:=by
 obtain⟨v,v1,_⟩:=ik x ok;unfold nY;simp only[(ir x ok).1,v1,gl,ae,dS];cases v with
 |false=>exact⟨x,1,rfl,ok,rfl⟩
 |true=>
  simp only[eg];cases kj n 0 3 with
  |false=>exact⟨x,1,rfl,ok,rfl⟩
  |true=>exact⟨_,0,rfl,ok,rfl⟩
theorem Sj (x:dR) (ok:fO 1048576 x) (a b:Int): ∃y k,nX x a b=some (y,k,())/\fO 1048576 y/\y.servers.length=x.servers.length:=by
 obtain⟨v,v1,_⟩:=ik x ok;obtain⟨u,u1,_⟩:=u6 x.sides (eD ok.2.1)
 have hm: ∃l t,qX x.sides a b=some (l,t,())/\l.length=x.sides.length:=by
  unfold qX;simp only[aZ,ek,u1,gl,ae,dS];rw[if_pos (show x.sides.length*8<=2 ^ 40 by have:=ok.2.1; omega)];cases u with
  |false=>exact⟨_,_,rfl,rfl⟩
  |true=>
   simp only[eg];cases hw:kj a 0 4 with
   |false=>exact⟨_,_,rfl,rfl⟩
   |true=>
    simp only[eg];cases kj b 0 3 with
    |false=>exact⟨_,_,rfl,rfl⟩
    |true=>have hw:=ey.1 hw;have hl:=mC (eD ok.2.1) u1;simp only[eg];rw[if_pos ⟨hw.1,by omega⟩,ah (by omega)];exact⟨_,_,rfl,bD⟩
 obtain⟨l,t,l1,l2⟩:=hm;unfold nX;simp only[(ir x ok).1,v1,l1,ae,dS];cases v with
 |false=>exact⟨x,1,rfl,ok,rfl⟩
 |true=>
  cases t with
  |false=>exact⟨x,1,rfl,ok,rfl⟩
  |true=>exact⟨_,0,rfl,⟨ok.1,by show l.length<=1048576; rw[l2]; exact ok.2.1,ok.2.2⟩,rfl⟩
theorem CB (x:dR) (ok:fO 1048576 x) (id:Int): ∃n:Int,jw x id=some (n,())/\(n=0->dX x=some (true,())/\0<=id/\id<5):=by
 obtain⟨v,v1,_⟩:=ik x ok;unfold jw;simp only[v1,gl,ae,dS];cases v with
 |false=>exact⟨1,rfl,fun h=>absurd h (by decide)⟩
 |true=>
  simp only[eg];cases hw:kj id 0 4 with
  |false=>exact⟨1,rfl,fun h=>absurd h (by decide)⟩
  |true=>
   have hw:=ey.1 hw;obtain⟨s,s1,_⟩:=zW ok (iK ok v1) ⟨hw.1,by omega⟩;simp only[eg,ek,if_pos hw.1,s1,ae];cases s.up with
   |false=>exact⟨2,rfl,fun h=>absurd h (by decide)⟩
   |true=>exact⟨0,rfl,fun _=>⟨trivial,hw.1,by omega⟩⟩
end Go.Proofs.YtlaicbcfjcplhaaGreat.En
namespace Go.Proofs.YtlaicbcfjcplhaaGreat.En
open Go
theorem tn {k n:Nat} (h:k<n): (k:Int).toNat<n:=h
theorem HH (m:fJ) (ho:m.objects.length<=1000) (hs:m.sessions.length<=1000):Tt (fun y=>y.1=true->m.objects.length=3) (iV m):=by
 have mo:m.objects.length<=maxLen:=by unfold maxLen; omega
 have ms:m.sessions.length<=maxLen:=by unfold maxLen; omega
 unfold iV;refine .bind (.count (B:=kv) (E:=Sum.elim (fun y=>y.1.2=(false,())) fun y=>y.2.1=((m.objects,m.sessions,()),())) m.objects.length (fun k (_:Unit)=>(((),(k:Int),()),((m.objects,m.sessions,()),()),())) (fun _ _=>True) (fun _ _=> .end (aV _) (.ret rfl)) (fun k _ hk _=> .go (aG.2 hk) (.ip (au k) (.get (tn hk) fun x _ _=> ?_))) () trivial) fun y hy=> ?_
 ·rw[gl,ae,dS];exact .br (fun _=> .ret ⟨(),by rw[dV mo hk],trivial⟩) fun _=> .ret rfl
 cases y with
 |inl y=>exact .ret (by rw[show y.1.2=_ from hy]; nofun)
 |inr y=>
  show Tt _ ((qK (((),0,()),y.2.1,())).bind _);rw[show y.2.1=_ from hy];refine .bind (.count (B:=kw) (E:=Sum.elim (fun y=>y.1.2=(false,())) fun y=>y.2.1=((m.objects,m.sessions,()),())) m.sessions.length (fun k (_:Unit)=>(((),(k:Int),()),((m.objects,m.sessions,()),()),())) (fun _ _=>True) (fun _ _=> .end (aV _) (.ret rfl)) (fun k _ hk _=> .go (aG.2 hk) (.ip (au k) (.get (tn hk) fun x _ _=> ?_))) () trivial) fun y hy=> ?_
  ·simp only[gl,ae,dS]
   have hw: (k:Int)>0->IntKind.wrap .i64 ((k:Int)-1)=(k:Int)-1:=fun h=>by unfold maxLen at ms;exact eL (by omega) (by omega)
   refine .br (fun _=> .br (fun _=> .br (fun _=> .br (fun h=> ?_) fun _=> .ret ⟨(),by rw[dV ms hk],trivial⟩) fun _=> .ret rfl) fun _=> .ret rfl) fun _=> .ret rfl;have h:=of_decide_eq_true h;rw[hw h];exact .ip (by omega) (.get (by omega) fun _ _ _=> .br (fun _=> .ret rfl) fun _=> .ret ⟨(),by rw[dV ms hk],trivial⟩)
  cases y with
  |inl y=>exact .ret (by rw[show y.1.2=_ from hy]; nofun)
  |inr y=>show Tt _ (some (((y.2.1.1.1.length:Int)==3),()));rw[show y.2.1=_ from hy];exact .ret fun h=>by have : (m.objects.length:Int)=3:=eq_of_beq h; omega
theorem NF (m:fJ) (c:Int) (hs:m.sessions.length<=1000):Tt (fun y=>y.2.1=true-> ∃x∈m.sessions,x.client=c) (ph m c):=by
 have ms:m.sessions.length<=maxLen:=by unfold maxLen; omega
 unfold ph;refine .bind (.count (B:=oW) (E:=Sum.elim (fun y=> ∃x∈m.sessions,x.client=c) fun _=>True) m.sessions.length (fun k (_:Unit)=>((c,(),(),(k:Int),()),((m.objects,m.sessions,()),(0,0,false,0,()),()),())) (fun _ _=>True) (fun _ _=> .end (aV _) (.ret trivial)) (fun k _ hk _=> .go (aG.2 hk) (.ip (au k) (.get (tn hk) fun x _ hx=> .br (fun e=> .ip (au k) (.get (tn hk) fun _ _ _=> .ret ⟨x,hx,eq_of_beq e⟩)) fun _=> .ret ⟨(),by rw[dV ms hk],trivial⟩))) () trivial) fun y hy=> ?_;cases y with
 |inl y=>exact .ret fun _=>hy
 |inr y=>exact .ret nofun
theorem Jf (m:fJ) (o:Op) (ho:m.objects.length<=1000) (hs:m.sessions.length<=900):Tt (fun y=>y.1.sessions.length<=m.sessions.length+1/\y.1.objects.length=m.objects.length) (oE m o):=by
 obtain⟨⟨b,_⟩,v1,v2⟩:=HH m ho (by omega);unfold oE
 have cp:uC m=some (m,()):=by unfold uC;simp only[aZ];rw[hU (by omega),hU (by omega)]
 rw[cp,ae,v1,ae,dS,tJ];refine .br (fun e=> ?_) fun _=> .ret ⟨cc _,rfl⟩;have h3:=v2 e;rw[ae,dS];refine .br (fun eo=> .bind (NF m o.client (by omega)) fun y hy=> ?_) fun _=> .ret ⟨cc _,rfl⟩;have hob:=Km (show fh o=some (true,()) by rw[tJ]; rw[show Q8 o=true from eo]);have hle:=PB m.sessions o.client;have hlt:y.2.1=true->w3 m.sessions o.client<m.sessions.length:=fun h=>PC (hy h);have hw:IntKind.wrap .i64 (((w3 m.sessions o.client:Nat):Int)+1)=((w3 m.sessions o.client:Nat):Int)+1:=eL (by omega) (by omega);generalize hp:w3 m.sessions o.client=p at hle hlt hw
 have ln: ∀ (k:Nat) (z:en),k<=m.sessions.length+1->p<=k->(m.sessions.take p++ [z] ++(m.sessions.drop k).take (m.sessions.length-k)).length=p+1+(m.sessions.length-k):=fun k z h1 h2=>by simp only[az,aY,bi,ax];omega
 have g0:0<=(p:Int):=au p;have g1: (p:Int)<=(m.sessions.length:Int):=Int.ofNat_le.2 hle;have g3:0<=(p:Int)+1:=by omega
 have g2:y.2.1=true->(p:Int)+1<=(m.sessions.length:Int):=fun h=>by have:=hlt h; omega
 have l1: (m.sessions.take p).length<=900:=by rw[aY]; omega
 extract_lets+lift j44 j45
 have h44:Tt (fun y=>y.1.sessions.length<=m.sessions.length+1/\y.1.objects.length=m.objects.length) j44:=by
  unfold j44;refine .ip hob.1 (.get (by show o.object.toNat<_; omega) fun x _ _=> .br (fun _=> .ip (by show 0<=o.object/\o.object< (m.objects.length:Int); omega) (.get (by show o.object.toNat<m.objects.length; omega) fun _ _ _=> ?_)) fun _=> .br (fun _=> .ip (by show 0<=o.object/\o.object< (m.objects.length:Int); omega) (.get (by show o.object.toNat<m.objects.length; omega) fun _ _ _=> ?_)) fun _=> ?_)
  all_goals
   show Tt _ ((p9 (((),(),(),(),y.2.1,(),0,()),((o.client,o.seq,o.kind,o.object,o.old,o.value,()),((),(),()),(false,0,()),((),(),()),(_,_,()),()),_,m.sessions,())).bind _);rw[Ti _ _ _ _ _ _ (by omega),hp,ae];simp only[hw,aZ,aR,bK,aB,show (0:Int).toNat=0 from rfl,cU,show ((p:Int)+1).toNat=p+1 from rfl];refine .ip ⟨g0,g1,bO _⟩ (.br (fun e=> ?_) fun _=> ?_)
   ·have:=hlt e;refine .ip ⟨g3,g2 e,bO _⟩ (.ip ⟨bO _,g0,g1⟩ (.ip hle (.ip (by omega) (.ip (by rw[az,ax]; omega) (.ip (by omega) (.ip (by rw[ln _ _ (by omega) (by omega)]; omega) (.ret ⟨?_,by first |rfl|exact bD⟩)))))));show List.length _<=_;rw[ln _ _ (by omega) (by omega)];omega
   ·refine .ip ⟨bO _,g0,g1⟩ (.ip hle (.ip (by omega) (.ip (by rw[az,ax]; omega) (.ip (by omega) (.ip (by rw[ln _ _ (by omega) (by omega)]; omega) (.ret ⟨?_,by first |rfl|exact bD⟩))))));show List.length _<=_;rw[ln _ _ (by omega) (by omega)];omega
 have h45:Tt (fun y=>y.1.sessions.length<=m.sessions.length+1/\y.1.objects.length=m.objects.length) j45:= .br (fun _=> .br (fun _=> .ret ⟨cc _,rfl⟩) fun _=>h44) fun _=>h44;exact .br (fun _=> .br (fun _=> .ret ⟨cc _,rfl⟩) fun _=>h45) fun _=>h45
theorem FB (l:List eb) (hl:l.length<=maxLen):Tt (fun y=>y.1.objects.length<=3/\y.1.sessions.length<=16) (lz l):=by obtain⟨b,b1,b2⟩:=va hl;unfold lz pZ;rw[ae,b1,ae,dS];refine .br (fun e=> ?_) fun _=> .ret ⟨aA _,aA _⟩;have h16:=b2 e;refine .bind (.count (B:=oX) (E:=fun y=>y.2.2.1.length<=3/\y.2.2.2.1.length<=16) l.length (fun k (b:List Int×List en)=>((l,(),(),(k:Int),()),(((),(),()),((),(),()),()),b.1,b.2,())) (fun k b=>b.1.length<=3/\b.2.length<=k) (fun b hb=> .end (aV _) (.ret ⟨hb.1,aL hb.2 h16⟩)) (fun k b hk hb=> .go (aG.2 hk) (.ip (au k) (.get (tn hk) fun x _ _=> .bind (Jf ⟨b.1,b.2⟩ x.op (aL hb.1 (by omega)) (aL hb.2 (by omega))) fun y hy=> .ret ⟨(y.1.objects,y.1.sessions),by rw[dV hl hk],by rw[hy.2]; exact hb.1,aL hy.1 (Nat.succ_le_succ hb.2)⟩))) ([0,0,0],[]) ⟨aq _,aq _⟩) fun y hy=> .ret hy
theorem Kn (l:List eb) (i:Int) (hl:l.length<=maxLen):Tt T1 (oH l i):=by obtain⟨b,b1,b2⟩:=va hl;unfold oH;rw[b1,ae,dS];refine .br (fun e=> ?_) fun _=> .ret trivial;have h16:=b2 e;rw[eL (n:=(l.length:Int)-1) (by omega) (by omega),gl,ae,dS];refine .br (fun h=> ?_) fun _=> .ret trivial;have h:=ey.1 h;refine .ip (by omega) (.bind (FB _ ?_) fun y hy=> .ip h.1 (.get (by omega) fun x _ _=> .bind (Jf _ _ (by omega) (by omega)) fun z _=> .ret trivial));refine aL ?_ hl;rw[aY,bi];omega
theorem w6 (s:dT) (h:gr 1048576 s) (hf:0<=s.first/\s.first<=16/\s.log.length<=16):Tt (fun y=>y.1.length<=16) (fH s):=by
 unfold fH;rw[eL (n:=s.first+(s.log.length:Int)) (by omega) (by omega)];simp only[gl,ae,dS];refine .br (fun h1=> ?_) fun _=> .ret (aA _);have h1:=ey.1 h1;refine .br (fun _=> .ret (aA _)) fun _=> ?_;rw[eL (n:=s.commit-s.first) (by omega) (by omega)]
 have hlen: ((s.log.drop (0:Int).toNat).take ((s.commit-s.first).toNat-(0:Int).toNat)).length<=16:=by rw[aY,bi];omega
 refine .ip (by omega) ?_;rw[yd (by omega)];exact .ret hlen
theorem Sk (m:fJ) (i:Int) (ho:m.objects.length<=1000) (hs:m.sessions.length<=1000):Tt T1 (nN m i):=by obtain⟨⟨b,_⟩,b1,b2⟩:=HH m ho hs;unfold nN;rw[b1,ae,dS];refine .br (fun e=> ?_) fun _=> .ret trivial;have h3:=b2 e;rw[gl,ae,dS];refine .br (fun h=> ?_) fun _=> .ret trivial;have h:=ey.1 h;exact .ip h.1 (.get (by omega) fun _ _ _=> .ret trivial)
theorem FC {s:dT} {id:Int} (h:gr 1048576 s) (hv:eX s id=some (true,())):0<=s.first/\s.first<=16/\s.log.length<=16:=by obtain⟨h1,h2,h3,_⟩:=HC h hv;exact⟨h1,h2,h3⟩
theorem Rb (s:dT) (i:Int) (h:gr 1048576 s) (hf:0<=s.first/\s.first<=16/\s.log.length<=16):Tt T1 (qN s i):=by unfold qN;exact .bind (w6 s h hf) fun y hy=> .bind (FB _ (by unfold maxLen; omega)) fun z hz=> .bind (Sk _ _ (by omega) (by omega)) fun _ _=> .ret trivial
theorem Rc (l:eK) (a b c:Int):Tt T1 (jx l a b c):=by obtain⟨v,v1,_⟩:=rB l;unfold jx;rw[v1,ae,gl,ae];exact .br (fun _=> .br (fun _=> .br (fun _=> .br (fun _=> .br (fun _=> .ret trivial) fun _=> .ret trivial) fun _=> .ret trivial) fun _=> .ret trivial) fun _=> .ret trivial) fun _=> .ret trivial
theorem NG (x:dR) (ok:fO 1048576 x) (id:Int):Tt T1 (jW x id):=by obtain⟨b,b1,_,b2⟩:=vE x ok id;unfold jW;rw[b1,ae];refine .br (fun e=> ?_) fun _=> .ret trivial;obtain⟨hv,h0,h5,_⟩:=b2 e;exact .srv ok (iK ok hv) ⟨h0,h5⟩ fun s _ _ _=> .bind (Rc _ _ _ _) fun _ _=> .ret trivial
theorem Jg (x:dR) (ok:fO 1048576 x) (id i:Int):Tt T1 (pi x id i):=by obtain⟨n,n1,n2⟩:=CB x ok id;unfold pi;rw[n1,ae,dS];refine .br (fun e=> ?_) fun _=> .ret trivial;obtain⟨hv,h0,h5⟩:=n2 (eq_of_beq e);have vc:=iK ok hv;rw[gl,ae,dS];refine .br (fun _=> .srv ok vc ⟨h0,h5⟩ fun s _ s2 _=> ?_) fun _=> .ret trivial;obtain⟨b,b1,_⟩:=lO s id s2;rw[b1,ae,dS];refine .br (fun _=> .bind (NG x ok id) fun y _=> ?_) fun _=> .ret trivial;rw[dS];exact .br (fun _=> .srv ok vc ⟨h0,h5⟩ fun s _ s2 s3=> .bind (Rb s i s2 (FC s2 s3)) fun _ _=> .ret trivial) fun _=> .ret trivial
end Go.Proofs.YtlaicbcfjcplhaaGreat.En
namespace Go.Proofs.YtlaicbcfjcplhaaGreat.En
open Go
def Kp (x y:dR):Prop:=fO 1048576 y/\y.servers.length=x.servers.length
theorem Kp.self {x:dR} (ok:fO 1048576 x):Kp x x:=⟨ok,rfl⟩
theorem Kp.trans {x y z:dR} (h:Kp x y) (k:Kp y z):Kp x z:=⟨k.1,k.2.trans h.2⟩
theorem Kp.srvs {x y:dR} (h:Kp x y) {S:List dT} (hl:S.length=y.servers.length) (hs: ∀s∈S,gr 1048576 s):Kp x ⟨y.now,S,y.sides,y.master,y.masterUp,y.lease,y.places⟩:=
 ⟨⟨⟨by rw[hl]; exact h.1.1.1,hs⟩,h.1.2⟩,hl.trans h.2⟩
theorem Kp.set {x y:dR} (h:Kp x y) {s:dT} (hs:gr 1048576 s) (i:Nat):Kp x ⟨y.now,y.servers.set i s,y.sides,y.master,y.masterUp,y.lease,y.places⟩:=
 h.srvs bD (w4 h.1.1 hs i).2
theorem Tt.at {α:Type} {Q:α->Prop} {l:List dT} (h5:l.length=5) {a:Int} (ha:0<=a/\a<5) {k:dT->Option α} (h: ∀s,l[a.toNat]? =some s->s∈l->Tt Q (k s)):Tt Q (iteP (0<=a/\a< (l.length:Int)) ((l[a.toNat]?).bind k) none):=
 .ip (by rw[h5]; exact ha) (.get (by omega) h)
theorem Rd (x:dR) (ok:fO 1048576 x) (id:Int):Tt T1 (mm x id):=by obtain⟨b,b1,_,b2⟩:=vE x ok id;unfold mm;rw[b1,ae,dS];refine .br (fun e=> ?_) fun _=> .ret trivial;obtain⟨hv,h0,h5,_⟩:=b2 e;have vc:=iK ok hv;refine .srv ok vc ⟨h0,h5⟩ fun s _ s2 _=> .bind (sV _ (eV s2.1)) fun y hy=> .bind (.count (B:=mG) (E:=fun _=>True) y.1.length (fun k (b:Int)=>(((),b,(),(k:Int),()),(fx x,()),y.1,())) (fun _ _=>True) (fun _ _=> .end (aV _) (.ret trivial)) (fun k b hk _=> .go (aG.2 hk) (.ip ⟨au k,aG.2 hk⟩ (.get (tn hk) fun z _ hz=> .srv ok vc (hy.2 z hz) fun t _ _ _=> .ret ⟨_,by rw[dV (by have:=hy.1; unfold maxLen; omega) hk],trivial⟩))) 2 trivial) fun _ _=> .ret trivial
theorem PE (x:dR) (ok:fO 1048576 x) (id:Int) (o:Op):Tt (fun y=>Kp x y.1/\(y.2.1=0->y.1.servers.length=5/\0<=id/\id<5)) (jv x id o):=by
 obtain⟨v,v1,_⟩:=ik x ok;unfold jv;rw[(ir x ok).1,ae,v1,ae,dS];have bad: ∀n:Int,n≠0->Tt (fun y:dR×Int×Unit=>Kp x y.1/\(y.2.1=0->y.1.servers.length=5/\0<=id/\id<5)) (some (x,n,())):=fun n hn=> .ret ⟨.self ok,fun h=>absurd h hn⟩;refine .br (fun e=> ?_) fun _=>bad 1 (by decide);subst e;have vc:=iK ok v1;rw[gl,ae,dS];refine .br (fun h=> ?_) fun _=>bad 1 (by decide);have h:=ey.1 h;have hid:0<=id/\id<5:=by omega
 rw[tJ,ae,dS];refine .br (fun _=> .srv ok vc hid fun s s1 s2 s3=> ?_) fun _=>bad 1 (by decide);rw[dS];refine .br (fun _=> ?_) fun _=>bad 2 (by decide);obtain⟨b,b1,_⟩:=lO s id s2;rw[b1,ae,dS];refine .br (fun _=> .bind (Qb s.log _ _ (eD s2.2.1)) fun y hy=> ?_) fun _=>bad 3 (by decide);have good: ∀n:Int,Tt (fun y:dR×Int×Unit=>Kp x y.1/\(y.2.1=0->y.1.servers.length=5/\0<=id/\id<5)) (some (x,n,())):=fun n=> .ret ⟨.self ok,fun _=>⟨vc.len,hid⟩⟩
 extract_lets+lift j17 j18
 have h17:Tt (fun y=>Kp x y.1/\(y.2.1=0->y.1.servers.length=5/\0<=id/\id<5)) j17:=by
  unfold j17;refine .at vc.len hid fun s' e' hs'=> ?_;show Tt _ ((x.servers[id.toNat]?).bind _);rw[e',ae];have hs:=ok.1.2 s' hs';have hs3:=hs.2.1;obtain rfl:s'=s:=by rw[s1] at e'; exact (Option.some.inj e').symm
  have hl:=(FC s2 s3).2.2;refine .ip rfl ?_;have e1: ∀X Y:Option (dR×Int×Unit),iteP (s'.log.length<s'.log.length) X Y=Y:=fun X Y=>by rw[ek,if_neg (de _)]
  rw[e1]
  have hl2: (s'.log.take s'.log.length++([(⟨s'.epoch,o⟩:eb)]:List eb)).length<=17:=by rw[az,aY,ax];omega
  refine .ip (by omega) (.ip (by show 0<=id/\id< (x.servers.length:Int); rw[vc.len]; exact hid) (.ip rfl (.ret ⟨(Kp.self ok).set (s:=⟨s'.up,s'.intact,s'.version,s'.epoch,s'.config,s'.first,s'.log.take s'.log.length++ [⟨s'.epoch,o⟩],s'.commit,s'.learned⟩) ⟨hs.1,aL hl2 (by omega),hs.2.2⟩ _,fun _=>⟨by show (x.servers.set _ _).length=5; rw[bD]; exact vc.len,hid⟩⟩)))
 have h18:Tt (fun y=>Kp x y.1/\(y.2.1=0->y.1.servers.length=5/\0<=id/\id<5)) j18:=by unfold j18;refine .bind (FB s.log (eD s2.2.1)) fun m hm=> .bind (Jf m.1 o (by omega) (by omega)) fun z _=> ?_;rw[dS];refine .br (fun _=> .bind (Q:=T1) (by unfold kU; exact .ret trivial) fun w _=> ?_) fun _=>good 11;exact .br (fun _=> .bind (Rd x ok id) fun _ _=> .br (fun _=>good 6) fun _=> .br (fun _=>good 5) fun _=>h17) fun _=> .br (fun _=>good 5) fun _=>h17
 refine .br (fun h=> .ip (of_decide_eq_true h) (.get ?_ fun e _ _=> ?_)) fun _=> .br (fun _=>good 0) fun _=>h18
 ·have h:=of_decide_eq_true h;omega
 ·rw[dS];exact .br (fun _=> .br (fun _=>good 0) fun _=>h18) fun _=>good 11
theorem Sl (x:dR) (ok:fO 1048576 x) (id m:Int):Tt (fun y=>Kp x y.1/\(y.2.1=true->0<=m/\m<5)) (lC x id m):=by
 obtain⟨b,b1,_,b2⟩:=vE x ok id;have bad:Tt (fun y:dR×Bool×Unit=>Kp x y.1/\(y.2.1=true->0<=m/\m<5)) (some (x,false,())):= .ret ⟨.self ok,nofun⟩;unfold lC;rw[(ir x ok).1,ae,b1,ae,dS];refine .br (fun e=> ?_) fun _=>bad;obtain⟨hv,h0,h5,hp⟩:=b2 e;have vc:=iK ok hv;refine .srv ok vc ⟨h0,h5⟩ fun s s1 s2 s3=> .bind (sV _ (eV s2.1)) fun y hy=> ?_;rw[(gf y.1 m (by have:=hy.1; unfold maxLen; omega)).1,ae,dS];refine .br (fun hm=> ?_) fun _=>bad;have hm:=hy.2 m (of_decide_eq_true hm);refine .bind (NC ok vc ⟨h0,h5⟩ hm) fun z _=> ?_;rw[dS];refine .br (fun _=> .srv ok vc ⟨h0,h5⟩ fun t t1 t2 t3=> .srv ok vc ⟨h0,h5⟩ fun u _ u2 _=> ?_) fun _=>bad;obtain⟨n,n1,_⟩:=wY u.config m (eV u2.1);rw[n1,ae];have five: ∀ (i:Nat) (s:dT),(x.servers.set i s).length=5:=fun i s=>by rw[bD]; exact vc.len
 refine .br (fun _=> ?_) fun _=> ?_
 ·rw[NB t.log t2.2.1 (HC t2 t3).2.2.2.2.2.1,ae];refine .ip (by show 0<=m/\m< (x.servers.length:Int); rw[vc.len]; exact hm) (.at vc.len hm fun w _ hw=> ?_);have hw:=ok.1.2 w hw;refine .get (by rw[five]; omega) fun w' _ hw'=> .ret ⟨.srvs (.self ok) (by rw[bD,bD]) fun s hs=> ?_,fun _=>hm⟩;have all:=(w4 ok.1 (s:=⟨w.up,w.intact,w.version,w.epoch,w.config,((pB t.log:Nat):Int),w.log,w.commit,w.learned⟩) hw m.toNat)
  have hw':=all.2 w' hw';exact (w4 all (s:=⟨w'.up,w'.intact,w'.version,w'.epoch,w'.config,w'.first,t.log.drop (pB t.log),w'.commit,w'.learned⟩) ⟨hw'.1,by show List.length _<=_; rw[bi]; have:=t2.2.1; omega,hw'.2.2⟩ m.toNat).2 s hs
 ·rw[yd t2.2.1,ae];exact .at vc.len hm fun w _ hw=> .ret ⟨(Kp.self ok).set (s:=⟨w.up,w.intact,w.version,w.epoch,w.config,w.first,t.log,w.commit,w.learned⟩) ⟨(ok.1.2 w hw).1,t2.2.1,(ok.1.2 w hw).2.2⟩ _,fun _=>hm⟩
theorem Jh {l:List dT} (h:l.length=5/\ ∀s∈l,gr 1048576 s) {s:dT} (hs:gr 1048576 s) (i:Nat): (l.set i s).length=5/\ ∀t∈l.set i s,gr 1048576 t:=⟨by rw[bD]; exact h.1,fun t ht=>(cu ht).elim (h.2 t) fun e=>e ▸ hs⟩
abbrev fz:Int×Unit×Unit×Unit×Int×Int×Int×Int×Int×Unit×Unit:=(0,(),(),(),0,0,0,0,0,(),())
abbrev fc (x:dR):Int×Unit×Unit×Unit×Int×Int×Int×Int×Int×Unit×Unit:=(x.now,(),(),(),x.master.activated,x.masterUp,x.lease.epoch,x.lease.holder,x.lease.ends,(),())
theorem Ko (x:dR) (ok:fO 1048576 x) (id:Int):Tt (fun y=>Kp x y.1) (jk x id):=by
 obtain⟨b,b1,_,b2⟩:=vE x ok id;unfold jk;rw[(ir x ok).1,ae,b1,ae,dS];refine .br (fun e=> ?_) fun _=> .ret (.self ok);obtain⟨hv,h0,h5,hp⟩:=b2 e;have vc:=iK ok hv;refine .srv ok vc ⟨h0,h5⟩ fun s s1 s2 s3=> .bind (sV _ (eV s2.1)) fun y hy=> ?_;have hl:y.1.length<=maxLen:=by have:=hy.1; unfold maxLen; omega
 refine .bind (.count (B:=lg) (E:=fun e=> ∃ (c:dR) (a:Bool),Kp x c/\e=((id,(),(),(),a,()),(fz,fc c,()),y.1,c.servers,c.sides,c.master.configs,c.places,())) y.1.length (fun k (b:dR×Bool)=>((id,(),(),(),b.2,(k:Int),()),(fz,fc b.1,()),y.1,b.1.servers,b.1.sides,b.1.master.configs,b.1.places,())) (fun _ b=>Kp x b.1) (fun b hb=> .end (aV _) (.ret ⟨b.1,b.2,hb,rfl⟩)) (fun k b hk hb=> .go (aG.2 hk) (.ip ⟨au k,aG.2 hk⟩ (.get (tn hk) fun z _ hz=> .bind (Sl b.1 hb.1 id z) fun w hw=> .br (fun _=> .ret ⟨(w.1,w.2.1),by rw[dV hl hk],hb.trans hw.1⟩) fun _=> .ret ⟨(w.1,false),by rw[dV hl hk],hb.trans hw.1⟩))) (x,true) (.self ok)) ?_
 rintro _ ⟨c,a,hc,rfl⟩
 refine .bind (.count (B:=ky) (E:=fun e=> ∃ (c:dR) (a:Bool),Kp x c/\e=(((),(),a,()),(fz,fc c,()),c.servers,c.sides,c.master.configs,c.places,())) y.1.length (fun k (b:List dT)=>((id,(),(),(),a,(k:Int),()),(fz,fc c,()),y.1,b,c.sides,c.master.configs,c.places,())) (fun _ b=>b.length=5/\ ∀s∈b,gr 1048576 s) (fun b hb=> .end (aV _) (.ret ⟨⟨c.now,b,c.sides,c.master,c.masterUp,c.lease,c.places⟩,a,hc.srvs (by rw[hb.1,hc.2,vc.len]) hb.2,rfl⟩)) (fun k b hk hb=> .go (aG.2 hk) (.br (fun _=> .ip ⟨au k,aG.2 hk⟩ (.get (tn hk) fun z _ hz=> .at hb.1 ⟨h0,h5⟩ fun p _ _=> .at hb.1 (hy.2 z hz) fun q _ hq=> .ret ⟨b.set z.toNat ⟨q.up,q.intact,q.version,q.epoch,q.config,q.first,q.log,((p.log.length:Nat):Int),q.learned⟩,by rw[dV hl hk],Jh hb (s:=⟨q.up,q.intact,q.version,q.epoch,q.config,q.first,q.log,((p.log.length:Nat):Int),q.learned⟩) (hb.2 q hq) _⟩)) fun _=> .ret ⟨⟨c.now,b,c.sides,c.master,c.masterUp,c.lease,c.places⟩,a,hc.srvs (by rw[hb.1,hc.2,vc.len]) hb.2,rfl⟩)) c.servers ⟨hc.2.trans vc.len,hc.1.1.2⟩) ?_
 rintro _ ⟨d,a',hd,rfl⟩
 exact .ret hd
theorem PF (x:dR) (ok:fO 1048576 x) (id:Int) (o:Op):Tt (fun y=>Kp x y.1) (qM x id o):=by
 unfold qM;refine .bind (PE x ok id o) fun y hy=> ?_;rw[dS];refine .br (fun e=> ?_) fun _=> .ret hy.1;obtain⟨h5,hid⟩:=hy.2 (eq_of_beq e)
 have same: ∀ {α:Type} {Q:α->Prop} {l:List dT} {k:dT->dT->Option α},l.length=5->(∀s∈l,gr 1048576 s)->(∀s,gr 1048576 s->Tt Q (k s s))->Tt Q (iteP (0<=id/\id< (l.length:Int)) ((l[id.toNat]?).bind fun a=>(l[id.toNat]?).bind fun b=>k a b) none):=fun h5 hs h=> .at h5 hid fun s e1 e2=>by rw[e1,ae];exact h s (hs s e2)
 have LC: ∀s:dT,(s.log.drop 0).take s.log.length=s.log:=fun s=>by rw[bK,bU]
 refine same h5 hy.1.1.1.2 fun s hs=> .ip (by omega) ?_;rw[LC];refine .bind (Qb _ _ _ (eD hs.2.1)) fun i _=> .at h5 hid fun t _ _=> .br (fun _=> .bind (Ko y.1 hy.1.1 id) fun z hz=> ?_) fun _=>same h5 hy.1.1.1.2 fun s hs=> .ip (by omega) ?_
 ·rw[dS];refine .br (fun _=>same (hz.2.trans h5) hz.1.1.2 fun s hs=> .ip (by omega) ?_) fun _=> .ret (hy.1.trans hz);rw[LC];exact .bind (Kn _ _ (eD hs.2.1)) fun _ _=> .ret (hy.1.trans hz)
 ·rw[LC];exact .bind (Kn _ _ (eD hs.2.1)) fun _ _=> .ret hy.1
end Go.Proofs.YtlaicbcfjcplhaaGreat.En
namespace Go.Proofs.YtlaicbcfjcplhaaGreat.En
open Go
theorem oS (x:dR) (ok:fO 1048576 x):Tt (fun y=>y.1=true->VC x) (dX x):=by obtain⟨v,v1,_⟩:=ik x ok;exact⟨(v,()),v1,fun e=>iK ok (by rw[v1,show v=true from e])⟩
theorem Kq (x:dR) (ok:fO 1048576 x) (e:Int): ∃c b,i9 x.master e=some (c,b,())/\iR maxLen c/\(VC x->c.replicas.length<=5/\c.witnesses.length<=5/\(∀z∈c.replicas,0<=z/\z<5)/\(∀z∈c.witnesses,0<=z/\z<5)/\(b=true->eB c=some (true,())/\0<=c.primary/\c.primary<5)/\rA c.replicas):=by
 obtain⟨c,b,h1,_,h2⟩:=ya x.master e ok.2.2.1;refine⟨c,b,h1,h2,fun vc=> ?_⟩;obtain⟨c',b',g1,_,g2,_,g3,g4⟩:=Cy x.master e ok.2.2.1 vc.ml;rw[h1] at g1;obtain⟨rfl,rfl⟩:c=c'/\b=b':=by simpa using g1
 cases b with
 |false=>rw[g4 rfl];exact⟨aA _,aA _,nofun,nofun,nofun,fun k hk=>by simp at hk⟩
 |true=>obtain⟨a1,a2,a3,_⟩:=yb g2 (g3 rfl).1;exact⟨a1.len,a2.len,o9 a1,o9 a2,fun _=>⟨(g3 rfl).1,o9 a1 _ a3⟩,a1⟩
theorem Ji (x:dR) (ok:fO 1048576 x): ∃c b,fI x.master=some (c,b,())/\iR maxLen c/\(VC x->c.replicas.length<=5/\c.witnesses.length<=5/\(∀z∈c.replicas,0<=z/\z<5)/\(∀z∈c.witnesses,0<=z/\z<5)/\(b=true->eB c=some (true,())/\0<=c.primary/\c.primary<5)/\rA c.replicas):=by obtain⟨c,b,h1,h2⟩:=Kq x ok x.master.activated;exact⟨c,b,by unfold fI; rw[h1]; rfl,h2⟩
theorem HI (s:dT) (e:Int) (h:gr 1048576 s):Tt (fun y=>gr 1048576 y.1) (jz s e):=by unfold jz;rw[(AF s h).1,ae,gl,ae,dS];exact .br (fun _=> .br (fun _=> .ret h) fun _=> .br (fun _=> .ret h) fun _=> .ret h) fun _=> .ret h
theorem So (x:dR) (ok:fO 1048576 x) (id e:Int):Tt (fun y=>Kp x y.1) (mp x id e):=by
 obtain⟨c,b,c1,c2,c3⟩:=Ji x ok;unfold mp;rw[(ir x ok).1,ae,c1,ae];refine .bind (oS x ok) fun v hv=> ?_;rw[dS];refine .br (fun h=> ?_) fun _=> .ret (.self ok);have vc:=hv h;rw[dS];refine .br (fun _=> ?_) fun _=> .ret (.self ok);rw[gl,ae,dS];refine .br (fun _=> .bind (sV c c2) fun m hm=> ?_) fun _=> .ret (.self ok);have hl:m.1.length<=maxLen:=by have:=hm.1; unfold maxLen; omega
 refine .bind (.count (B:=mL) (E:=fun e=> ∃S:List dT,(S.length=5/\ ∀s∈S,gr 1048576 s)/\e=(((),(),()),(fz,fc x,()),S,x.sides,x.master.configs,x.places,())) m.1.length (fun k (S:List dT)=>((id,e,(),(),(),(),(k:Int),()),(fx x,fz,fc x,()),m.1,S,x.sides,x.master.configs,x.places,())) (fun _ S=>S.length=5/\ ∀s∈S,gr 1048576 s) (fun S hS=> .end (aV _) (.ret ⟨S,hS,rfl⟩)) (fun k S hk hS=> .go (aG.2 hk) (.ip ⟨au k,aG.2 hk⟩ (.get (tn hk) fun z hz' hz=> .srv ok vc (hm.2 z hz) fun s _ _ _=> .br (fun _=> .ip ⟨au k,aG.2 hk⟩ (.get (tn hk) fun z2 _ hz2=> .bind (HG ok vc id z2) fun _ _=> .br (fun _=> .ip ⟨au k,aG.2 hk⟩ (.get (tn hk) fun z3 _ hz3=> .ip ⟨au k,aG.2 hk⟩ (.get (tn hk) fun z4 _ hz4=> .srv ok vc (hm.2 z4 hz4) fun t _ t2 _=> .bind (HI t e t2) fun u hu=> .at hS.1 (hm.2 z3 hz3) fun _ _ _=> .ret ⟨S.set z3.toNat u.1,by rw[dV hl hk],Jh hS hu _⟩))) fun _=> .ret ⟨S,by rw[dV hl hk],hS⟩)) fun _=> .ret ⟨S,by rw[dV hl hk],hS⟩))) x.servers ⟨vc.len,ok.1.2⟩) ?_
 rintro _ ⟨S,hS,rfl⟩
 exact .ret ((Kp.self ok).srvs (by rw[hS.1,vc.len]) hS.2)
section
variable {x:dR} (ok:fO 1048576 x) (vc:VC x) (id:Int)
include ok vc
theorem NH:Tt (fun y=>y.1.length<=5/\ ∀z∈y.1,0<=z/\z<5) (nS x id):=by
 obtain⟨c,d,c1,c2,c3⟩:=Ji x ok;obtain⟨r5,_,inr,_⟩:=c3 vc;have rm:c.replicas.length<=maxLen:=by unfold maxLen; omega
 unfold nS;rw[c1,ae];refine .bind (.count (B:=nR) (E:=fun e=>e.2.2.1.length<=5/\ ∀z∈e.2.2.1,0<=z/\z<5) c.replicas.length (fun k (b:List Int)=>((id,(),(),(),d,(k:Int),()),(fx x,(c.epoch,c.primary,(),(),()),()),b,c.replicas,c.witnesses,())) (fun k b=>b.length<=k/\ ∀z∈b,0<=z/\z<5) (fun b hb=> .end (aV _) (.ret ⟨aL hb.1 r5,hb.2⟩)) (fun k b hk hb=> ?_) [] ⟨aq _,nofun⟩) fun y hy=> .ret hy;have ex:b.length<=5/\ ∀z∈b,0<=z/\z<5:=⟨by omega,hb.2⟩
 have st:b.length<=k+1/\ ∀z∈b,0<=z/\z<5:=⟨by omega,hb.2⟩
 refine .go (aG.2 hk) (.br (fun _=> .bind (oS x ok) fun _ _=> .br (fun _=> ?_) fun _=> .ret ex) fun _=> .ret ex);rw[gl,ae];refine .br (fun _=> .ip ⟨au k,aG.2 hk⟩ (.get (tn hk) fun z _ hz=> .srv ok vc (inr z hz) fun s _ _ _=> .br (fun _=> .br (fun _=> .ip ⟨au k,aG.2 hk⟩ (.get (tn hk) fun z2 _ hz2=> .bind (HG ok vc id z2) fun _ _=> .br (fun _=> .ip ⟨au k,aG.2 hk⟩ (.get (tn hk) fun z3 _ hz3=> .ip ?_ (.ret ⟨b++ [z3],by rw[dV rm hk],?_⟩))) fun _=> .ret ⟨b,by rw[dV rm hk],st⟩)) fun _=> .ret ⟨b,by rw[dV rm hk],st⟩) fun _=> .ret ⟨b,by rw[dV rm hk],st⟩)) fun _=> .ret ex
 ·show (b++ [z3]).length*8<=2 ^ 40;rw[az,ax];omega
 ·exact⟨by rw[az,ax]; omega,fun y hy=>(bf.1 hy).elim (hb.2 y) fun h=>by rw[aE.1 h]; exact inr z3 hz3⟩
theorem Sq:Tt (fun y=>y.1= -1\/0<=y.1/\y.1<5) (nU x id):=by
 unfold nU;refine .bind (NH ok vc id) fun l hl=> ?_;have lm:l.1.length<=maxLen:=by have:=hl.1; unfold maxLen; omega
 refine .bind (.count (B:=nT) (E:=fun e=>e.1.1= -1\/0<=e.1.1/\e.1.1<5) l.1.length (fun k (b:Int)=>(((),b,(),(k:Int),()),(fx x,()),l.1,())) (fun _ b=>b= -1\/0<=b/\b<5) (fun b hb=> .end (aV _) (.ret hb)) (fun k b hk hb=> ?_) (-1) (.inl rfl)) fun y hy=> .ret hy;refine .go (aG.2 hk) (.br (fun _=> .ip ⟨au k,aG.2 hk⟩ (.get (tn hk) fun z _ hz=> .ret ⟨z,by rw[dV lm hk], .inr (hl.2 z hz)⟩)) fun hn=> .ip ⟨au k,aG.2 hk⟩ (.get (tn hk) fun z _ hz=> .srv ok vc (hl.2 z hz) fun s _ _ _=> .srv ok vc (a:=b) ?_ fun t _ _ _=> .br (fun _=> .ip ⟨au k,aG.2 hk⟩ (.get (tn hk) fun z2 _ hz2=> .ret ⟨z2,by rw[dV lm hk], .inr (hl.2 z2 hz2)⟩)) fun _=> .ret ⟨b,by rw[dV lm hk],hb⟩));have hn: ¬b<0:=of_decide_eq_false hn;omega
omit ok vc in
theorem Ls (f:Int) (l:List eb) (hl:l.length<=maxLen):Tt (fun y=>y.1=true->0<=f/\l.length<=3) (sH f l):=by obtain⟨b,b1,b2⟩:=va hl;unfold sH;rw[b1,ae];refine .br (fun _=> .br (fun h=> ?_) fun _=> .ret nofun) fun _=> .ret nofun;have h: (l.length:Int)<=3:=of_decide_eq_true h;rw[gl,ae];refine .br (fun w=> ?_) fun _=> .ret nofun;have w:=ey.1 w;exact .br (fun _=> .ret fun _=>⟨w.1,by omega⟩) fun _=> .ret fun _=>⟨w.1,by omega⟩
omit ok vc in
theorem Sr (a:List eb) (f:Int) (t:List eb) (ha:a.length<=1048576) (ht:t.length<=1048576):Tt (fun y=>y.1.length<=19) (qU a f t):=by
 obtain⟨b,b1,b2⟩:=va (eD ha);unfold qU;rw[b1,ae,dS];refine .br (fun e=> ?_) fun _=> .ret (aA _);have h16:=b2 e;refine .bind (Ls f t (eD ht)) fun g hg=> ?_;rw[dS];refine .br (fun e=> ?_) fun _=> .ret (aA _);obtain⟨f0,t3⟩:=hg e;refine .br (fun _=> .ret (aA _)) fun hn=> ?_;have hn: ¬f>(a.length:Int):=of_decide_eq_false hn;obtain⟨n,n1,n2,n3,_⟩:=FA ((a.drop f.toNat).take ((a.length:Int).toNat-f.toNat)) t (aL (by rw[aY,bi]; omega) (eD ha));refine .ip (by omega) ?_;rw[n1,ae,eL (n:=(a.length:Int)-f) (by omega) (by omega)];refine .br (fun _=> .ret (aA _)) fun _=> ?_;rw[yd ha,ae]
 have hl: (a++((t.drop (n:Int).toNat).take ((t.length:Int).toNat-(n:Int).toNat))).length<=19:=by rw[az,aY,bi];omega
 refine .ip (by omega) (.ip (aL (bn 56 hl) (by omega)) ?_);obtain⟨d,d1,_⟩:=va (l:=a++((t.drop (n:Int).toNat).take ((t.length:Int).toNat-(n:Int).toNat))) (by unfold maxLen; omega);rw[show gJ _=_ from d1,ae,dS];exact .br (fun _=> .ret hl) fun _=> .ret (aA _)
omit ok vc in
theorem Ss (s:dT) (id:Int) (h:gr 1048576 s) (hf:0<=s.first/\s.first<=16/\s.log.length<=16):Tt (fun y=>y.1.length<=1048576) (sG s id):=by obtain⟨n,n1,_⟩:=wY s.config id (eV h.1);unfold sG;rw[n1,ae,yd h.2.2,ae];have gm:Tt (fun y:List eb×Unit=>y.1.length<=1048576) ((fH s).bind fun y3=>br (decide ((y3.1.length:Int)>(s.learned.length:Int))) (some (y3.1,())) (some (s.learned,()))):= .bind (w6 s h hf) fun y hy=> .br (fun _=> .ret (by show y.1.length<=_; omega)) fun _=> .ret h.2.2;exact .br (fun _=>gm) fun _=> .br (fun _=>gm) fun _=> .ret h.2.2
theorem Re {c:dU} {w:dT} (hw:gr 1048576 w) (j:Int) (d:Bool) (b:List eb×Bool) (hb:b.1.length<=19):Tt (fun e=> ∃r:List eb×Bool,r.1.length<=19/\e=((id,(),(),r.2,(),d,j,()),(fx x,(c.epoch,c.primary,(),(),()),()),r.1,c.replicas,c.witnesses,())) (tY ((id,(),(),b.2,(),d,j,(),0,()),(fx x,(c.epoch,c.primary,(),(),()),Th w,()),b.1,c.replicas,c.witnesses,())):=by
 refine .count (B:=mM) (E:=fun e=> ∃r:List eb×Bool,r.1.length<=19/\e=((id,(),(),r.2,(),d,j,()),(fx x,(c.epoch,c.primary,(),(),()),()),r.1,c.replicas,c.witnesses,())) 5 (fun k (b:List eb×Bool)=>((id,(),(),b.2,(),d,j,(),(k:Int),()),(fx x,(c.epoch,c.primary,(),(),()),Th w,()),b.1,c.replicas,c.witnesses,())) (fun _ b=>b.1.length<=19) (fun b hb=> .end (aV _) (.ret ⟨b,hb,rfl⟩)) (fun k b hk hb=> ?_) b hb;have hkk:0<=(k:Int)/\(k:Int)<5:=⟨au k,aG.2 hk⟩
 have sw:=dV (n:=5) (by decide) hk;refine .go hkk.2 (.srv ok vc hkk fun s _ _ _=> ?_);dsimp only;rw[sw,dS];refine .br (fun _=> .bind (HG ok vc id k) fun y _=> ?_) fun _=> .ret ⟨b,rfl,hb⟩;rw[dS];refine .br (fun _=> .srv ok vc hkk fun t _ t2 t3=> .bind (Ss t k t2 (FC t2 t3)) fun y hy=> .bind (Sr y.1 w.first w.log hy hw.2.1) fun z hz=> .br (fun _=> ?_) fun _=> .ret ⟨b,rfl,hb⟩) fun _=> .ret ⟨b,rfl,hb⟩;rw[dS];exact .br (fun _=> .br (fun _=> .ret ⟨(z.1,true),rfl,hz⟩) fun _=> .ret ⟨b,rfl,hb⟩) fun _=> .ret ⟨(z.1,true),rfl,hz⟩
theorem NI:Tt (fun y=>y.1.length<=19) (nW x id):=by
 obtain⟨c,d,c1,c2,c3⟩:=Ji x ok;obtain⟨_,r5,_,inw,_⟩:=c3 vc;have rm:c.witnesses.length<=maxLen:=by unfold maxLen; omega
 unfold nW;rw[c1,ae];refine .bind (.count (B:=nV) (E:=fun e=>e.2.2.1.length<=19) c.witnesses.length (fun k (b:List eb×Bool)=>((id,(),(),b.2,(),d,(k:Int),()),(fx x,(c.epoch,c.primary,(),(),()),()),b.1,c.replicas,c.witnesses,())) (fun _ b=>b.1.length<=19) (fun b hb=> .end (aV _) (.ret hb)) (fun k b hk hb=> ?_) ([],false) (aA _)) fun y hy=> .ret hy;refine .go (aG.2 hk) (.br (fun _=> .bind (oS x ok) fun _ _=> .br (fun _=> ?_) fun _=> .ret hb) fun _=> .ret hb);rw[gl,ae];refine .br (fun _=> .ip ⟨au k,aG.2 hk⟩ (.get (tn hk) fun z _ hz=> .srv ok vc (inw z hz) fun s _ s2 _=> ?_)) fun _=> .ret hb;have sw:=dV rm hk;rw[dS];refine .br (fun _=> ?_) fun _=> .ret ⟨b,by rw[sw],hb⟩;rw[dS];refine .br (fun _=> .ip ⟨au k,aG.2 hk⟩ (.get (tn hk) fun z2 _ _=> .bind (HG ok vc id z2) fun y _=> ?_)) fun _=> .ret ⟨b,by rw[sw],hb⟩;rw[dS];refine .br (fun _=> .bind (Re ok vc id (c:=c) s2 k d b hb) ?_) fun _=> .ret ⟨b,by rw[sw],hb⟩
 rintro _ ⟨r,hr,rfl⟩
 exact .ret ⟨r,by rw[<-sw],hr⟩
theorem PG:Tt (fun y=>y.1.length<=1048576) (pk x id):=by unfold pk;refine .bind (oS x ok) fun v _=> ?_;rw[dS];refine .br (fun _=> ?_) fun _=> .ret (aA _);rw[gl,ae,dS];refine .br (fun _=> .br (fun _=> .ret (aA _)) fun _=> .bind (Sq ok vc id) fun n hn=> .br (fun h=> ?_) fun _=> .bind (NI ok vc id) fun y hy=> .ret (by show y.1.length<=_; omega)) fun _=> .ret (aA _);have h:n.1≥0:=of_decide_eq_true h;refine .srv ok vc (by omega) fun s _ s2 _=> ?_;rw[yd s2.2.1];exact .ret s2.2.1
end
theorem AG (l:List eb) (hl:l.length<=maxLen):Tt T1 (ja l):=by unfold ja;refine .bind (.count (B:=lX) (E:=fun _=>True) l.length (fun k (_:Unit)=>((l,(k:Int),()),(),())) (fun _ _=>True) (fun _ _=> .end (aV _) (.ret trivial)) (fun k _ hk _=> .go (aG.2 hk) (.ip (au k) (.get (tn hk) fun e _ _=> .bind (Q:=T1) (by unfold kU; exact .ret trivial) fun _ _=> .br (fun _=> .ret trivial) fun _=> .ret ⟨(),by rw[dV hl hk],trivial⟩))) () trivial) fun y _=> ?_;cases y<;>exact .ret trivial
theorem HJ (s:dT) (c:dU) (id:Int) (l:List eb) (hs:gr 1048576 s) (hc:iR 1048576 c) (hl:l.length<=1048576):Tt (fun y=>gr 1048576 y.1) (jm s c id l):=by
 obtain⟨n,n1,_⟩:=wY c id (eV hc);obtain⟨b,b1,_⟩:=va (eD hl);obtain⟨e,e1,_⟩:=sU l (eD hl);unfold jm;simp only[n1,b1,e1,(AF s hs).1,(vB c hc).1,yd hl,gl,ae,dS,Nz l hl];have hk:pB l<=l.length:=Nat.sub_le _ _
 have hl2: ((l.drop (pB l)).take ((l.length:Int).toNat-pB l)).length<=1048576:=by rw[aY,bi];omega
 refine .br (fun _=> .ret hs) fun _=> .br (fun _=> .br (fun _=> .br (fun _=> .br (fun _=> .ret hs) fun _=> .br (fun _=> .bind (AG l (eD hl)) fun _ _=> .br (fun _=> .ret hs) fun _=> ?_) fun _=> ?_) fun _=> .ret hs) fun _=> .ret hs) fun _=> .ret hs
 all_goals
  exact .br (fun _=> .ip (by omega) (.bind (Q:=fun y=>y.1.length<=1048576) ⟨_,yd hl2,hl2⟩ fun y hy=> .ret ⟨hc,hy,aA _⟩)) fun _=> .ret ⟨hc,hl,aA _⟩
theorem CC (m:dY) (h:ri 1048576 m) (e:Int):Tt (fun y=>ri 1048576 y.1/\y.1.configs.length=m.configs.length) (iY m e):=by obtain⟨b,b1,_⟩:=masterLog m (kh h);unfold iY;rw[(Fw m h).1,ae,b1,ae,dS];refine .br (fun _=> ?_) fun _=> .ret ⟨h,rfl⟩;rw[dS];exact .br (fun _=> .br (fun _=> .ret ⟨h,rfl⟩) fun _=> .ret ⟨h,rfl⟩) fun _=> .ret ⟨h,rfl⟩
theorem zn (x:dR) (ok:fO 1048576 x):Tt (fun y=>Kp x y.1) (mY x):=by
 obtain⟨c,b,c1,c2,c3⟩:=Kq x ok (x.master.configs.length:Int);unfold mY qb;rw[(ir x ok).1,ae,c1,ae,ae];refine .bind (oS x ok) fun v hv=> ?_;rw[dS];refine .br (fun h=> ?_) fun _=> .ret (.self ok);have vc:=hv h;rw[dS];refine .br (fun hb=> .br (fun _=> .ret (.self ok)) fun _=> .br (fun _=> .ret (.self ok)) fun _=> ?_) fun _=> .ret (.self ok);obtain⟨r5,w5,_,_,hp,_⟩:=c3 vc;have hp:=(hp hb).2;have hc:iR 1048576 c:=⟨by omega,by omega⟩
 have s5:=mC (eD ok.2.1) vc.sides;refine .srv ok vc hp fun s _ _ _=> ?_;rw[dS];refine .br (fun _=> .ip hp.1 (.get (by show c.primary.toNat<x.sides.length; omega) fun sd _ _=> ?_)) fun _=> .ret (.self ok);rw[dS];refine .br (fun _=> ?_) fun _=> .ret (.self ok);obtain⟨o,o1,_⟩:=rD x.lease x.now;rw[o1,ae,dS];refine .br (fun _=> .bind (So x ok c.primary c.epoch) fun y hy=> .bind (PG ok vc c.primary) fun l hl=> ?_) fun _=> .ret (.self ok);rw[dS];refine .br (fun _=> .bind (sV c c2) fun m hm=> ?_) fun _=> .ret hy;have ml:m.1.length<=maxLen:=by have:=hm.1; unfold maxLen; omega
 have hyS:y.1.servers.length=5/\ ∀s∈y.1.servers,gr 1048576 s:=⟨hy.2.trans vc.len,hy.1.1.2⟩
 refine .bind (.count (B:=oZ) (E:=Sum.elim (fun e=> ∃n:Int,e=(((),(),n,(),(),(),(),()),(fx x,fc y.1,(fc y.1,(c.epoch,c.primary,(),(),()),())),l.1,m.1,y.1.servers,y.1.sides,y.1.master.configs,y.1.places,c.replicas,c.witnesses,())) fun e=>e.2=((fx x,fz,fc y.1,(c.epoch,c.primary,(),(),()),()),l.1,m.1,y.1.servers,y.1.sides,y.1.master.configs,y.1.places,c.replicas,c.witnesses,())) m.1.length (fun k (_:Unit)=>(((),(),(),(),(),(),(k:Int),()),(fx x,fz,fc y.1,(c.epoch,c.primary,(),(),()),()),l.1,m.1,y.1.servers,y.1.sides,y.1.master.configs,y.1.places,c.replicas,c.witnesses,())) (fun _ _=>True) (fun _ _=> .end (aV _) (.ret rfl)) (fun k _ hk _=> ?_) () trivial) fun e he=> ?_
 ·refine .go (aG.2 hk) (.ip ⟨au k,aG.2 hk⟩ (.get (tn hk) fun z _ hz=> .srv ok vc (hm.2 z hz) fun s _ _ _=> ?_));rw[dS];refine .br (fun _=> .ip ⟨au k,aG.2 hk⟩ (.get (tn hk) fun z2 _ hz2=> .ip (hm.2 z2 hz2).1 (.get (by have:=hm.2 z2 hz2; show z2.toNat<x.sides.length; omega) fun w _ _=> ?_))) fun _=> .ret ⟨_,rfl⟩;rw[dS];exact .br (fun _=> .ret ⟨(),by rw[dV ml hk],trivial⟩) fun _=> .ret ⟨_,rfl⟩
 cases e with
 |inl e=>obtain⟨n,rfl⟩:=he;exact .ret hy
 |inr e=>
  show Tt _ ((v3 (((),(),(),(),(),(),0,()),e.2)).bind _);rw[show e.2=_ from he];refine .bind (.count (B:=o0) (E:=Sum.elim (fun e=> ∃n:Int,e=(((),(),n,(),(),(),(),()),(fx x,fc y.1,(fc y.1,(c.epoch,c.primary,(),(),()),())),l.1,m.1,y.1.servers,y.1.sides,y.1.master.configs,y.1.places,c.replicas,c.witnesses,())) fun e=>e.2=((fx x,fz,fc y.1,(c.epoch,c.primary,(),(),()),()),l.1,m.1,y.1.servers,y.1.sides,y.1.master.configs,y.1.places,c.replicas,c.witnesses,())) m.1.length (fun k (_:Unit)=>(((),(),(),(),(),(),(k:Int),()),(fx x,fz,fc y.1,(c.epoch,c.primary,(),(),()),()),l.1,m.1,y.1.servers,y.1.sides,y.1.master.configs,y.1.places,c.replicas,c.witnesses,())) (fun _ _=>True) (fun _ _=> .end (aV _) (.ret rfl)) (fun k _ hk _=> .go (aG.2 hk) (.ip ⟨au k,aG.2 hk⟩ (.get (tn hk) fun z _ hz=> .srv ok vc (hm.2 z hz) fun s _ _ _=> .br (fun _=> .bind (AG l.1 (eD hl)) fun _ _=> .br (fun _=> .ret ⟨_,rfl⟩) fun _=> .ret ⟨(),by rw[dV ml hk],trivial⟩) fun _=> .ret ⟨(),by rw[dV ml hk],trivial⟩))) () trivial) fun e he=> ?_;cases e with
  |inl e=>obtain⟨n,rfl⟩:=he;exact .ret hy
  |inr e=>
   show Tt _ ((v5 (((),(),(),(),(),(),0,()),e.2)).bind _);rw[show e.2=_ from he];refine .bind (.count (B:=o3) (E:=fun e=> ∃S:List dT,(S.length=5/\ ∀s∈S,gr 1048576 s)/\e=(((),(),(),(),()),(fx x,fz,fc y.1,(c.epoch,c.primary,(),(),()),()),S,y.1.sides,y.1.master.configs,y.1.places,c.replicas,c.witnesses,())) m.1.length (fun k (S:List dT)=>(((),(),(),(),(),(),(k:Int),()),(fx x,fz,fc y.1,(c.epoch,c.primary,(),(),()),()),l.1,m.1,S,y.1.sides,y.1.master.configs,y.1.places,c.replicas,c.witnesses,())) (fun _ S=>S.length=5/\ ∀s∈S,gr 1048576 s) (fun S hS=> .end (aV _) (.ret ⟨S,hS,rfl⟩)) (fun k S hk hS=> ?_) y.1.servers hyS) ?_
   ·refine .go (aG.2 hk) (.ip ⟨au k,aG.2 hk⟩ (.get (tn hk) fun z _ hz=> .ip ⟨au k,aG.2 hk⟩ (.get (tn hk) fun z2 _ hz2=> .at hS.1 (hm.2 z2 hz2) fun s e' hs=> .ip ⟨au k,aG.2 hk⟩ (.get (tn hk) fun z3 _ _=> ?_))));dsimp only;simp only[e',ae,bK,bU,aR];refine .ip (aq _) (.ip (aq _) (.ip (aq _) (.ip (aq _) (.bind (HJ s c z3 l.1 (hS.2 s hs) hc hl) fun u hu=> .at hS.1 (hm.2 z hz) fun _ _ _=> .ret ⟨S.set z.toNat u.1,by rw[dV ml hk],Jh hS hu _⟩))))
   ·rintro _ ⟨S,hS,rfl⟩
    refine .bind (CC x.master ok.2.2.1 c.epoch) fun w hw=> .ret ?_;exact⟨⟨⟨by show S.length<=_; rw[hS.1]; decide,hS.2⟩,hy.1.2.1,hw.1,hy.1.2.2.2⟩,by show S.length=_; rw[hS.1,vc.len]⟩
end Go.Proofs.YtlaicbcfjcplhaaGreat.En
namespace Go.Proofs.YtlaicbcfjcplhaaGreat.En
open Go
theorem zX (m:dY) (h:ri 1048576 m) (c:dU) (hc:iR 1048576 c):Tt (fun y=>ri 1048576 y.1/\y.1.configs.length<=m.configs.length+1) (jl m c):=by
 have self:ri 1048576 m/\m.configs.length<=m.configs.length+1:=⟨h,cc _⟩
 obtain⟨b,b1,_⟩:=masterLog m (kh h);obtain⟨d,d1,_⟩:=pA c (eV hc);unfold jl;rw[(Fw m h).1,ae,b1,ae,dS];refine .br (fun e=> ?_) fun _=> .ret self;subst e;have hl:=Sf h b1;rw[d1,ae,dS];refine .br (fun _=> ?_) fun _=> .ret self;rw[dS];refine .br (fun _=> ?_) fun _=> .ret self;rw[(vB c hc).1,ae];have h2: (m.configs++ [c]).length<=21:=by rw[az,ax]; omega
 exact .ip (aL (bn 64 h2) (by omega)) (.ret ⟨⟨aL h2 (by omega),fun d hd=>(bf.1 hd).elim (h.2 d) fun e=>by rw[aE.1 e]; exact hc⟩,by show (m.configs++ [c]).length<=_; rw[az]; exact aq _⟩)
theorem zo (x:dR) (ok:fO 1048576 x) (c:dU) (hc:iR 1048576 c):Tt (fun y=>Kp x y.1) (jM x c):=by unfold jM;rw[(ir x ok).1,ae];refine .bind (oS x ok) fun v _=> ?_;rw[dS];refine .br (fun _=> .br (fun _=> .ret (.self ok)) fun _=> .bind (zX x.master ok.2.2.1 c hc) fun m hm=> ?_) fun _=> .ret (.self ok);rw[dS];exact .br (fun _=> .ret ⟨⟨ok.1,ok.2.1,hm.1,ok.2.2.2⟩,rfl⟩) fun _=> .ret (.self ok)
theorem Qc (x:dR) (ok:fO 1048576 x) (n:Int):Tt (fun y=>Kp x y.1) (oK x n):=by unfold oK;rw[(ir x ok).1,ae];refine .bind (oS x ok) fun v _=> ?_;rw[dS];refine .br (fun _=> ?_) fun _=> .ret (.self ok);rw[gl,ae,dS];exact .br (fun _=> .ret ⟨ok,rfl⟩) fun _=> .ret (.self ok)
theorem Qd (x:dR) (ok:fO 1048576 x) (id:Int):Tt (fun y=>y.1=true->VC x/\0<=id/\id<5) (kW x id):=by obtain⟨b,b1,_,b2⟩:=Fx x id ok;exact⟨_,b1,fun e=>⟨iK ok (b2 e).1,(b2 e).2⟩⟩
theorem NJ (x:dR) (ok:fO 1048576 x) (id:Int):Tt (fun y=>Kp x y.1) (kM x id):=by unfold kM;rw[(ir x ok).1,ae];refine .bind (Qd x ok id) fun v hv=> ?_;rw[dS];refine .br (fun e=> ?_) fun _=> .ret (.self ok);obtain⟨vc,hid⟩:=hv e;refine .srv ok vc hid fun s _ _ _=> .br (fun _=> .ret (.self ok)) fun _=> .srv ok vc hid fun t _ _ _=> ?_;rw[dS];exact .br (fun _=> .at vc.len hid fun u _ hu=> .ret ((Kp.self ok).set (s:=⟨u.up,u.intact,2,u.epoch,u.config,u.first,u.log,u.commit,u.learned⟩) (ok.1.2 u hu) _)) fun _=> .ret (.self ok)
theorem Jj (x:dR) (ok:fO 1048576 x) (id:Int):Tt (fun y=>Kp x y.1) (jB x id):=by
 unfold jB;rw[(ir x ok).1,ae];refine .bind (Qd x ok id) fun v hv=> ?_;rw[dS];refine .br (fun e=> ?_) fun _=> .ret (.self ok);obtain⟨vc,hid⟩:=hv e;refine .srv ok vc hid fun s _ _ _=> .br (fun _=> .ret (.self ok)) fun _=> .srv ok vc hid fun t _ _ _=> ?_;rw[dS];refine .br (fun _=> .srv ok vc hid fun s _ s2 _=> .bind (Q:=T1) ?_ fun _ _=> .br (fun _=> .ret (.self ok)) fun _=> .bind (.count (B:=jA) (E:=Sum.elim (fun e=> ∃n:Int,e=((id,(),n,(),()),(fc x,fc x,()),x.servers,x.sides,x.master.configs,x.places,())) fun e=>e=((id,(),(),(),()),(fz,fc x,()),x.servers,x.sides,x.master.configs,x.places,())) x.servers.length (fun k (_:Unit)=>((id,(),(),(),(),(k:Int),()),(fx x,fz,fc x,Th s,()),x.servers,x.sides,x.master.configs,x.places,())) (fun _ _=>True) (fun _ _=> .end (aV _) (.ret rfl)) (fun k _ hk _=> ?_) () trivial) fun e he=> ?_) fun _=> .ret (.self ok)
 ·unfold jZ;exact .bind (AG _ (eD s2.2.2)) fun _ _=> .ret trivial
 ·have sw:=dV (eD ok.1.1) hk;refine .go (aG.2 hk) ?_;rw[show kT _=_ from vA s.config (eV s2.1),ae,dS];refine .br (fun _=> .ret rfl) fun _=> .ip (au k) (.get (tn hk) fun t _ ht=> ?_);have ht:=ok.1.2 t ht;rw[show gK _ _=_ from (gT t.config s.config (eV ht.1)).1,ae];refine .br (fun _=> .ip (au k) (.get (tn hk) fun u _ hu=> .bind (Q:=T1) ?_ fun _ _=> .br (fun _=> .ret ⟨_,rfl⟩) fun _=> .ret ⟨(),by rw[sw],trivial⟩)) fun _=> .ret ⟨(),by rw[sw],trivial⟩;unfold jZ;exact .bind (AG _ (eD (ok.1.2 u hu).2.1)) fun _ _=> .ret trivial
 cases e with
 |inl e=>obtain⟨n,rfl⟩:=he;exact .ret (.self ok)
 |inr e=>obtain rfl:=he;exact .at vc.len hid fun u _ hu=> .ret ((Kp.self ok).set (s:=⟨u.up,u.intact,1,u.epoch,u.config,u.first,u.log,u.commit,u.learned⟩) (ok.1.2 u hu) _)
theorem NK (x:dR) (ok:fO 1048576 x):Tt T1 (j3 x):=by
 obtain⟨c,b,c1,c2,c3⟩:=Ji x ok;unfold j3;rw[c1,ae];refine .bind (oS x ok) fun v hv=> ?_;rw[dS];refine .br (fun h=> ?_) fun _=> .ret trivial;have vc:=hv h;rw[dS];refine .br (fun hb=> ?_) fun _=> .ret trivial;obtain⟨_,_,_,_,hp,_⟩:=c3 vc;have hp:=(hp hb).2;refine .srv ok vc hp fun s _ s2 _=> ?_;obtain⟨d,d1,_⟩:=lO s c.primary s2;rw[d1,ae,dS];refine .br (fun _=> .srv ok vc hp fun t _ _ _=> ?_) fun _=> .ret trivial;rw[dS];refine .br (fun _=> .bind (sV c c2) fun m hm=> .bind (.count (B:=kz) (E:=fun _=>True) m.1.length (fun k (_:Unit)=>(((),(),(),(k:Int),()),(fx x,(c.epoch,c.primary,(),(),()),()),m.1,c.replicas,c.witnesses,())) (fun _ _=>True) (fun _ _=> .end (aV _) (.ret trivial)) (fun k _ hk _=> .go (aG.2 hk) (.ip ⟨au k,aG.2 hk⟩ (.get (tn hk) fun z _ hz=> .bind (NC ok vc hp (hm.2 z hz)) fun y _=> ?_))) () trivial) fun e _=> ?_) fun _=> .ret trivial
 ·rw[dS];exact .br (fun _=> .ret ⟨(),by rw[dV (by have:=hm.1; unfold maxLen; omega) hk],trivial⟩) fun _=> .ret trivial
 ·cases e<;>exact .ret trivial
theorem Kr (x:dR) (ok:fO 1048576 x):Tt T1 (np x):=by unfold np;exact .bind (NK x ok) fun _ _=> .ret trivial
section
variable {l:List eG} (hl:l.length<=maxLen) (hv:fq l=some (true,()))
include hl hv
theorem Rf (m:List Int) (hm:rA m):Tt (fun y=>y.1.length<=5) (sE l m):=by have h5:=zm hl hv;have ml:=hm.len;unfold sE;refine .bind (.count (B:=ry) (E:=fun e=>e.2.2.1.length<=5) m.length (fun k (b:List Int)=>((l,m,(),(k:Int),()),(),b,())) (fun k b=>b.length<=k/\SS b) (fun b hb=> .end (aV _) (.ret (aL hb.1 ml))) (fun k b hk hb=> ?_) [] ⟨aq _,List.Pairwise.nil⟩) fun y hy=> .ret hy;refine .go (aG.2 hk) ?_;dsimp only;rw[hv,ae,(vD hm).1,ae];refine .br (fun _=> .br (fun _=> .ip (au k) (.get (tn hk) fun z _ hz=> .ip (o9 hm z hz).1 (.get (by have:=o9 hm z hz; omega) fun p _ _=> ?_))) (fun h=>by cases h)) (fun h=>by cases h);obtain⟨r,r1,r2,_,r4,_⟩:=Pz b p.rack (by omega) hb.2;rw[r1,ae];exact .ret ⟨r,by rw[dV (by unfold maxLen; omega) hk],by omega,r2⟩
theorem Su (i:Int):Tt T1 (sF l i):=by have h5:=zm hl hv;unfold sF;rw[hv,ae,gl,ae];refine .br (fun _=> .br (fun h=> ?_) fun _=> .ret trivial) fun _=> .ret trivial;have h:=ey.1 h;exact .ip h.1 (.get (by omega) fun _ _ _=> .ip h.1 (.get (by omega) fun _ _ _=> .ret trivial))
theorem PH (r:List Int) (hr:r.length<=5) {a b:Int} (ha:0<=a/\a<5) (hb:0<=b/\b<5):Tt T1 (qR l r a b):=by
 have h5:=zm hl hv;have rm:r.length<=maxLen:=by unfold maxLen; omega
 unfold qR;refine .ip ha.1 (.get (by omega) fun p _ _=> ?_);rw[(gf r p.rack rm).1,ae];refine .ip hb.1 (.get (by omega) fun q _ _=> ?_);rw[(gf r q.rack rm).1,ae,dS];exact .br (fun _=> .ip ha.1 (.get (by omega) fun _ _ _=> .ip hb.1 (.get (by omega) fun _ _ _=> .ret trivial))) fun _=> .ret trivial
theorem NL (m d:List Int) (hm:rA m) (hd:d.length<=maxLen):Tt (fun y=>y.1= -1\/(0<=y.1/\y.1<5/\y.1∉m)) (nn l m d):=by
 have ml:m.length<=maxLen:=by have:=hm.len; unfold maxLen; omega
 unfold nn;refine .bind (Rf hl hv m hm) fun r hr=> .bind (.count (B:=oY) (E:=fun e=>e.1.1= -1\/(0<=e.1.1/\e.1.1<5/\e.1.1∉m)) 5 (fun k (b:Int)=>((l,m,d,b,(),(k:Int),()),(),r.1,())) (fun _ b=>b= -1\/(0<=b/\b<5/\b∉m)) (fun b hb=> .end (aV _) (.ret hb)) (fun k b hk hb=> ?_) (-1) (.inl rfl)) fun y hy=> .ret hy;have hkk:0<=(k:Int)/\(k:Int)<5:=⟨au k,aG.2 hk⟩
 refine .go hkk.2 ?_;dsimp only;rw[(vD hm).1,ae,dV (n:=5) (by decide) hk];refine .br (fun _=> .bind (Su hl hv k) fun y _=> ?_) (fun h=>by cases h);rw[dS,(gf m k ml).1,(gf d k hd).1];refine .br (fun _=> .br (fun _=> .ret ⟨b,rfl,hb⟩) fun hn=> .br (fun _=> .ret ⟨b,rfl,hb⟩) fun _=> ?_) fun _=> .ret ⟨b,rfl,hb⟩;have hn: (k:Int)∉m:=of_decide_eq_false hn;refine .br (fun _=> .ret ⟨(k:Int),rfl, .inr ⟨hkk.1,hkk.2,hn⟩⟩) fun h0=> ?_;have h0: ¬b<0:=of_decide_eq_false h0;exact .bind (PH hl hv r.1 hr hkk (by omega)) fun _ _=> .br (fun _=> .ret ⟨(k:Int),rfl, .inr ⟨hkk.1,hkk.2,hn⟩⟩) fun _=> .ret ⟨b,rfl,hb⟩
omit hv in
theorem Sv (m a:List Int) (hm:rA m) (ha:rA a) (want:Int):Tt (fun y=>rA y.1) (mn l m a want):=by
 have am:a.length<=maxLen:=by have:=ha.len; unfold maxLen; omega
 obtain⟨v,v1,_⟩:=qq l hl;have nil:rA [] :=fun k hk=>by simp at hk
 unfold mn;rw[x0 m a hm am,CA _ a Kl am,ae,ae,v1,ae,dS,(vD hm).1,(vD ha).1];refine .br (fun e=> .br (fun h=>by cases h) fun _=> .br (fun h=>by cases h) fun _=> ?_) fun _=> .ret nil;subst e;rw[gl,ae,dS];refine .br (fun _=> ?_) fun _=> .ret nil;have dl:=(Kl.filter fun x=> !decide (x∈a)).len;have dm: (([0,1,2,3,4]:List Int).filter fun x=> !decide (x∈a)).length<=maxLen:=by unfold maxLen; omega
 generalize ([0,1,2,3,4]:List Int).filter (fun x=> !decide (x∈a))=dead at dm;refine .bind (.loop (B:=mJ) (E:=Sum.elim (fun e=>rA e.2.2.1) fun e=>rA e.2.2.1) (fun s=> ∃out:List Int,s=((l,want,(),(),()),(),out,dead,())/\rA out) (fun s=>(want-s.2.2.1.length).toNat) ?_ ⟨_,rfl,hm.filter _⟩) fun y hy=> ?_
 ·rintro _ ⟨out,rfl,ho⟩
  have ol:=ho.len;refine .br (fun c=> ?_) fun _=> .ret ho;have c: (out.length:Int)<want:=of_decide_eq_true c;refine .bind (NL hl v1 out dead ho dm) fun n hn=> .br (fun _=> .ret ho) fun h=> ?_;have h: ¬n.1<0:=of_decide_eq_false h
  obtain⟨n0,n5,nm⟩:0<=n.1/\n.1<5/\n.1∉out:=by
   rcases hn with h'|h'
   ·omega
   ·exact h'
  obtain⟨r,r1,r2,r3,_,r5⟩:=Pz out n.1 (by omega) ho.pair;rw[show jR _ _=_ from r1,ae];refine .ret ⟨⟨r,rfl,u9 r2 fun y hy=>((r3 y).1 hy).elim (fun e=>by rw[e]; exact⟨n0,n5⟩) (o9 ho y)⟩,?_⟩;show (want-(r.length:Int)).toNat< (want-(out.length:Int)).toNat;have:=r5 nm;omega
 ·cases y with
  |inl y=>exact .ret hy
  |inr y=>exact .ret hy
end
theorem Qe (x:dR) (ok:fO 1048576 x) (want wit:Int):Tt (fun y=>iR 1048576 y.1) (lW x want wit):=by
 have zero:iR 1048576 ⟨0,0,[],[]⟩:=⟨aA _,aA _⟩
 obtain⟨v,v1,_⟩:=ik x ok;unfold lW;rw[v1,ae,dS];refine .br (fun e=> ?_) fun _=> .ret zero;subst e;have vc:=iK ok v1;rw[gl,ae,dS];refine .br (fun _=> ?_) fun _=> .ret zero;rw[gl,ae,dS];refine .br (fun _=> .br (fun _=> .ret zero) fun _=> ?_) fun _=> .ret zero;obtain⟨c,b,c1,c2,c3⟩:=Ji x ok;obtain⟨r5,w5,inr,_,_,rasc⟩:=c3 vc;have rm:c.replicas.length<=maxLen:=by unfold maxLen; omega
 rw[Se x ok v1,ae,c1,ae];have up:=Kk (Fz x) (n:=5) (by omega);generalize yc (Fz x) 5=u at up;have um:u.length<=maxLen:=by have:=up.len; unfold maxLen; omega
 refine .bind (.count (B:=nQ) (E:=fun e=> ∃have':List Int,rA have'/\e=((want,wit,(),(),(),(),(),()),(fx x,(0,0,(),(),()),(c.epoch,c.primary,(),(),()),()),u,have',c.replicas,c.witnesses,())) c.replicas.length (fun k (b:List Int)=>((want,wit,(),(),(),(),(),(k:Int),()),(fx x,(0,0,(),(),()),(c.epoch,c.primary,(),(),()),()),u,b,c.replicas,c.witnesses,())) (fun k b=>b.Sublist (c.replicas.take k)) (fun b hb=> .end (aV _) (.ret ⟨b,?_,rfl⟩)) (fun k b hk hb=> ?_) [] (List.nil_sublist _)) ?_
 ·rw[bU] at hb;exact u9 (rasc.pair.sublist hb) fun y hy=>inr y (hb.subset hy)
 ·have sw:=dV rm hk;have st:b.Sublist (c.replicas.take (k+1)):=hb.trans (List.take_sublist_take_left (cc k));refine .go (aG.2 hk) (.ip ⟨au k,aG.2 hk⟩ (.get (tn hk) fun z _ hz=> ?_));rw[show fg _ _=_ from (gf u z um).1,ae];refine .br (fun _=> .ip ⟨au k,aG.2 hk⟩ (.get (tn hk) fun z2 _ hz2=> .srv ok vc (inr z2 hz2) fun s _ _ _=> .br (fun _=> .ip ⟨au k,aG.2 hk⟩ (.get (tn hk) fun z3 e3 _=> ?_)) fun _=> .ret ⟨b,by rw[sw],st⟩)) fun _=> .ret ⟨b,by rw[sw],st⟩;have e3:c.replicas[k]? =some z3:=e3
  have h2: (b++ [z3]).Sublist (c.replicas.take (k+1)):=by rw[bM,e3];exact hb.append (List.Sublist.refl _)
  have h3:=h2.length_le;rw[aY] at h3;exact .ip (by show (b++ [z3]).length*8<=2 ^ 40; omega) (.ret ⟨b++ [z3],by rw[sw],h2⟩)
 ·rintro _ ⟨hv,ha,rfl⟩
  refine .bind (Sv (eD ok.2.2.2) hv u ha up want) fun p hp=> .br (fun _=> .ret zero) fun h0=> ?_;have pl:=hp.len
  have p0:0<p.1.length:=by
   rcases be p.1.length with h|h
   ·rw[h] at h0;cases h0
   ·exact h
  refine .ip ⟨bO _,aG.2 p0⟩ (.get p0 fun q _ _=> ?_);rw[show fg _ _=_ from (gf p.1 c.primary (by unfold maxLen; omega)).1,ae];have gm: ∀w:List Int,w.length<=1-> ∀ (e p':Int) (d:Bool),Tt (fun y:dU×Bool×Unit=>iR 1048576 y.1) (some (⟨e,p',p.1,w⟩,d,())):=fun w hw _ _ _=> .ret ⟨by show p.1.length<=_; omega,by show w.length<=_; omega⟩
  extract_lets j43
  have h43: ∀p',Tt (fun y=>iR 1048576 y.1) (j43 p'):=fun p'=>by unfold j43;refine .br (fun _=> ?_) fun _=>gm [] (by decide) _ _ _;rw[show fL _ _=_ from CA _ u Kl um,ae];refine .bind (NL (eD ok.2.2.2) vc.places p.1 _ hp ?_) fun _ _=> .br (fun _=>gm [_] (aq 1) _ _ _) fun _=>gm [] (by decide) _ _ _;have:=(Kl.filter fun x=> !decide (x∈u)).len;exact aL this (by unfold maxLen; omega)
  refine .br (fun _=> ?_) fun _=>h43 _;rw[show kT _=_ from vA c c2,ae];exact .br (fun _=>h43 _) fun _=>h43 _
theorem NM (x:dR) (ok:fO 1048576 x) (id t:Int):Tt (fun y=>Kp x y.1) (gM x id t):=by obtain⟨n,n1,n2⟩:=CB x ok id;unfold gM;rw[(ir x ok).1,ae,n1,ae,dS];refine .br (fun e=> ?_) fun _=> .ret (.self ok);obtain⟨hv,h0,h5⟩:=n2 (eq_of_beq e);have vc:=iK ok hv;have s5:=mC (eD ok.2.1) vc.sides;refine .srv ok vc ⟨h0,h5⟩ fun s _ s2 _=> ?_;obtain⟨b,b1,_⟩:=lO s id s2;rw[b1,ae,dS];refine .br (fun _=> .br (fun _=> .ret (.self ok)) fun _=> .ip h0 (.get (by omega) fun _ _ _=> ?_)) fun _=> .ret (.self ok);rw[dS];refine .br (fun _=> ?_) fun _=> .ret (.self ok);rw[dS];refine .br (fun _=> ?_) fun _=> .ret (.self ok);obtain⟨l,d,g1,_⟩:=wZ x.lease s.config.epoch id x.now t;rw[g1,ae,dS];exact .br (fun _=> .ret ⟨ok,rfl⟩) fun _=> .ret (.self ok)
theorem PI (x:dR) (ok:fO 1048576 x) (want term:Int):Tt (fun y=>Kp x y.1) (mu x want term):=by unfold mu;rw[(ir x ok).1,ae];refine .bind (oS x ok) fun v _=> ?_;rw[dS];refine .br (fun _=> ?_) fun _=> .ret (.self ok);rw[gl,ae,dS];refine .br (fun _=> .bind (Kr x ok) fun _ _=> .br (fun _=> .ret (.self ok)) fun _=> .bind (Qe x ok want 0) fun n hn=> ?_) fun _=> .ret (.self ok);rw[dS];refine .br (fun _=> .bind (zo x ok n.1 hn) fun y hy=> ?_) fun _=> .ret (.self ok);rw[dS];refine .br (fun _=> ?_) fun _=> .ret (.self ok);obtain⟨t,t1,_⟩:=Cz x.lease;rw[t1,ae];refine .bind (Qc y.1 hy.1 _) fun z hz=> ?_;rw[dS];refine .br (fun _=> .bind (zn z.1 hz.1) fun a ha=> ?_) fun _=> .ret (.self ok);rw[dS];exact .br (fun _=> .bind (NM a.1 ha.1 _ _) fun r hr=> .ret (hy.trans (hz.trans (ha.trans hr)))) fun _=> .ret (hy.trans (hz.trans ha))
theorem Tj (x:dR) (ok:fO 1048576 x) (to:Int):Tt (fun y=>y.1=0->VC x) (po x to):=by obtain⟨c,b,c1,c2,c3⟩:=Ji x ok;unfold po;rw[c1,ae];refine .bind (oS x ok) fun v hv=> ?_;rw[dS];refine .br (fun h=> ?_) fun _=> .ret nofun;have vc:=hv h;have s5:=mC (eD ok.2.1) vc.sides;rw[dS];refine .br (fun hb=> ?_) fun _=> .ret nofun;obtain⟨r5,_,_,_,hp,_⟩:=c3 vc;have hp:=(hp hb).2;rw[(gf c.replicas to (by unfold maxLen; omega)).1,ae,dS];refine .br (fun _=> .br (fun _=> .ret nofun) fun _=> ?_) fun _=> .ret nofun;rw[dS];refine .br (fun _=> .br (fun _=> .ret nofun) fun _=> .br (fun _=> .ret nofun) fun _=> .bind (Kr x ok) fun _ _=> ?_) fun _=> .ret nofun;rw[dS];refine .br (fun _=> .ip hp.1 (.get (by show c.primary.toNat<x.sides.length; omega) fun _ _ _=> ?_)) fun _=> .ret nofun;rw[dS];refine .br (fun _=> .br (fun _=> ?_) fun _=> .ret fun _=>vc) fun _=> .ret nofun;rw[dS];exact .br (fun _=> .ret fun _=>vc) fun _=> .ret nofun
theorem PJ (x:dR) (ok:fO 1048576 x) (to:Int):Tt (fun y=>Kp x y.1) (kN x to):=by
 obtain⟨c,b,c1,c2,c3⟩:=Ji x ok;unfold kN;rw[(ir x ok).1,ae];refine .bind (Tj x ok to) fun n hn=> ?_;rw[dS];refine .br (fun h=> ?_) fun _=> .ret (.self ok);obtain⟨r5,w5,_⟩:=c3 (hn (eq_of_beq h));rw[c1,ae];refine .bind (Ko x ok c.primary) fun y hy=> ?_;have hy':Kp x ⟨y.1.now,y.1.servers,y.1.sides,y.1.master,y.1.masterUp,⟨0,0,0⟩,y.1.places⟩:=⟨hy.1,hy.2⟩
 exact .bind (zo _ hy'.1 ⟨_,to,c.replicas,c.witnesses⟩ ⟨by show c.replicas.length<=_; omega,by show c.witnesses.length<=_; omega⟩) fun z hz=> .bind (zn z.1 hz.1) fun w hw=> .ret (hy'.trans (hz.trans hw))
end Go.Proofs.YtlaicbcfjcplhaaGreat.En
namespace Go.Proofs.YtlaicbcfjcplhaaGreat.En
open Go
theorem Tt.byte {α:Type} {Q:α->Prop} {b:ByteArray} {i:Nat} {k:UInt8->Option α} (hi:i<b.size) (h: ∀x,Tt Q (k x)):Tt Q ((b[i]?).bind k):=by rw[getElem?_pos b i hi];exact h _
theorem CD (b:Int): (Kw ((([b]:List Int).drop 0).take ([b]:List Int).length)).size=1:=rfl
theorem kB (n:Int) (h:n.natAbs<=1000):Tt (fun y=>y.1.size<=1001) (gX n):=by
 unfold gX;refine .br (fun _=> .ret (by decide)) fun _=> .bind (.loop (B:=o4) (E:=fun e=>e.1.1.size<=1000) (fun s=>s.1.2.1.size+s.1.1.natAbs<=1000) (fun s=>s.1.1.natAbs) ?_ (by simpa using h)) fun y hy=> .br (fun _=> .ip ?_ (.ret ?_)) fun _=> .ret (aL hy (by omega))
 ·rintro⟨⟨n,acc,neg,_⟩,_,_⟩ hs
  have hs:acc.size+n.natAbs<=1000:=hs;refine .br (fun h0=> ?_) fun _=> .ret (by show acc.size<=1000; omega);have h0:n≠0:=fun e=>by rw[e] at h0; cases h0
  have ha: (Int.tdiv n 10).natAbs=n.natAbs / 10:=Int.natAbs_tdiv n 10;have hw:IntKind.wrap .i64 (Int.tdiv n 10)=Int.tdiv n 10:=eL (by omega) (by omega);dsimp only;rw[hw];refine .br (fun _=> .ip ⟨dK,aq _⟩ (.ip (by rw[CD]; omega) (.ret ⟨?_,?_⟩))) fun _=> .ip ⟨dK,aq _⟩ (.ip (by rw[CD]; omega) (.ret ⟨?_,?_⟩))
  all_goals first
   | (show (_++acc).size+(Int.tdiv n 10).natAbs<=1000; rw[ByteArray.size_append,CD]; omega)
   | (show (Int.tdiv n 10).natAbs<n.natAbs; omega)
 ·show (⟨⟨[45]⟩⟩:ByteArray).size+y.1.1.size<=2 ^ 40;have : (⟨⟨[45]⟩⟩:ByteArray).size=1:=rfl;omega
 ·show ((⟨⟨[45]⟩⟩:ByteArray)++y.1.1).size<=1001;have : (⟨⟨[45]⟩⟩:ByteArray).size=1:=rfl;rw[ByteArray.size_append];omega
theorem Rg {o:Op} (h:Q8 o=true): (0<=o.client/\o.client<=2)/\(1<=o.seq/\o.seq<=99)/\(0<=o.object/\o.object<=2)/\(0<=o.value/\o.value<=9)/\(o.kind≠1->0<=o.old/\o.old<=9):=by
 obtain⟨h1,h2,h4⟩:=Q9 h;have h3:=Km (show fh o=some (true,()) by rw[tJ,h]);refine⟨ey.1 h1,ey.1 h2,h3,ey.1 h4,fun hk=> ?_⟩;have h0:fh o=some (true,()):=by rw[tJ,h]
 unfold fh at h0;simp only[gl,ae,h1,h2,h4,ey.2 h3,cg,eS,beq_eq_false_iff_ne.2 hk] at h0;cases hk2: (o.kind==2) with
 |false=>rw[hk2] at h0; cases h0
 |true=>rw[hk2] at h0;simp only[eg,af,an,and_true] at h0;exact ey.1 h0
theorem Lt (o:Op):Tt (fun y=>y.1.size<=10000) (qY o):=by
 unfold qY;rw[tJ,ae,dS];refine .br (fun h=> ?_) fun _=> .ret (by decide);obtain⟨n1,n2,n3,n4,n5⟩:=Rg h;have e1: (⟨⟨[46]⟩⟩:ByteArray).size=1:=rfl;have e2: (⟨⟨[32]⟩⟩:ByteArray).size=1:=rfl;have e3: (⟨⟨[119,114,105,116,101,32]⟩⟩:ByteArray).size=6:=rfl;have e4: (⟨⟨[115,119,97,112,32]⟩⟩:ByteArray).size=5:=rfl;refine .bind (kB _ (by omega)) fun a ha=> .ip (by omega) (.bind (kB _ (by omega)) fun b hb=> .ip (by rw[ByteArray.size_append]; omega) (.ip (by simp only[ByteArray.size_append]; omega) (.br (fun _=> .ip (by simp only[ByteArray.size_append]; omega) (.bind (kB _ (by omega)) fun c hc=> .ip (by simp only[ByteArray.size_append]; omega) (.ip (by simp only[ByteArray.size_append]; omega) (.bind (kB _ (by omega)) fun d hd=> .ip (by simp only[ByteArray.size_append]; omega) (.ret ?_))))) fun hk=> ?_)))
 ·show ByteArray.size _<=_;simp only[ByteArray.size_append];omega
 ·have n5:=n5 fun e=>by rw[e] at hk; cases hk
  refine .ip (by simp only[ByteArray.size_append]; omega) (.bind (kB _ (by omega)) fun c hc=> .ip (by simp only[ByteArray.size_append]; omega) (.ip (by simp only[ByteArray.size_append]; omega) (.bind (kB _ (by omega)) fun d hd=> .ip (by simp only[ByteArray.size_append]; omega) (.ip (by simp only[ByteArray.size_append]; omega) (.bind (kB _ (by omega)) fun e he=> .ip (by simp only[ByteArray.size_append]; omega) (.ret ?_))))));show ByteArray.size _<=_;simp only[ByteArray.size_append];omega
theorem Jk (l:List eb) (hl:l.length<=maxLen):Tt (fun y=>y.1.size<=1000000) (pn l):=by
 obtain⟨b,b1,b2⟩:=va hl;unfold pn;rw[b1,ae,dS];refine .br (fun e=> ?_) fun _=> .ret (by decide);have h16:=b2 e;subst e;have hlog:=((NA l hl).1 b1).2;refine .br (fun _=> .ret (by decide)) fun _=> .bind (.count (B:=o5) (E:=fun e=>e.1.1.size<=1000000) l.length (fun k (b:ByteArray)=>((l,b,(k:Int),()),(),())) (fun k b=>b.size<=k*20000) (fun b hb=> .end (aV _) (.ret (by show b.size<=_; omega))) (fun k b hk hb=> ?_) ByteArray.empty (aA _)) fun y hy=> .ret hy;have sw:=dV hl hk;have e1: (⟨⟨[58]⟩⟩:ByteArray).size=1:=rfl;have e2: (⟨⟨[59]⟩⟩:ByteArray).size=1:=rfl;have hb:b.size<=k*20000:=hb;have hk2:k*20000<=16*20000:=bn _ (by omega);refine .go (aG.2 hk) (.br (fun _=> .ip (by rw[e2]; show b.size+1<=_; omega) (.ip (au k) (.get (tn hk) fun e he _=> .bind (kB _ ?_) fun y hy=> ?_))) fun _=> .ip (au k) (.get (tn hk) fun e he _=> .bind (kB _ ?_) fun y hy=> ?_))
 case refine_1|refine_3=>have:=hlog k hk;unfold PD at this;rw[show l[k]? =some e from he] at this;simp only[al] at this;have:=ey.1 this.1;omega
 all_goals
  dsimp only;rw[sw];refine .ip (by first |omega| (simp only[ByteArray.size_append]; omega)) (.ip (by simp only[ByteArray.size_append]; omega) (.ip (au k) (.get (tn hk) fun e2 _ _=> .bind (Lt e2.op) fun z hz=> .ip (by simp only[ByteArray.size_append]; omega) (.ret ⟨_,rfl,?_⟩))));simp only[ByteArray.size_append];omega
theorem Lu (b:ByteArray) (hb:b.size<=1000000):Tt T1 (qZ b):=by unfold qZ;exact .bind (.count (B:=qd) (E:=fun _=>True) b.size (fun k (n:Int)=>((b,n,(k:Int),()),(),())) (fun _ _=>True) (fun _ _=> .end (aV _) (.ret trivial)) (fun k n hk _=> .go (aG.2 hk) (.ip (au k) (.byte hk fun x=> .ret ⟨_,by rw[dV (n:=b.size) (by unfold maxLen; omega) hk],trivial⟩))) 5 trivial) fun _ _=> .ret trivial
theorem NN (l:List eb) (hl:l.length<=maxLen):Tt (fun y=>y.1.length<=l.length+1/\y.1.length<=17) (n6 l):=by
 obtain⟨b,b1,b2⟩:=va hl;unfold n6;rw[b1,ae,dS];refine .br (fun e=> ?_) fun _=> .ret ⟨aA _,aA _⟩;have h16:=b2 e;refine .ip (by simp) (.bind (.count (B:=nZ) (E:=fun e=>e.2.2.1.length<=l.length+1/\e.2.2.1.length<=17) l.length (fun k (b:Int×List Int)=>((l,(),b.1,(k:Int),()),(),b.2,())) (fun k b=>b.2.length=k+1) (fun b hb=> .end (aV _) (.ret (by show b.2.length<=_/\b.2.length<=_; omega))) (fun k b hk hb=> ?_) (11,[11]) rfl) fun y hy=> .ret hy);have sw:=dV hl hk;refine .go (aG.2 hk) ?_;dsimp only;rw[sw];refine .ip ⟨au k,by omega,Int.ofNat_le.2 hk⟩ (.bind (Jk _ (aL (by rw[aY,bi]; omega) hl)) fun y hy=> .bind (Lu y.1 hy) fun z _=> .ip ?_ (.ret ⟨(_,_),rfl,?_⟩))
 ·rw[az,ax,hb];omega
 ·rw[az,ax,hb]
theorem Ks (l:List eb) (k:Int) (hl:l.length<=maxLen):Tt (fun y=>y.1≠ -1->0<=k/\k<=(l.length:Int)) (oM l k):=by unfold oM;refine .bind (NN l hl) fun y hy=> ?_;rw[eL (n:=(y.1.length:Int)-1) (by omega) (by omega),gl,ae,dS];refine .br (fun h=> ?_) fun _=> .ret fun h=>absurd rfl h;have h:=ey.1 h;exact .ip (by omega) (.get (by omega) fun _ _ _=> .ret fun _=>by omega)
theorem Ri (x:dR) (ok:fO 1048576 x) (a b:Int):Tt (fun y=>y.1=true->VC x/\(0<=a/\a<5)/\(0<=b/\b<5)) (pm x a b):=by
 unfold pm;refine .bind (oS x ok) fun v hv=> ?_;rw[dS];refine .br (fun h=> ?_) fun _=> .ret nofun;have vc:=hv h;have h5:=mC (eD ok.2.1) vc.sides
 have side:Tt (fun y:Bool×Unit=>y.1=true->(0<=a/\a<5)/\(0<=b/\b<5)) (iA x.sides a b):=by unfold iA;simp only[vc.sides,gl,ae,eg];refine .br (fun ha=> .br (fun hb=> ?_) fun _=> .ret nofun) fun _=> .ret nofun;have ha:=ey.1 ha;have hb:=ey.1 hb;exact .ip ha.1 (.get (by omega) fun _ _ _=> .ip hb.1 (.get (by omega) fun _ _ _=> .ret fun _=>by omega))
 refine .bind side fun y hy=> ?_;rw[dS];refine .br (fun h=> ?_) fun _=> .ret nofun;obtain⟨ha,hb⟩:=hy h;refine .br (fun _=> .ret nofun) fun _=> .srv ok vc ha fun s _ s2 _=> ?_;obtain⟨n,n1,_⟩:=wY s.config a (eV s2.1);obtain⟨m,m1,_⟩:=wY s.config b (eV s2.1);rw[n1,ae,m1];have good: ∀d:Bool,Tt (fun y:Bool×Unit=>y.1=true->VC x/\(0<=a/\a<5)/\(0<=b/\b<5)) (some (d,())):=fun d=> .ret fun _=>⟨vc,ha,hb⟩
 exact .br (fun _=> .srv ok vc hb fun _ _ _ _=> .br (fun _=> .br (fun _=> .br (fun _=>good _) fun _=>good _) fun _=> .br (fun _=> .br (fun _=>good _) fun _=>good _) fun _=>good _) fun _=>good _) fun _=>good _
theorem Sw (x:dR) (ok:fO 1048576 x) (a b:Int):Tt (fun y=>0<=y.1->VC x/\(0<=a/\a<5)/\(0<=b/\b<5)/\ ∃s l,x.servers[a.toNat]? =some s/\fH s=some (l,())/\l.length<=16/\y.1<=(l.length:Int)) (mr x a b):=by
 unfold mr;refine .bind (Ri x ok a b) fun v hv=> ?_;rw[dS];refine .br (fun h=> ?_) fun _=> .ret fun h=>absurd h (by decide);obtain⟨vc,ha,hb⟩:=hv h;refine .srv ok vc ha fun s s1 s2 s3=> ?_;obtain⟨⟨l,_⟩,l1,l2⟩:=w6 s s2 (FC s2 s3);have l2:l.length<=16:=l2;rw[l1,ae];refine .srv ok vc hb fun t _ t2 _=> .srv ok vc hb fun u _ u2 _=> .bind (Q:=T1) ?_ fun d _=> .bind (Q:=fun y=>y.1=true->(t.learned.length:Int)<=(l.length:Int)) ?_ fun p hp=> ?_
 ·unfold mN;exact .bind (Ks _ _ (eD u2.2.2)) fun _ _=> .ret trivial
 ·unfold n7;refine .br (fun hd=> .bind (Ks l _ (by unfold maxLen; omega)) fun y hy=> .ret fun e=> ?_) fun _=> .ret nofun;have hd:d.1≥0:=of_decide_eq_true hd;have e:=eq_of_beq e;exact (hy (by omega)).2
 ·have tl:=t2.2.2;rw[dS];refine .br (fun e=> .ret fun _=>⟨vc,ha,hb,s,l,s1,l1,l2,?_⟩) fun _=> .ret fun _=>⟨vc,ha,hb,s,l,s1,l1,l2,?_⟩
  ·have:=hp e;show IntKind.wrap .i64 ((l.length:Int)-(t.learned.length:Int))<=_;rw[eL (by omega) (by omega)];omega
  ·show IntKind.wrap .i64 ((l.length:Int)-0)<=_;rw[eL (by omega) (by omega)];omega
theorem Rj (x:dR) (ok:fO 1048576 x) (a b n:Int):Tt (fun y=>Kp x y.1) (mt x a b n):=by
 unfold mt;rw[(ir x ok).1,ae];refine .bind (Sw x ok a b) fun y hy=> .br (fun _=> .ret (.self ok)) fun h=> ?_;have h: ¬y.1<0:=of_decide_eq_false h;obtain⟨vc,ha,hb,s,l,s1,l1,l2,le⟩:=hy (by omega);rw[gl,ae,dS];refine .br (fun w=> .ip ha.1 ?_) fun _=> .ret (.self ok);have w:=ey.1 w;rw[s1,ae,l1,ae];dsimp only;have hm: (if n<y.1 then n else y.1)<=y.1/\0<=(if n<y.1 then n else y.1):=by split<;>omega
 generalize (if n<y.1 then n else y.1)=m at hm;rw[eL (n:=(l.length:Int)-y.1) (by omega) (by omega),eL (n:=(l.length:Int)-y.1+m) (by omega) (by omega)]
 have hl: ((l.drop (0+(0:Int).toNat)).take (((l.length:Int)-y.1+m).toNat-(0:Int).toNat)).length<=1048576:=by rw[aY,bi];omega
 refine .ip (by omega) (.ip (by omega) ?_);rw[yd hl,ae];exact .at vc.len hb fun u _ hu=> .ret ((Kp.self ok).set (s:=⟨u.up,u.intact,u.version,u.epoch,u.config,u.first,u.log,u.commit,(l.drop (0+(0:Int).toNat)).take (((l.length:Int)-y.1+m).toNat-(0:Int).toNat)⟩) ⟨(ok.1.2 u hu).1,(ok.1.2 u hu).2.1,hl⟩ _)
theorem NP {x y:dR} {n:Int} {r:Option (dR×Int×Unit)} (h:r=some (y,n,())/\fO 1048576 y/\y.servers.length=x.servers.length):Tt (fun z=>Kp x z.1) r:=⟨_,h.1,h.2⟩
theorem Sx (x:dR) (ok:fO 1048576 x) (e:fp):Tt (fun y=>Kp x y.1) (sM x e):=by obtain⟨_,_,c1⟩:=Ra x ok e.server;obtain⟨_,_,c2⟩:=ND x ok e.server;obtain⟨_,_,c3⟩:=Si x ok e.server;obtain⟨_,_,c4⟩:=Sj x ok e.server e.n;obtain⟨_,_,c5⟩:=NE x ok e.n;unfold sM;refine .br (fun _=> .bind (NM x ok _ _) fun y hy=> .ret hy) fun _=> .br (fun _=> .bind (Qe x ok _ _) fun n hn=> ?_) fun _=> .br (fun _=> .bind (zn x ok) fun y hy=> .ret hy) fun _=> .br (fun _=> .bind (NP c1) fun y hy=> .ret hy) fun _=> .br (fun _=> .bind (NP c2) fun y hy=> .ret hy) fun _=> .br (fun _=> .bind (NP c3) fun y hy=> .ret hy) fun _=> .br (fun _=> .bind (NP c4) fun y hy=> .ret hy) fun _=> .br (fun _=> .bind (NP c5) fun y hy=> .ret hy) fun _=> .br (fun _=> .bind (Qc x ok _) fun y hy=> .ret hy) fun _=> .br (fun _=> .bind (Rj x ok _ _ _) fun y hy=> .br (fun _=> .ret hy) fun _=> .ret hy) fun _=> .br (fun _=> .bind (NJ x ok _) fun y hy=> .ret hy) fun _=> .br (fun _=> .bind (Jj x ok _) fun y hy=> .ret hy) fun _=> .br (fun _=> .bind (PJ x ok _) fun y hy=> .ret hy) fun _=> .bind (PI x ok _ _) fun y hy=> .ret hy;rw[dS];refine .br (fun _=> .bind (zo x ok _ hn) fun y hy=> .ret hy) fun _=> ?_;rw[(ir x ok).1];exact .ret (.self ok)
theorem Sy (k:Int):Tt T1 (sr k):=by
 unfold sr
 repeat first |exact .ret trivial|refine .br (fun _=> ?_) fun _=> ?_
theorem NQ (e:fp):Tt T1 (ly e):=by
 unfold ly;simp only[gl,ae,tJ];refine .br (fun _=> .ret trivial) fun _=> .br (fun _=> .ret trivial) fun _=> .br (fun _=> .ret trivial) fun _=> .br (fun _=> .ret trivial) fun _=> .bind (Sy _) fun _ _=> ?_
 repeat first |exact .ret trivial|refine .br (fun _=> ?_) fun _=> ?_
theorem Lw (x:dR) (ok:fO 1048576 x) (e:fp):Tt (fun y=>Kp x y.1) (q8 x e):=by unfold q8;rw[(ir x ok).1];refine .bind (oS x ok) fun _ _=> .br (fun _=> .ret (Kp.self ok)) fun _=> .bind (NQ e) fun _ _=> .br (fun _=> .ret (Kp.self ok)) fun _=> .br (fun _=> .bind (PF x ok _ _) fun y hy=> .ret hy) fun _=> .br (fun _=> ?_) fun _=> .bind (Sx x ok e) fun y hy=> .ret hy;exact .bind (Q:=fun y=>Kp x y.1) ⟨_,rfl,Kp.self ok⟩ fun y hy=> .bind (Jg x ok _ _) fun _ _=> .ret hy
theorem Jl (x:dR) (ok:fO 1048576 x) (l:List fp) (hl:l.length<=1048576):Tt (fun y=>Kp x y.1/\y.2.1.length<=l.length) (pp x l):=by
 have lm:=eD hl;unfold pp;rw[(ir x ok).1,ae];refine .bind (.count (B:=o6) (E:=fun e=> ∃ (c:dR) (r:List ko),Kp x c/\r.length<=l.length/\e=(((),(),(),()),(fz,fc c,()),r,c.servers,c.sides,c.master.configs,c.places,())) l.length (fun k (b:dR×List ko)=>((l,(),(),(),(k:Int),()),(fz,fc b.1,()),b.2,b.1.servers,b.1.sides,b.1.master.configs,b.1.places,())) (fun k b=>Kp x b.1/\b.2.length<=k) (fun b hb=> .end (aV _) (.ret ⟨b.1,b.2,hb.1,hb.2,rfl⟩)) (fun k b hk hb=> .go (aG.2 hk) (.br (fun _=> .ip (au k) (.get (tn hk) fun e _ _=> .bind (Lw b.1 hb.1.1 e) fun y hy=> .ip ?_ (.ret ⟨(y.1,b.2++ [y.2.1]),by rw[dV lm hk],hb.1.trans hy,?_⟩))) fun _=> .ret ⟨b.1,b.2,hb.1,by omega,rfl⟩)) (x,[]) ⟨.self ok,aq _⟩) ?_
 ·show (b.2++ [y.2.1]).length*32<=2 ^ 40;rw[az,ax];omega
 ·rw[az,ax];omega
 ·rintro _ ⟨c,r,hc,hr,rfl⟩
  exact .ret ⟨hc,hr⟩
end Go.Proofs.YtlaicbcfjcplhaaGreat.En
