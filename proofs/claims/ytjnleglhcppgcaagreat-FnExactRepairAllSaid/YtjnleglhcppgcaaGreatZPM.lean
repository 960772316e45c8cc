/- Marks of rows that take more or less: written, and found again. Sizes, exactly. -/
import Derived.Test.YtjnleglhcppgcaaGreatZPV6
namespace Go.Proofs.YtjnleglhcppgcaaGreat.En
open Go
section
variable {α:Type}
def eN (w:α->Int):List α->Int
 | [] =>0
 |x::l=>w x+eN w l
def ir (G:α->Int->α) (w:α->Int):List α->Int->List α
 | [],_=> []
 |x::l,n=>G x n::ir G w l (n+w x)
theorem sX (w:α->Int) (a b:List α):eN w (a++b)=eN w a+eN w b:=by
 induction a with
 |nil=>simp[eN]
 |cons x a ih=>simp only[bZ,eN,ih]; omega
theorem xR (G:α->Int->α) (w:α->Int) (a b:List α) (n:Int):ir G w (a++b) n=ir G w a n++ir G w b (n+eN w a):=by
 induction a generalizing n with
 |nil=>simp[eN,ir]
 |cons x a ih=>simp only[bZ,ir,eN,ih,Int.add_assoc]
theorem iG (G:α->Int->α) (w:α->Int) (l:List α) (n:Int): (ir G w l n).length=l.length:=by
 induction l generalizing n with
 |nil=>rfl
 |cons x l ih=>simp only[ir,ba,ih]
theorem sY {w:α->Int} (hw: ∀x,0<=w x) (l:List α):0<=eN w l:=by
 induction l with
 |nil=>exact cm _
 |cons x l ih=>have:=hw x; simp only[eN]; omega
theorem FZ {w:α->Int} (hw: ∀x,0<=w x) {l:List α} {k:Nat} {x:α} (h:l[k]? =some x):eN w (l.take (k+1))=eN w (l.take k)+w x/\eN w (l.take k)+w x<=eN w l/\0<=eN w (l.take k):=by
 have h1:l.take (k+1)=l.take k++ [x] :=by rw[bn,h]; rfl
 have h2:eN w (l.take (k+1))=eN w (l.take k)+w x:=by rw[h1,sX]; simp[eN]
 have h3:eN w l=eN w (l.take (k+1))+eN w (l.drop (k+1)):=by rw[<-sX,cA]
 have h4:=sY hw (l.drop (k+1));have h5:=sY hw (l.take k);exact⟨h2,by omega,h5⟩
theorem yF (c:Int) (l:List α):eN (fun _=>c) l=c*(l.length:Int):=by
 induction l with
 |nil=>simp[eN]
 |cons x l ih=>simp only[eN,ih,ba,Int.natCast_add,Int.mul_add]; omega
theorem wr {F:List α->Int->Option (List α×Int×Unit)} {B: (Unit×Int×Int×Unit)×Unit×(List α×Unit)->Option (((Unit×Int×Int×Unit)×Unit×(List α×Unit))⊕((Int×Unit)×Unit×(List α×Unit)))} (G:α->Int->α) (w:α->Int) (ok:α->Prop)
  (hF: ∀l n,F l n=(gt B (((),n,0,()),(),(l,()))).bind fun e=>some (e.2.2.1,e.1.1,()))
  (hs: ∀ (l:List α) (n:Int) (k:Nat) (x:α),l[k]? =some x->l.length<=1048576->0<=n->n+w x<=900000000->ok x->B (((),n,(k:Int),()),(),(l,()))=some (.inl (((),n+w x,((k+1:Nat):Int),()),(),(l.set k (G x n),()))))
  (he: ∀ (l:List α) (n:Int),B (((),n,(l.length:Int),()),(),(l,()))=some (.inr ((n,()),(),(l,()))))
  (hw: ∀x,0<=w x) (l:List α) (n:Int) (hn:0<=n) (hn2:n+eN w l<=900000000) (hl:l.length<=1048576) (hok: ∀x∈l,ok x):F l n=some (ir G w l n,n+eN w l,()):=by
 have gA:=gJ (B:=B) l (fun k (b:List α)=>(((),n+eN w (l.take k),(k:Int),()),(),(b,()))) (fun k b=>b=ir G w (l.take k) n++l.drop k) (fun _ _ _=>((n+eN w l,()),(),(ir G w l n,())))
  (fun b hb=>by
    have hb:b=ir G w l n:=by rw[hb,List.drop_length,bw,aX]
    have:=he b (n+eN w l);rw[hb,iG] at this;rw[hb,aX];exact this)
  (fun k b x hx hb=>by
    have hk:=fR hx;have hlt: (ir G w (l.take k) n).length=k:=by rw[iG,b6]; omega
    have hbl:b.length=l.length:=by rw[hb,be,hlt,ci]; omega
    obtain⟨g1,g2,g3⟩:=FZ hw hx
    have hd:l.drop k=x::l.drop (k+1):=by rw[bD hk];rw[ah hk] at hx;rw[Option.some.inj hx]
    have hbx:b[k]? =some x:=by rw[hb,aN (by omega),hlt,cJ,hd];rfl
    refine .inl ⟨b.set k (G x (n+eN w (l.take k))),?_,?_,rfl⟩
    ·rw[hs b _ k x hbx (by omega) (by omega) (by omega) (hok x (aq hx)),g1,Int.add_assoc]
    ·have h1:l.take (k+1)=l.take k++ [x] :=by rw[bn,hx]; rfl
     rw[hb,h1,xR,aU,dE _ _ (by omega),hlt,cJ,hd];rfl)
  0 l (aF _) (by simp[ir])
 have h0:n+eN w (l.take 0)=n:=by simp[eN]
 rw[h0] at gA;rw[hF,show gt B (((),n,0,()),(),(l,()))=_ from gA];rfl
theorem wt {F:List α->Int->Option (Int×Unit)} {B: (List α×Int×Int×Unit)×Unit×Unit->Option (((List α×Int×Int×Unit)×Unit×Unit)⊕(((Int×Int×Unit)×Unit×Unit)⊕((Int×Unit×Unit)×Unit×Unit)))} (G:α->Int->α) (w:α->Int) (ok:α->Prop)
  (hF: ∀l n,F l n=(gt B ((l,n,0,()),(),())).bind fun e=>Sum.elim (fun e=>some (e.1.2.1,())) (fun e=>some (e.1.1,())) e)
  (hs: ∀ (l:List α) (n:Int) (k:Nat) (x:α),l[k]? =some (G x n)->l.length<=1048576->0<=n->n+w x<=900000000->ok x->B ((l,n,(k:Int),()),(),())=some (.inl ((l,n+w x,((k+1:Nat):Int),()),(),())))
  (he: ∀ (l:List α) (n:Int),B ((l,n,(l.length:Int),()),(),())=some (.inr (.inr ((n,(),()),(),()))))
  (hw: ∀x,0<=w x) (l:List α) (n:Int) (hn:0<=n) (hn2:n+eN w l<=900000000) (hl:l.length<=1048576) (hok: ∀x∈l,ok x):F (ir G w l n) n=some (n+eN w l,()):=by
 have hml:=iG G w l n
 have gA:=gJ (B:=B) l (fun k (_:Unit)=>((ir G w l n,n+eN w (l.take k),(k:Int),()),(),())) (fun _ _=>True) (fun _ _ _=> .inr ((n+eN w l,(),()),(),()))
  (fun b hb=>by have:=he (ir G w l n) (n+eN w l);rw[hml] at this;rw[aX];exact this)
  (fun k b x hx hb=>by
    have hk:=fR hx;obtain⟨g1,g2,g3⟩:=FZ hw hx;have hlt: (ir G w (l.take k) n).length=k:=by rw[iG,b6]; omega
    have hg: (ir G w l n)[k]? =some (G x (n+eN w (l.take k))):=by
     have h1:l=l.take k++x::l.drop (k+1):=by have:=(cA k l).symm;rw[bD hk] at this;rw[ah hk] at hx;rw[Option.some.inj hx] at this;exact this
     have h2:ir G w l n=ir G w (l.take k) n++(G x (n+eN w (l.take k))::ir G w (l.drop (k+1)) (n+eN w (l.take k)+w x)):=by
      conv=>lhs; rw[h1]
      rw[xR];rfl
     rw[h2,aN (by omega),hlt,cJ];rfl
    refine .inl ⟨(),?_,trivial,rfl⟩;rw[hs _ _ k x hg (by omega) (by omega) (by omega) (hok x (aq hx)),g1,Int.add_assoc])
  0 () (aF _) trivial
 have h0:n+eN w (l.take 0)=n:=by simp[eN]
 rw[h0] at gA;rw[hF,show gt B ((ir G w l n,n,0,()),(),())=_ from gA];rfl
def ev (l:List α):Int:=(l.length:Int)
def M5 (F:α->Int->Option (Int×Unit)) (bd:α->Prop) (t:α->Int):Prop:= ∀x left,bd x->0<=left->left<=1048576-> ∃n,F x left=some (n,())/\n<=left/\(0<=n->n=left-t x)
theorem Ec {F:List α->Int->Option (Int×Unit)} (hF: ∀l left,F l left=br (decide (IntKind.wrap .i64 (left-(l.length:Int))<0)) (some (-1,())) (some (IntKind.wrap .i64 (left-(l.length:Int)),()))):M5 F (fun l=>l.length<=maxLen) ev:=by
 intro l left hl h0 h1;unfold maxLen at hl;unfold ev;rw[hF,eK (by omega) (by omega),dV];split
 ·exact⟨_,rfl,by omega,fun h=>by omega⟩
 ·exact⟨_,rfl,by omega,fun h=>by omega⟩
theorem Jx {F:List α->Int->Option (Int×Unit)} {B: (List α×Int×Int×Unit)×Unit×Unit->Option (((List α×Int×Int×Unit)×Unit×Unit)⊕(((Int×Int×Unit)×Unit×Unit)⊕((Int×Unit×Unit)×Unit×Unit)))} (f:α->Int->Option (Int×Unit)) {bd:α->Prop} {t:α->Int} (hf:M5 f bd t)
  (hF: ∀l left,F l left=br (decide (IntKind.wrap .i64 (left-(l.length:Int))<0)) (some (-1,())) ((gt B ((l,IntKind.wrap .i64 (left-(l.length:Int)),0,()),(),())).bind fun e=>Sum.elim (fun e=>some (e.1.2.1,())) (fun e=>some (e.1.1,())) e))
  (hB: ∀ (l:List α) (v k:Int),B ((l,v,k,()),(),())=br (decide (k< (l.length:Int))) (dU (0<=k) ((l[k.toNat]?).bind fun x=>(f x v).bind fun y=>br (decide (y.1<0)) (some (.inr (.inl ((y.1,-1,()),(),())))) (some (.inl ((l,y.1,IntKind.wrap .i64 (k+1),()),(),())))) none) (some (.inr (.inr ((v,(),()),(),()))))):
  M5 F (fun l=>l.length<=maxLen/\ ∀x∈l,bd x) (fun l=>ev l+eN t l):=by
 intro l left hl h0 h1;obtain⟨hl,hbd⟩:=hl;have hl':=hl;unfold maxLen at hl';rw[hF,eK (by omega) (by omega),dV];split
 ·exact⟨_,rfl,by omega,fun h=>by omega⟩
 ·rename_i hge
  have gA:=qX (B:=B) (fun s=> ∃ (k:Nat) (v:Int),s=((l,v,(k:Int),()),(),())/\k<=l.length/\0<=v/\v<=left-(l.length:Int)/\v=left-(l.length:Int)-eN t (l.take k)) (fun s=>l.length-s.1.2.2.1.toNat)
   (fun e=>(∃y,e= .inl ((y,-1,()),(),()))\/ ∃v,e= .inr ((v,(),()),(),())/\v<=left-(l.length:Int)/\v=left-(l.length:Int)-eN t l)
   (fun s hs=>by
     obtain⟨k,v,rfl,hk,hv0,hv1,hsm⟩:=hs;rw[hB,dV];by_cases hlt:k<l.length
     ·rw[if_pos (by omega),fL (by omega),ao,ah hlt,ae];obtain⟨n,g1,g2,g3⟩:=hf l[k] v (hbd _ (aW _)) hv0 (by omega);rw[g1,ae,dV];split
      ·exact .inr ⟨_,rfl, .inl ⟨_,rfl⟩⟩
      ·have ht:eN t (l.take (k+1))=eN t (l.take k)+t l[k] :=by
        rw[bn,ah hlt,sX]; simp[eN]
       have:=g3 (by omega);refine .inl ⟨_,rfl,⟨k+1,n,by rw[ec hl hlt],by omega,by omega,by omega,by omega⟩,?_⟩;simp only[ec hl hlt,ao];omega
     ·rw[if_neg (by omega)];refine .inr ⟨_,rfl, .inr ⟨v,rfl,hv1,?_⟩⟩;rw[hsm,bf (by omega)])
   (s:=((l,left-(l.length:Int),0,()),(),())) ⟨0,_,rfl,aF _,by omega,by omega,by simp[eN]⟩
  obtain⟨e,h2,h3⟩:=gA;rw[h2];rcases h3 with ⟨y,rfl⟩| ⟨v,rfl,hv,hsm⟩
  ·exact⟨-1,rfl,by omega,fun h=>by omega⟩
  ·exact⟨v,rfl,by omega,fun h=>by simp only[ev]; omega⟩
end
def ue (c:dW):Int:=ev c.replicas+ev c.witnesses
def sB (s:dX):Int:=ue s.config+ev s.log+ev s.learned
def M6 (m:dY):Int:=ev m.configs+eN ue m.configs
def RM (l:List dX):Int:=ev l+eN sB l
def vl (c:dT):Int:=RM c.servers+ev c.sides+M6 c.master+ev c.places
theorem jb {α:Type} (l:List α):0<=ev l:=by unfold ev; omega
theorem Ct (c:dW):0<=ue c:=by unfold ue ev; omega
theorem Qn (s:dX):0<=sB s:=by have:=Ct s.config; unfold sB ev; omega
theorem Hr:M5 rF (fun l=>l.length<=maxLen) ev:=Ec (fun _ _=>rfl)
theorem F0:M5 pG (fun l=>l.length<=maxLen) ev:=Ec (fun _ _=>rfl)
theorem MW:M5 rG (fun l=>l.length<=maxLen) ev:=Ec (fun _ _=>rfl)
theorem LQ:M5 ki (gK maxLen) ue:=by
 intro x left hb h0 h1;unfold ki ue;obtain⟨n,g1,g2,g3⟩:=Hr x.replicas left hb.1 h0 h1;simp only[g1,ae,dV];split
 ·exact⟨-1,rfl,by omega,fun h=>by omega⟩
 ·obtain⟨m,k1,k2,k3⟩:=Hr x.witnesses n hb.2 (by omega) (by omega);simp only[k1,ae];have:=g3 (by omega);split
  ·exact⟨-1,rfl,by omega,fun h=>by omega⟩
  ·exact⟨m,rfl,by omega,fun h=>by have:=k3 h; omega⟩
theorem Qo:M5 lB (gW maxLen) sB:=by
 intro x left hb h0 h1;unfold lB sB;obtain⟨n,g1,g2,g3⟩:=LQ x.config left hb.1 h0 h1;simp only[g1,ae,dV];split
 ·exact⟨-1,rfl,by omega,fun h=>by omega⟩
 ·obtain⟨m,k1,k2,k3⟩:=F0 x.log n hb.2.1 (by omega) (by omega);simp only[k1,ae];have:=g3 (by omega);split
  ·exact⟨-1,rfl,by omega,fun h=>by omega⟩
  ·obtain⟨q,j1,j2,j3⟩:=F0 x.learned m hb.2.2 (by omega) (by omega);simp only[j1,ae];have:=k3 (by omega);split
   ·exact⟨-1,rfl,by omega,fun h=>by omega⟩
   ·exact⟨q,rfl,by omega,fun h=>by have:=j3 h; omega⟩
theorem OP:M5 qk (fun l=>l.length<=maxLen/\ ∀s∈l,gW maxLen s) RM:=
 Jx (B:=nC) lB Qo (fun _ _=>rfl) (fun _ _ _=>rfl)
theorem OQ:M5 qm (fun l=>l.length<=maxLen/\ ∀s∈l,gK maxLen s) (fun l=>ev l+eN ue l):=
 Jx (B:=nD) ki LQ (fun _ _=>rfl) (fun _ _ _=>rfl)
theorem RN:M5 kj (uF maxLen) M6:=by
 intro x left hb h0 h1;unfold kj;obtain⟨n,g1,g2,g3⟩:=OQ x.configs left hb h0 h1;simp only[g1,ae,dV];split
 ·exact⟨-1,rfl,by omega,fun h=>by omega⟩
 ·exact⟨n,rfl,by omega,g3⟩
theorem RP:M5 lr (iq maxLen) vl:=by
 intro x left hb h0 h1;unfold lr vl;obtain⟨n,g1,g2,g3⟩:=OP x.servers left hb.1 h0 h1;simp only[g1,ae,dV];split
 ·exact⟨-1,rfl,by omega,fun h=>by omega⟩
 ·obtain⟨m,k1,k2,k3⟩:=Hr x.sides n hb.2.1 (by omega) (by omega);simp only[k1,ae];have:=g3 (by omega);split
  ·exact⟨-1,rfl,by omega,fun h=>by omega⟩
  ·obtain⟨q,j1,j2,j3⟩:=RN x.master m hb.2.2.1 (by omega) (by omega);simp only[j1,ae];have:=k3 (by omega);split
   ·exact⟨-1,rfl,by omega,fun h=>by omega⟩
   ·obtain⟨p,i1,i2,i3⟩:=MW x.places q hb.2.2.2 (by omega) (by omega);simp only[i1,ae];have:=j3 (by omega);split
    ·exact⟨-1,rfl,by omega,fun h=>by omega⟩
    ·exact⟨p,rfl,by omega,fun h=>by have:=i3 h; omega⟩
theorem S6 (x:dT) (h:iq maxLen x): ∃n,lr x 1048576=some (n,())/\(0<=n->iq 1048576 x/\vl x<=1048576/\n=1048576-vl x):=by obtain⟨n,g1,g2,g3⟩:=MQ x 1048576 h (by decide) (cm _);obtain⟨m,k1,k2,k3⟩:=RP x 1048576 h (by decide) (cm _);rw[g1] at k1;simp only[af,an,and_true] at k1;subst k1;exact⟨n,g1,fun h=>⟨g3 h,by have:=k3 h; omega,k3 h⟩⟩
end Go.Proofs.YtjnleglhcppgcaaGreat.En
