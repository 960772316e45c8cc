/- Marks of rows that take more or less: written, and found again. Sizes, exactly. -/
import Derived.Test.YtadpelkpdaohnaaGreatDoorZPV6
namespace Go.Proofs.YtadpelkpdaohnaaGreatDoor.En
open Go
section
variable {α:Type}
def pz (w:α->Int):List α->Int
 | [] =>0
 |x::l=>w x+pz w l
theorem Aa (w:α->Int) (a b:List α):pz w (a++b)=pz w a+pz w b:=by
 induction a with
 |nil=>simp[pz]
 |cons x a ih=>simp only[b6,pz,ih]; omega
def pA (l:List α):Int:=(l.length:Int)
def Du (F:α->Int->Option (Int×Unit)) (bd:α->Prop) (t:α->Int):Prop:= ∀x left,bd x->0<=left->left<=1048576-> ∃n,F x left=some (n,())/\n<=left/\(0<=n->n=left-t x)
theorem uW {F:List α->Int->Option (Int×Unit)} (hF: ∀l left,F l left=br (decide (IntKind.wrap .i64 (left-(l.length:Int))<0)) (some (-1,())) (some (IntKind.wrap .i64 (left-(l.length:Int)),()))):Du F (fun l=>l.length<=maxLen) pA:=by
 intro l left hl h0 h1;unfold maxLen at hl;unfold pA;rw[hF,fQ (by omega) (by omega),dH];split
 ·exact⟨_,rfl,by omega,fun h=>by omega⟩
 ·exact⟨_,rfl,by omega,fun h=>by omega⟩
theorem Ab {F:List α->Int->Option (Int×Unit)} {B: (List α×Int×Int×Unit)×Unit×Unit->Option (((List α×Int×Int×Unit)×Unit×Unit)⊕(((Int×Int×Unit)×Unit×Unit)⊕((Int×Unit×Unit)×Unit×Unit)))} (f:α->Int->Option (Int×Unit)) {bd:α->Prop} {t:α->Int} (hf:Du f bd t)
  (hF: ∀l left,F l left=br (decide (IntKind.wrap .i64 (left-(l.length:Int))<0)) (some (-1,())) ((ia B ((l,IntKind.wrap .i64 (left-(l.length:Int)),0,()),(),())).bind fun e=>Sum.elim (fun e=>some (e.1.2.1,())) (fun e=>some (e.1.1,())) e))
  (hB: ∀ (l:List α) (v k:Int),B ((l,v,k,()),(),())=br (decide (k< (l.length:Int))) (dI (0<=k) ((l[k.toNat]?).bind fun x=>(f x v).bind fun y=>br (decide (y.1<0)) (some (.inr (.inl ((y.1,-1,()),(),())))) (some (.inl ((l,y.1,IntKind.wrap .i64 (k+1),()),(),())))) none) (some (.inr (.inr ((v,(),()),(),()))))):
  Du F (fun l=>l.length<=maxLen/\ ∀x∈l,bd x) (fun l=>pA l+pz t l):=by
 intro l left hl h0 h1;obtain⟨hl,hbd⟩:=hl;have hl':=hl;unfold maxLen at hl';rw[hF,fQ (by omega) (by omega),dH];split
 ·exact⟨_,rfl,by omega,fun h=>by omega⟩
 ·rename_i hge
  have fx:=mG (B:=B) (fun s=> ∃ (k:Nat) (v:Int),s=((l,v,(k:Int),()),(),())/\k<=l.length/\0<=v/\v<=left-(l.length:Int)/\v=left-(l.length:Int)-pz t (l.take k)) (fun s=>l.length-s.1.2.2.1.toNat)
   (fun e=>(∃y,e= .inl ((y,-1,()),(),()))\/ ∃v,e= .inr ((v,(),()),(),())/\v<=left-(l.length:Int)/\v=left-(l.length:Int)-pz t l)
   (fun s hs=>by
     obtain⟨k,v,rfl,hk,hv0,hv1,hsm⟩:=hs;rw[hB,dH];by_cases hlt:k<l.length
     ·rw[if_pos (by omega),eL (by omega),aA,ah hlt,af];obtain⟨n,g1,g2,g3⟩:=hf l[k] v (hbd _ (bF _)) hv0 (by omega);rw[g1,af,dH];split
      ·exact .inr ⟨_,rfl, .inl ⟨_,rfl⟩⟩
      ·have ht:pz t (l.take (k+1))=pz t (l.take k)+t l[k] :=by
        rw[bL,ah hlt,Aa]; simp[pz]
       have:=g3 (by omega);refine .inl ⟨_,rfl,⟨k+1,n,by rw[dS hl hlt],by omega,by omega,by omega,by omega⟩,?_⟩;simp only[dS hl hlt,aA];omega
     ·rw[if_neg (by omega)];refine .inr ⟨_,rfl, .inr ⟨v,rfl,hv1,?_⟩⟩;rw[hsm,bD (by omega)])
   (s:=((l,left-(l.length:Int),0,()),(),())) ⟨0,_,rfl,bi _,by omega,by omega,by simp[pz]⟩
  obtain⟨e,h2,h3⟩:=fx;rw[h2];rcases h3 with ⟨y,rfl⟩| ⟨v,rfl,hv,hsm⟩
  ·exact⟨-1,rfl,by omega,fun h=>by omega⟩
  ·exact⟨v,rfl,by omega,fun h=>by simp only[pA]; omega⟩
end
def Fm (c:dM):Int:=pA c.replicas+pA c.witnesses
def H3 (s:eK):Int:=Fm s.config+pA s.log+pA s.learned
def JP (m:dZ):Int:=pA m.configs+pz Fm m.configs
def JQ (l:List eK):Int:=pA l+pz H3 l
def Jk (c:ek):Int:=JQ c.servers+pA c.sides+JP c.master+pA c.places
theorem xP:Du l6 (fun l=>l.length<=maxLen) pA:=uW (fun _ _=>rfl)
theorem wv:Du kp (fun l=>l.length<=maxLen) pA:=uW (fun _ _=>rfl)
theorem Dk:Du l7 (fun l=>l.length<=maxLen) pA:=uW (fun _ _=>rfl)
theorem Cd:Du gG (gE maxLen) Fm:=by
 intro x left hb h0 h1;unfold gG Fm;obtain⟨n,g1,g2,g3⟩:=xP x.replicas left hb.1 h0 h1;simp only[g1,af,dH];split
 ·exact⟨-1,rfl,by omega,fun h=>by omega⟩
 ·obtain⟨m,k1,k2,k3⟩:=xP x.witnesses n hb.2 (by omega) (by omega);simp only[k1,af];have:=g3 (by omega);split
  ·exact⟨-1,rfl,by omega,fun h=>by omega⟩
  ·exact⟨m,rfl,by omega,fun h=>by have:=k3 h; omega⟩
theorem GL:Du ik (mr maxLen) H3:=by
 intro x left hb h0 h1;unfold ik H3;obtain⟨n,g1,g2,g3⟩:=Cd x.config left hb.1 h0 h1;simp only[g1,af,dH];split
 ·exact⟨-1,rfl,by omega,fun h=>by omega⟩
 ·obtain⟨m,k1,k2,k3⟩:=wv x.log n hb.2.1 (by omega) (by omega);simp only[k1,af];have:=g3 (by omega);split
  ·exact⟨-1,rfl,by omega,fun h=>by omega⟩
  ·obtain⟨q,j1,j2,j3⟩:=wv x.learned m hb.2.2 (by omega) (by omega);simp only[j1,af];have:=k3 (by omega);split
   ·exact⟨-1,rfl,by omega,fun h=>by omega⟩
   ·exact⟨q,rfl,by omega,fun h=>by have:=j3 h; omega⟩
theorem Fn:Du kL (fun l=>l.length<=maxLen/\ ∀s∈l,mr maxLen s) JQ:=
 Ab (B:=jv) ik GL (fun _ _=>rfl) (fun _ _ _=>rfl)
theorem Fo:Du kM (fun l=>l.length<=maxLen/\ ∀s∈l,gE maxLen s) (fun l=>pA l+pz Fm l):=
 Ab (B:=jw) gG Cd (fun _ _=>rfl) (fun _ _ _=>rfl)
theorem H4:Du gH (sW maxLen) JP:=by
 intro x left hb h0 h1;unfold gH;obtain⟨n,g1,g2,g3⟩:=Fo x.configs left hb h0 h1;simp only[g1,af,dH];split
 ·exact⟨-1,rfl,by omega,fun h=>by omega⟩
 ·exact⟨n,rfl,by omega,g3⟩
theorem H5:Du ic (ol maxLen) Jk:=by
 intro x left hb h0 h1;unfold ic Jk;obtain⟨n,g1,g2,g3⟩:=Fn x.servers left hb.1 h0 h1;simp only[g1,af,dH];split
 ·exact⟨-1,rfl,by omega,fun h=>by omega⟩
 ·obtain⟨m,k1,k2,k3⟩:=xP x.sides n hb.2.1 (by omega) (by omega);simp only[k1,af];have:=g3 (by omega);split
  ·exact⟨-1,rfl,by omega,fun h=>by omega⟩
  ·obtain⟨q,j1,j2,j3⟩:=H4 x.master m hb.2.2.1 (by omega) (by omega);simp only[j1,af];have:=k3 (by omega);split
   ·exact⟨-1,rfl,by omega,fun h=>by omega⟩
   ·obtain⟨p,i1,i2,i3⟩:=Dk x.places q hb.2.2.2 (by omega) (by omega);simp only[i1,af];have:=j3 (by omega);split
    ·exact⟨-1,rfl,by omega,fun h=>by omega⟩
    ·exact⟨p,rfl,by omega,fun h=>by have:=i3 h; omega⟩
theorem I5 (x:ek) (h:ol maxLen x): ∃n,ic x 1048576=some (n,())/\(0<=n->ol 1048576 x/\Jk x<=1048576/\n=1048576-Jk x):=by obtain⟨n,g1,g2,g3⟩:=Dd x 1048576 h (by decide) (cf _);obtain⟨m,k1,k2,k3⟩:=H5 x 1048576 h (by decide) (cf _);rw[g1] at k1;simp only[ae,al,and_true] at k1;subst k1;exact⟨n,g1,fun h=>⟨g3 h,by have:=k3 h; omega,k3 h⟩⟩
end Go.Proofs.YtadpelkpdaohnaaGreatDoor.En
