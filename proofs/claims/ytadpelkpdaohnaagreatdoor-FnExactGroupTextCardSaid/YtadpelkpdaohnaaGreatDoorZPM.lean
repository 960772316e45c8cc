/- Marks of rows that take more or less: written, and found again. Sizes, exactly. -/
import Derived.Test.YtadpelkpdaohnaaGreatDoorZPV6
namespace Go.Proofs.YtadpelkpdaohnaaGreatDoor.En
open Go
section
variable {α:Type}
def qh (w:α->Int):List α->Int
 | [] =>0
 |x::l=>w x+qh w l
theorem Bw (w:α->Int) (a b:List α):qh w (a++b)=qh w a+qh w b:=by
 induction a with
 |nil=>simp[qh]
 |cons x a ih=>simp only[b6,qh,ih]; omega
def qi (l:List α):Int:=(l.length:Int)
def EW (F:α->Int->Option (Int×Unit)) (bd:α->Prop) (t:α->Int):Prop:= ∀x left,bd x->0<=left->left<=1048576-> ∃n,F x left=some (n,())/\n<=left/\(0<=n->n=left-t x)
theorem vV {F:List α->Int->Option (Int×Unit)} (hF: ∀l left,F l left=br (decide (IntKind.wrap .i64 (left-(l.length:Int))<0)) (some (-1,())) (some (IntKind.wrap .i64 (left-(l.length:Int)),()))):EW F (fun l=>l.length<=maxLen) qi:=by
 intro l left hl h0 h1;unfold maxLen at hl;unfold qi;rw[hF,fY (by omega) (by omega),dI];split
 ·exact⟨_,rfl,by omega,fun h=>by omega⟩
 ·exact⟨_,rfl,by omega,fun h=>by omega⟩
theorem Bx {F:List α->Int->Option (Int×Unit)} {B: (List α×Int×Int×Unit)×Unit×Unit->Option (((List α×Int×Int×Unit)×Unit×Unit)⊕(((Int×Int×Unit)×Unit×Unit)⊕((Int×Unit×Unit)×Unit×Unit)))} (f:α->Int->Option (Int×Unit)) {bd:α->Prop} {t:α->Int} (hf:EW f bd t)
  (hF: ∀l left,F l left=br (decide (IntKind.wrap .i64 (left-(l.length:Int))<0)) (some (-1,())) ((hZ B ((l,IntKind.wrap .i64 (left-(l.length:Int)),0,()),(),())).bind fun e=>Sum.elim (fun e=>some (e.1.2.1,())) (fun e=>some (e.1.1,())) e))
  (hB: ∀ (l:List α) (v k:Int),B ((l,v,k,()),(),())=br (decide (k< (l.length:Int))) (dJ (0<=k) ((l[k.toNat]?).bind fun x=>(f x v).bind fun y=>br (decide (y.1<0)) (some (.inr (.inl ((y.1,-1,()),(),())))) (some (.inl ((l,y.1,IntKind.wrap .i64 (k+1),()),(),())))) none) (some (.inr (.inr ((v,(),()),(),()))))):
  EW F (fun l=>l.length<=maxLen/\ ∀x∈l,bd x) (fun l=>qi l+qh t l):=by
 intro l left hl h0 h1;obtain⟨hl,hbd⟩:=hl;have hl':=hl;unfold maxLen at hl';rw[hF,fY (by omega) (by omega),dI];split
 ·exact⟨_,rfl,by omega,fun h=>by omega⟩
 ·rename_i hge
  have fG:=nv (B:=B) (fun s=> ∃ (k:Nat) (v:Int),s=((l,v,(k:Int),()),(),())/\k<=l.length/\0<=v/\v<=left-(l.length:Int)/\v=left-(l.length:Int)-qh t (l.take k)) (fun s=>l.length-s.1.2.2.1.toNat)
   (fun e=>(∃y,e= .inl ((y,-1,()),(),()))\/ ∃v,e= .inr ((v,(),()),(),())/\v<=left-(l.length:Int)/\v=left-(l.length:Int)-qh t l)
   (fun s hs=>by
     obtain⟨k,v,rfl,hk,hv0,hv1,hsm⟩:=hs;rw[hB,dI];by_cases hlt:k<l.length
     ·rw[if_pos (by omega),eP (by omega),aA,ah hlt,af];obtain⟨n,g1,g2,g3⟩:=hf l[k] v (hbd _ (bF _)) hv0 (by omega);rw[g1,af,dI];split
      ·exact .inr ⟨_,rfl, .inl ⟨_,rfl⟩⟩
      ·have ht:qh t (l.take (k+1))=qh t (l.take k)+t l[k] :=by
        rw[bM,ah hlt,Bw]; simp[qh]
       have:=g3 (by omega);refine .inl ⟨_,rfl,⟨k+1,n,by rw[dT hl hlt],by omega,by omega,by omega,by omega⟩,?_⟩;simp only[dT hl hlt,aA];omega
     ·rw[if_neg (by omega)];refine .inr ⟨_,rfl, .inr ⟨v,rfl,hv1,?_⟩⟩;rw[hsm,bD (by omega)])
   (s:=((l,left-(l.length:Int),0,()),(),())) ⟨0,_,rfl,ba _,by omega,by omega,by simp[qh]⟩
  obtain⟨e,h2,h3⟩:=fG;rw[h2];rcases h3 with ⟨y,rfl⟩| ⟨v,rfl,hv,hsm⟩
  ·exact⟨-1,rfl,by omega,fun h=>by omega⟩
  ·exact⟨v,rfl,by omega,fun h=>by simp only[qi]; omega⟩
end
def GH (c:dM):Int:=qi c.replicas+qi c.witnesses
def Jz (s:eL):Int:=GH s.config+qi s.log+qi s.learned
def Lf (m:ec):Int:=qi m.configs+qh GH m.configs
def Lg (l:List eL):Int:=qi l+qh Jz l
def KI (c:dX):Int:=Lg c.servers+qi c.sides+Lf c.master+qi c.places
theorem zh:EW mJ (fun l=>l.length<=maxLen) qi:=vV (fun _ _=>rfl)
theorem xI:EW kT (fun l=>l.length<=maxLen) qi:=vV (fun _ _=>rfl)
theorem EL:EW mL (fun l=>l.length<=maxLen) qi:=vV (fun _ _=>rfl)
theorem Dz:EW gZ (gX maxLen) GH:=by
 intro x left hb h0 h1;unfold gZ GH;obtain⟨n,g1,g2,g3⟩:=zh x.replicas left hb.1 h0 h1;simp only[g1,af,dI];split
 ·exact⟨-1,rfl,by omega,fun h=>by omega⟩
 ·obtain⟨m,k1,k2,k3⟩:=zh x.witnesses n hb.2 (by omega) (by omega);simp only[k1,af];have:=g3 (by omega);split
  ·exact⟨-1,rfl,by omega,fun h=>by omega⟩
  ·exact⟨m,rfl,by omega,fun h=>by have:=k3 h; omega⟩
theorem H9:EW iJ (ne maxLen) Jz:=by
 intro x left hb h0 h1;unfold iJ Jz;obtain⟨n,g1,g2,g3⟩:=Dz x.config left hb.1 h0 h1;simp only[g1,af,dI];split
 ·exact⟨-1,rfl,by omega,fun h=>by omega⟩
 ·obtain⟨m,k1,k2,k3⟩:=xI x.log n hb.2.1 (by omega) (by omega);simp only[k1,af];have:=g3 (by omega);split
  ·exact⟨-1,rfl,by omega,fun h=>by omega⟩
  ·obtain⟨q,j1,j2,j3⟩:=xI x.learned m hb.2.2 (by omega) (by omega);simp only[j1,af];have:=k3 (by omega);split
   ·exact⟨-1,rfl,by omega,fun h=>by omega⟩
   ·exact⟨q,rfl,by omega,fun h=>by have:=j3 h; omega⟩
theorem GI:EW lq (fun l=>l.length<=maxLen/\ ∀s∈l,ne maxLen s) Lg:=
 Bx (B:=jP) iJ H9 (fun _ _=>rfl) (fun _ _ _=>rfl)
theorem GJ:EW lr (fun l=>l.length<=maxLen/\ ∀s∈l,gX maxLen s) (fun l=>qi l+qh GH l):=
 Bx (B:=jQ) gZ Dz (fun _ _=>rfl) (fun _ _ _=>rfl)
theorem JA:EW hO (tY maxLen) Lf:=by
 intro x left hb h0 h1;unfold hO;obtain⟨n,g1,g2,g3⟩:=GJ x.configs left hb h0 h1;simp only[g1,af,dI];split
 ·exact⟨-1,rfl,by omega,fun h=>by omega⟩
 ·exact⟨n,rfl,by omega,g3⟩
theorem JB:EW iB (o5 maxLen) KI:=by
 intro x left hb h0 h1;unfold iB KI;obtain⟨n,g1,g2,g3⟩:=GI x.servers left hb.1 h0 h1;simp only[g1,af,dI];split
 ·exact⟨-1,rfl,by omega,fun h=>by omega⟩
 ·obtain⟨m,k1,k2,k3⟩:=zh x.sides n hb.2.1 (by omega) (by omega);simp only[k1,af];have:=g3 (by omega);split
  ·exact⟨-1,rfl,by omega,fun h=>by omega⟩
  ·obtain⟨q,j1,j2,j3⟩:=JA x.master m hb.2.2.1 (by omega) (by omega);simp only[j1,af];have:=k3 (by omega);split
   ·exact⟨-1,rfl,by omega,fun h=>by omega⟩
   ·obtain⟨p,i1,i2,i3⟩:=EL x.places q hb.2.2.2 (by omega) (by omega);simp only[i1,af];have:=j3 (by omega);split
    ·exact⟨-1,rfl,by omega,fun h=>by omega⟩
    ·exact⟨p,rfl,by omega,fun h=>by have:=i3 h; omega⟩
theorem Kt (x:dX) (h:o5 maxLen x): ∃n,iB x 1048576=some (n,())/\(0<=n->o5 1048576 x/\KI x<=1048576/\n=1048576-KI x):=by obtain⟨n,g1,g2,g3⟩:=EE x 1048576 h (by decide) (cg _);obtain⟨m,k1,k2,k3⟩:=JB x 1048576 h (by decide) (cg _);rw[g1] at k1;simp only[ae,al,and_true] at k1;subst k1;exact⟨n,g1,fun h=>⟨g3 h,by have:=k3 h; omega,k3 h⟩⟩
end Go.Proofs.YtadpelkpdaohnaaGreatDoor.En
