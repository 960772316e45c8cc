/- Marks of rows that take more or less: written, and found again. Sizes, exactly. -/
import Derived.Test.YtjnleglhcppgcaaGreatZPV6
namespace Go.Proofs.YtjnleglhcppgcaaGreat.En
open Go
section
variable {α:Type}
def oq (w:α->Int):List α->Int
 | [] =>0
 |x::l=>w x+oq w l
theorem Dm (w:α->Int) (a b:List α):oq w (a++b)=oq w a+oq w b:=by
 induction a with
 |nil=>simp[oq]
 |cons x a ih=>simp only[cq,oq,ih]; omega
def lw (l:List α):Int:=(l.length:Int)
def Pz (F:α->Int->Option (Int×Unit)) (bd:α->Prop) (t:α->Int):Prop:= ∀x left,bd x->0<=left->left<=1048576-> ∃n,F x left=some (n,())/\n<=left/\(0<=n->n=left-t x)
theorem FX {F:List α->Int->Option (Int×Unit)} (hF: ∀l left,F l left=br (decide (IntKind.wrap .i64 (left-(l.length:Int))<0)) (some (-1,())) (some (IntKind.wrap .i64 (left-(l.length:Int)),()))):Pz F (fun l=>l.length<=maxLen) lw:=by
 intro l left hl h0 h1;unfold maxLen at hl;unfold lw;rw[hF,fP (by omega) (by omega),ei];split
 ·exact⟨_,rfl,by omega,fun h=>by omega⟩
 ·exact⟨_,rfl,by omega,fun h=>by omega⟩
theorem LC {F:List α->Int->Option (Int×Unit)} {B: (List α×Int×Int×Unit)×Unit×Unit->Option (((List α×Int×Int×Unit)×Unit×Unit)⊕(((Int×Int×Unit)×Unit×Unit)⊕((Int×Unit×Unit)×Unit×Unit)))} (f:α->Int->Option (Int×Unit)) {bd:α->Prop} {t:α->Int} (hf:Pz f bd t)
  (hF: ∀l left,F l left=br (decide (IntKind.wrap .i64 (left-(l.length:Int))<0)) (some (-1,())) ((gQ B ((l,IntKind.wrap .i64 (left-(l.length:Int)),0,()),(),())).bind fun e=>Sum.elim (fun e=>some (e.1.2.1,())) (fun e=>some (e.1.1,())) e))
  (hB: ∀ (l:List α) (v k:Int),B ((l,v,k,()),(),())=br (decide (k< (l.length:Int))) (eh (0<=k) ((l[k.toNat]?).bind fun x=>(f x v).bind fun y=>br (decide (y.1<0)) (some (.inr (.inl ((y.1,-1,()),(),())))) (some (.inl ((l,y.1,IntKind.wrap .i64 (k+1),()),(),())))) none) (some (.inr (.inr ((v,(),()),(),()))))):
  Pz F (fun l=>l.length<=maxLen/\ ∀x∈l,bd x) (fun l=>lw l+oq t l):=by
 intro l left hl h0 h1;obtain⟨hl,hbd⟩:=hl;have hl':=hl;unfold maxLen at hl';rw[hF,fP (by omega) (by omega),ei];split
 ·exact⟨_,rfl,by omega,fun h=>by omega⟩
 ·rename_i hge
  have gE:=sV (B:=B) (fun s=> ∃ (k:Nat) (v:Int),s=((l,v,(k:Int),()),(),())/\k<=l.length/\0<=v/\v<=left-(l.length:Int)/\v=left-(l.length:Int)-oq t (l.take k)) (fun s=>l.length-s.1.2.2.1.toNat)
   (fun e=>(∃y,e= .inl ((y,-1,()),(),()))\/ ∃v,e= .inr ((v,(),()),(),())/\v<=left-(l.length:Int)/\v=left-(l.length:Int)-oq t l)
   (fun s hs=>by
     obtain⟨k,v,rfl,hk,hv0,hv1,hsm⟩:=hs;rw[hB,ei];by_cases hlt:k<l.length
     ·rw[if_pos (by omega),fB (by omega),ap,ah hlt,ae];obtain⟨n,g1,g2,g3⟩:=hf l[k] v (hbd _ (aV _)) hv0 (by omega);rw[g1,ae,ei];split
      ·exact .inr ⟨_,rfl, .inl ⟨_,rfl⟩⟩
      ·have ht:oq t (l.take (k+1))=oq t (l.take k)+t l[k] :=by
        rw[bK,ah hlt,Dm]; simp[oq]
       have:=g3 (by omega);refine .inl ⟨_,rfl,⟨k+1,n,by rw[ey hl hlt],by omega,by omega,by omega,by omega⟩,?_⟩;simp only[ey hl hlt,ap];omega
     ·rw[if_neg (by omega)];refine .inr ⟨_,rfl, .inr ⟨v,rfl,hv1,?_⟩⟩;rw[hsm,bh (by omega)])
   (s:=((l,left-(l.length:Int),0,()),(),())) ⟨0,_,rfl,aI _,by omega,by omega,by simp[oq]⟩
  obtain⟨e,h2,h3⟩:=gE;rw[h2];rcases h3 with ⟨y,rfl⟩| ⟨v,rfl,hv,hsm⟩
  ·exact⟨-1,rfl,by omega,fun h=>by omega⟩
  ·exact⟨v,rfl,by omega,fun h=>by simp only[lw]; omega⟩
end
def xw (c:ej):Int:=lw c.replicas+lw c.witnesses
def uJ (s:eo):Int:=xw s.config+lw s.log+lw s.learned
def RN (m:ev):Int:=lw m.configs+oq xw m.configs
def VW (l:List eo):Int:=lw l+oq uJ l
def BM (c:eg):Int:=VW c.servers+lw c.sides+RN c.master+lw c.places
theorem Tg {α:Type} (l:List α):0<=lw l:=by unfold lw; omega
theorem Eb (c:ej):0<=xw c:=by unfold xw lw; omega
theorem Th (s:eo):0<=uJ s:=by have:=Eb s.config; unfold uJ lw; omega
theorem Jw:Pz tP (fun l=>l.length<=maxLen) lw:=FX (fun _ _=>rfl)
theorem HN:Pz qP (fun l=>l.length<=maxLen) lw:=FX (fun _ _=>rfl)
theorem Pq:Pz tQ (fun l=>l.length<=maxLen) lw:=FX (fun _ _=>rfl)
theorem N8:Pz lx (iH maxLen) xw:=by
 intro x left hb h0 h1;unfold lx xw;obtain⟨n,g1,g2,g3⟩:=Jw x.replicas left hb.1 h0 h1;simp only[g1,ae,ei];split
 ·exact⟨-1,rfl,by omega,fun h=>by omega⟩
 ·obtain⟨m,k1,k2,k3⟩:=Jw x.witnesses n hb.2 (by omega) (by omega);simp only[k1,ae];have:=g3 (by omega);split
  ·exact⟨-1,rfl,by omega,fun h=>by omega⟩
  ·exact⟨m,rfl,by omega,fun h=>by have:=k3 h; omega⟩
theorem Ti:Pz mB (iZ maxLen) uJ:=by
 intro x left hb h0 h1;unfold mB uJ;obtain⟨n,g1,g2,g3⟩:=N8 x.config left hb.1 h0 h1;simp only[g1,ae,ei];split
 ·exact⟨-1,rfl,by omega,fun h=>by omega⟩
 ·obtain⟨m,k1,k2,k3⟩:=HN x.log n hb.2.1 (by omega) (by omega);simp only[k1,ae];have:=g3 (by omega);split
  ·exact⟨-1,rfl,by omega,fun h=>by omega⟩
  ·obtain⟨q,j1,j2,j3⟩:=HN x.learned m hb.2.2 (by omega) (by omega);simp only[j1,ae];have:=k3 (by omega);split
   ·exact⟨-1,rfl,by omega,fun h=>by omega⟩
   ·exact⟨q,rfl,by omega,fun h=>by have:=j3 h; omega⟩
theorem Rm:Pz rF (fun l=>l.length<=maxLen/\ ∀s∈l,iZ maxLen s) VW:=
 LC (B:=oH) mB Ti (fun _ _=>rfl) (fun _ _ _=>rfl)
theorem Rn:Pz rG (fun l=>l.length<=maxLen/\ ∀s∈l,iH maxLen s) (fun l=>lw l+oq xw l):=
 LC (B:=oI) lx N8 (fun _ _=>rfl) (fun _ _ _=>rfl)
theorem UQ:Pz ly (wL maxLen) RN:=by
 intro x left hb h0 h1;unfold ly;obtain⟨n,g1,g2,g3⟩:=Rn x.configs left hb h0 h1;simp only[g1,ae,ei];split
 ·exact⟨-1,rfl,by omega,fun h=>by omega⟩
 ·exact⟨n,rfl,by omega,g3⟩
theorem UR:Pz mt (gX maxLen) BM:=by
 intro x left hb h0 h1;unfold mt BM;obtain⟨n,g1,g2,g3⟩:=Rm x.servers left hb.1 h0 h1;simp only[g1,ae,ei];split
 ·exact⟨-1,rfl,by omega,fun h=>by omega⟩
 ·obtain⟨m,k1,k2,k3⟩:=Jw x.sides n hb.2.1 (by omega) (by omega);simp only[k1,ae];have:=g3 (by omega);split
  ·exact⟨-1,rfl,by omega,fun h=>by omega⟩
  ·obtain⟨q,j1,j2,j3⟩:=UQ x.master m hb.2.2.1 (by omega) (by omega);simp only[j1,ae];have:=k3 (by omega);split
   ·exact⟨-1,rfl,by omega,fun h=>by omega⟩
   ·obtain⟨p,i1,i2,i3⟩:=Pq x.places q hb.2.2.2 (by omega) (by omega);simp only[i1,ae];have:=j3 (by omega);split
    ·exact⟨-1,rfl,by omega,fun h=>by omega⟩
    ·exact⟨p,rfl,by omega,fun h=>by have:=i3 h; omega⟩
theorem VX (x:eg) (h:gX maxLen x): ∃n,mt x 1048576=some (n,())/\(0<=n->gX 1048576 x/\BM x<=1048576/\n=1048576-BM x):=by obtain⟨n,g1,g2,g3⟩:=Pi x 1048576 h (by decide) (cB _);obtain⟨m,k1,k2,k3⟩:=UR x 1048576 h (by decide) (cB _);rw[g1] at k1;simp only[af,an,and_true] at k1;subst k1;exact⟨n,g1,fun h=>⟨g3 h,by have:=k3 h; omega,k3 h⟩⟩
end Go.Proofs.YtjnleglhcppgcaaGreat.En
