/- Marks of rows that take more or less: written, and found again. Sizes, exactly. -/
import Derived.Test.YtkcgfceffffmoaaGreatZPV6
namespace Go.Proofs.YtkcgfceffffmoaaGreat.En
open Go
section
variable {α:Type}
def Gx (w:α->Int):List α->Int
 | [] =>0
 | x::l=>w x+Gx w l
def aoV (G:α->Int->α) (w:α->Int):List α->Int->List α
 | [],_=> []
 | x::l,n=>G x n::aoV G w l (n+w x)
theorem Wf (w:α->Int) (a b:List α):Gx w (a++b)=Gx w a+Gx w b:=by
 induction a with
 | nil=>simp [Gx]
 | cons x a ih=>simp only [ce,Gx,ih]; omega
theorem akG (c:Int) (l:List α):Gx (fun _=>c) l=c*(l.length:Int):=by
 induction l with
 | nil=>simp [Gx]
 | cons x l ih=>simp only [Gx,ih,bo,Int.natCast_add,Int.mul_add]; omega
def CX (l:List α):Int:=(l.length:Int)
def SzT (F:α->Int->Option (Int×Unit)) (bd:α->Prop) (t:α->Int):Prop:= ∀ x left,bd x->0<=left->left<=1048576-> ∃ n,F x left=some (n,())/\n<=left/\(0<=n->n=left - t x)
theorem aa4 {F:List α->Int->Option (Int×Unit)} (hF: ∀ l left,F l left=br (decide (IntKind.wrap .i64 (left - (l.length:Int)) < 0)) (some (-1,())) (some (IntKind.wrap .i64 (left - (l.length:Int)),()))):SzT F (fun l=>l.length<=maxLen) CX:=by
 intro l left hl h0 h1;unfold maxLen at hl;unfold CX;rw [hF,iY (by omega) (by omega),ec];split
 ·exact⟨_,rfl,by omega,fun h=>by omega⟩
 ·exact⟨_,rfl,by omega,fun h=>by omega⟩
theorem aiY {F:List α->Int->Option (Int×Unit)} {B: (List α×Int×Int×Unit)×Unit×Unit->Option (((List α×Int×Int×Unit)×Unit×Unit)⊕(((Int×Int×Unit)×Unit×Unit)⊕((Int×Unit×Unit)×Unit×Unit)))} (f:α->Int->Option (Int×Unit)) {bd:α->Prop} {t:α->Int} (hf:SzT f bd t)
  (hF: ∀ l left,F l left=br (decide (IntKind.wrap .i64 (left - (l.length:Int)) < 0)) (some (-1,())) ((mw B ((l,IntKind.wrap .i64 (left - (l.length:Int)),0,()),(),())).bind fun e=>Sum.elim (fun e=>some (e.1.2.1,())) (fun e=>some (e.1.1,())) e))
  (hB: ∀ (l:List α) (v k:Int),B ((l,v,k,()),(),())=br (decide (k < (l.length:Int))) (eg (0<=k) ((l[k.toNat]?).bind fun x=>(f x v).bind fun y=>br (decide (y.1 < 0)) (some (.inr (.inl ((y.1,-1,()),(),())))) (some (.inl ((l,y.1,IntKind.wrap .i64 (k+1),()),(),())))) none) (some (.inr (.inr ((v,(),()),(),()))))):
  SzT F (fun l=>l.length<=maxLen/\ ∀ x∈l,bd x) (fun l=>CX l+Gx t l):=by
 intro l left hl h0 h1;obtain⟨hl,hbd⟩:=hl;have hl':=hl;unfold maxLen at hl';rw [hF,iY (by omega) (by omega),ec];split
 ·exact⟨_,rfl,by omega,fun h=>by omega⟩
 ·rename_i hge
  have fC:=E4 (B:=B) (fun s=> ∃ (k:Nat) (v:Int),s=((l,v,(k:Int),()),(),())/\k<=l.length/\0<=v/\v<=left - (l.length:Int)/\v=left - (l.length:Int) - Gx t (l.take k)) (fun s=>l.length - s.1.2.2.1.toNat)
   (fun e=>(∃ y,e= .inl ((y,-1,()),(),()))\/ ∃ v,e= .inr ((v,(),()),(),())/\v<=left - (l.length:Int)/\v=left - (l.length:Int) - Gx t l)
   (fun s hs=>by
     obtain⟨k,v,rfl,hk,hv0,hv1,hsm⟩:=hs;rw [hB,ec];by_cases hlt:k < l.length
     ·rw [if_pos (by omega),jT (by omega),aw,ai hlt,ae];obtain⟨n,g1,g2,g3⟩:=hf l[k] v (hbd _ (bc _)) hv0 (by omega);rw [g1,ae,ec];split
      ·exact .inr ⟨_,rfl, .inl ⟨_,rfl⟩⟩
      ·have ht:Gx t (l.take (k+1))=Gx t (l.take k)+t l[k] :=by
        rw [bD,ai hlt,Wf]; simp [Gx]
       have:=g3 (by omega);refine .inl ⟨_,rfl,⟨k+1,n,by rw [eB hl hlt],by omega,by omega,by omega,by omega⟩,?_⟩;simp only [eB hl hlt,aw];omega
     ·rw [if_neg (by omega)];refine .inr ⟨_,rfl, .inr ⟨v,rfl,hv1,?_⟩⟩;rw [hsm,bi (by omega)])
   (s:=((l,left - (l.length:Int),0,()),(),())) ⟨0,_,rfl,aK _,by omega,by omega,by simp [Gx]⟩
  obtain⟨e,h2,h3⟩:=fC;rw [h2];rcases h3 with ⟨y,rfl⟩ | ⟨v,rfl,hv,hsm⟩
  ·exact⟨-1,rfl,by omega,fun h=>by omega⟩
  ·exact⟨v,rfl,by omega,fun h=>by simp only [CX]; omega⟩
end
def XT (c:dW):Int:=CX c.replicas+CX c.witnesses
def SY (s:eb):Int:=XT s.config+CX s.log+CX s.learned
def tMl (m:ei):Int:=CX m.configs+Gx XT m.configs
def tSs (l:List eb):Int:=CX l+Gx SY l
def tCl (c:dV):Int:=tSs c.servers+CX c.sides+tMl c.master+CX c.places
theorem aqm {α:Type} (l:List α):0<=CX l:=by unfold CX; omega
theorem agk (c:dW):0<=XT c:=by unfold XT CX; omega
theorem aqn (s:eb):0<=SY s:=by have:=agk s.config; unfold SY CX; omega
theorem agl:SzT BH (fun l=>l.length<=maxLen) CX:=aa4 (fun _ _=>rfl)
theorem adX:SzT wM (fun l=>l.length<=maxLen) CX:=aa4 (fun _ _=>rfl)
theorem amX:SzT AL (fun l=>l.length<=maxLen) CX:=aa4 (fun _ _=>rfl)
theorem alB:SzT oV (nm maxLen) XT:=by
 intro x left hb h0 h1;unfold oV D6 XT;obtain⟨n,g1,g2,g3⟩:=agl x.replicas left hb.1 h0 h1;simp only [g1,ae,ec];split
 ·exact⟨-1,rfl,by omega,fun h=>by omega⟩
 ·obtain⟨m,k1,k2,k3⟩:=agl x.witnesses n hb.2 (by omega) (by omega);simp only [k1,ae];have:=g3 (by omega);split
  ·exact⟨-1,rfl,by omega,fun h=>by omega⟩
  ·exact⟨m,rfl,by omega,fun h=>by have:=k3 h; omega⟩
theorem aqo:SzT qa (nX maxLen) SY:=by
 intro x left hb h0 h1;unfold qa D7 SY;obtain⟨n,g1,g2,g3⟩:=alB x.config left hb.1 h0 h1;simp only [g1,ae,ec];split
 ·exact⟨-1,rfl,by omega,fun h=>by omega⟩
 ·obtain⟨m,k1,k2,k3⟩:=adX x.log n hb.2.1 (by omega) (by omega);simp only [k1,ae];have:=g3 (by omega);split
  ·exact⟨-1,rfl,by omega,fun h=>by omega⟩
  ·obtain⟨q,j1,j2,j3⟩:=adX x.learned m hb.2.2 (by omega) (by omega);simp only [j1,ae];have:=k3 (by omega);split
   ·exact⟨-1,rfl,by omega,fun h=>by omega⟩
   ·exact⟨q,rfl,by omega,fun h=>by have:=j3 h; omega⟩
theorem aoW:SzT wN (fun l=>l.length<=maxLen/\ ∀ s∈l,nX maxLen s) tSs:=
 aiY (B:=n0) qa aqo (fun _ _=>rfl) (fun _ _ _=>rfl)
theorem aoX:SzT wO (fun l=>l.length<=maxLen/\ ∀ s∈l,nm maxLen s) (fun l=>CX l+Gx XT l):=
 aiY (B:=n6) oV alB (fun _ _=>rfl) (fun _ _ _=>rfl)
theorem arK:SzT n7 (JQ maxLen) tMl:=by
 intro x left hb h0 h1;unfold n7 wP;obtain⟨n,g1,g2,g3⟩:=aoX x.configs left hb h0 h1;simp only [g1,ae,ec];split
 ·exact⟨-1,rfl,by omega,fun h=>by omega⟩
 ·exact⟨n,rfl,by omega,g3⟩
theorem arL:SzT pn (pg maxLen) tCl:=by
 intro x left hb h0 h1;unfold pn BI tCl;obtain⟨n,g1,g2,g3⟩:=aoW x.servers left hb.1 h0 h1;simp only [g1,ae,ec];split
 ·exact⟨-1,rfl,by omega,fun h=>by omega⟩
 ·obtain⟨m,k1,k2,k3⟩:=agl x.sides n hb.2.1 (by omega) (by omega);simp only [k1,ae];have:=g3 (by omega);split
  ·exact⟨-1,rfl,by omega,fun h=>by omega⟩
  ·obtain⟨q,j1,j2,j3⟩:=arK x.master m hb.2.2.1 (by omega) (by omega);simp only [j1,ae];have:=k3 (by omega);split
   ·exact⟨-1,rfl,by omega,fun h=>by omega⟩
   ·obtain⟨p,i1,i2,i3⟩:=amX x.places q hb.2.2.2 (by omega) (by omega);simp only [i1,ae];have:=j3 (by omega);split
    ·exact⟨-1,rfl,by omega,fun h=>by omega⟩
    ·exact⟨p,rfl,by omega,fun h=>by have:=i3 h; omega⟩
theorem asG (x:dV) (h:pg maxLen x): ∃ n,pn x 1048576=some (n,())/\(0<=n->pg 1048576 x/\tCl x<=1048576/\n=1048576 - tCl x):=by
 obtain⟨n,g1,g2,g3⟩:=amQ x 1048576 h (by decide) (cu _);obtain⟨m,k1,k2,k3⟩:=arL x 1048576 h (by decide) (cu _);rw [g1] at k1;simp only [af,aq,and_true] at k1;subst k1;exact⟨n,g1,fun h=>⟨g3 h,by have:=k3 h; omega,k3 h⟩⟩
end Go.Proofs.YtkcgfceffffmoaaGreat.En
