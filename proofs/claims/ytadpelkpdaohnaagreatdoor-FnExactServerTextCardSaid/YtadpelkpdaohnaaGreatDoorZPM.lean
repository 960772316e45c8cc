/- Marks of rows that take more or less: written, and found again. Sizes, exactly. -/
import Derived.Test.YtadpelkpdaohnaaGreatDoorZPV6
namespace Go.Proofs.YtadpelkpdaohnaaGreatDoor.En
open Go
section
variable {α:Type}
def oH (w:α->Int):List α->Int
 | [] =>0
 |x::l=>w x+oH w l
theorem zm (w:α->Int) (a b:List α):oH w (a++b)=oH w a+oH w b:=by
 induction a with
 |nil=>simp[oH]
 |cons x a ih=>simp only[bV,oH,ih]; omega
def oI (l:List α):Int:=(l.length:Int)
def CT (F:α->Int->Option (Int×Unit)) (bd:α->Prop) (t:α->Int):Prop:= ∀x left,bd x->0<=left->left<=1048576-> ∃n,F x left=some (n,())/\n<=left/\(0<=n->n=left-t x)
theorem tX {F:List α->Int->Option (Int×Unit)} (hF: ∀l left,F l left=br (decide (IntKind.wrap .i64 (left-(l.length:Int))<0)) (some (-1,())) (some (IntKind.wrap .i64 (left-(l.length:Int)),()))):CT F (fun l=>l.length<=maxLen) oI:=by
 intro l left hl h0 h1;unfold maxLen at hl;unfold oI;rw[hF,iG (by omega) (by omega),dx];split
 ·exact⟨_,rfl,by omega,fun h=>by omega⟩
 ·exact⟨_,rfl,by omega,fun h=>by omega⟩
theorem zn {F:List α->Int->Option (Int×Unit)} {B: (List α×Int×Int×Unit)×Unit×Unit->Option (((List α×Int×Int×Unit)×Unit×Unit)⊕(((Int×Int×Unit)×Unit×Unit)⊕((Int×Unit×Unit)×Unit×Unit)))} (f:α->Int->Option (Int×Unit)) {bd:α->Prop} {t:α->Int} (hf:CT f bd t)
  (hF: ∀l left,F l left=br (decide (IntKind.wrap .i64 (left-(l.length:Int))<0)) (some (-1,())) ((ij B ((l,IntKind.wrap .i64 (left-(l.length:Int)),0,()),(),())).bind fun e=>Sum.elim (fun e=>some (e.1.2.1,())) (fun e=>some (e.1.1,())) e))
  (hB: ∀ (l:List α) (v k:Int),B ((l,v,k,()),(),())=br (decide (k< (l.length:Int))) (du (0<=k) ((l[k.toNat]?).bind fun x=>(f x v).bind fun y=>br (decide (y.1<0)) (some (.inr (.inl ((y.1,-1,()),(),())))) (some (.inl ((l,y.1,IntKind.wrap .i64 (k+1),()),(),())))) none) (some (.inr (.inr ((v,(),()),(),()))))):
  CT F (fun l=>l.length<=maxLen/\ ∀x∈l,bd x) (fun l=>oI l+oH t l):=by
 intro l left hl h0 h1;obtain⟨hl,hbd⟩:=hl;have hl':=hl;unfold maxLen at hl';rw[hF,iG (by omega) (by omega),dx];split
 ·exact⟨_,rfl,by omega,fun h=>by omega⟩
 ·rename_i hge
  have fb:=p8 (B:=B) (fun s=> ∃ (k:Nat) (v:Int),s=((l,v,(k:Int),()),(),())/\k<=l.length/\0<=v/\v<=left-(l.length:Int)/\v=left-(l.length:Int)-oH t (l.take k)) (fun s=>l.length-s.1.2.2.1.toNat)
   (fun e=>(∃y,e= .inl ((y,-1,()),(),()))\/ ∃v,e= .inr ((v,(),()),(),())/\v<=left-(l.length:Int)/\v=left-(l.length:Int)-oH t l)
   (fun s hs=>by
     obtain⟨k,v,rfl,hk,hv0,hv1,hsm⟩:=hs;rw[hB,dx];by_cases hlt:k<l.length
     ·rw[if_pos (by omega),eW (by omega),aK,ah hlt,af];obtain⟨n,g1,g2,g3⟩:=hf l[k] v (hbd _ (b7 _)) hv0 (by omega);rw[g1,af,dx];split
      ·exact .inr ⟨_,rfl, .inl ⟨_,rfl⟩⟩
      ·have ht:oH t (l.take (k+1))=oH t (l.take k)+t l[k] :=by
        rw[ca,ah hlt,zm]; simp[oH]
       have:=g3 (by omega);refine .inl ⟨_,rfl,⟨k+1,n,by rw[dU hl hlt],by omega,by omega,by omega,by omega⟩,?_⟩;simp only[dU hl hlt,aK];omega
     ·rw[if_neg (by omega)];refine .inr ⟨_,rfl, .inr ⟨v,rfl,hv1,?_⟩⟩;rw[hsm,bR (by omega)])
   (s:=((l,left-(l.length:Int),0,()),(),())) ⟨0,_,rfl,bm _,by omega,by omega,by simp[oH]⟩
  obtain⟨e,h2,h3⟩:=fb;rw[h2];rcases h3 with ⟨y,rfl⟩| ⟨v,rfl,hv,hsm⟩
  ·exact⟨-1,rfl,by omega,fun h=>by omega⟩
  ·exact⟨v,rfl,by omega,fun h=>by simp only[oI]; omega⟩
end
def EK (c:dA):Int:=oI c.replicas+oI c.witnesses
def Ht (s:ek):Int:=EK s.config+oI s.log+oI s.learned
def Jb (m:dT):Int:=oI m.configs+oH EK m.configs
def Jc (l:List ek):Int:=oI l+oH Ht l
def IE (c:ev):Int:=Jc c.servers+oI c.sides+Jb c.master+oI c.places
theorem w3:CT lA (fun l=>l.length<=maxLen) oI:=tX (fun _ _=>rfl)
theorem vz:CT jM (fun l=>l.length<=maxLen) oI:=tX (fun _ _=>rfl)
theorem CP:CT lB (fun l=>l.length<=maxLen) oI:=tX (fun _ _=>rfl)
theorem BE:CT ga (iK maxLen) EK:=by
 intro x left hb h0 h1;unfold ga EK;obtain⟨n,g1,g2,g3⟩:=w3 x.replicas left hb.1 h0 h1;simp only[g1,af,dx];split
 ·exact⟨-1,rfl,by omega,fun h=>by omega⟩
 ·obtain⟨m,k1,k2,k3⟩:=w3 x.witnesses n hb.2 (by omega) (by omega);simp only[k1,af];have:=g3 (by omega);split
  ·exact⟨-1,rfl,by omega,fun h=>by omega⟩
  ·exact⟨m,rfl,by omega,fun h=>by have:=k3 h; omega⟩
theorem Ge:CT gM (lP maxLen) Ht:=by
 intro x left hb h0 h1;unfold gM Ht;obtain⟨n,g1,g2,g3⟩:=BE x.config left hb.1 h0 h1;simp only[g1,af,dx];split
 ·exact⟨-1,rfl,by omega,fun h=>by omega⟩
 ·obtain⟨m,k1,k2,k3⟩:=vz x.log n hb.2.1 (by omega) (by omega);simp only[k1,af];have:=g3 (by omega);split
  ·exact⟨-1,rfl,by omega,fun h=>by omega⟩
  ·obtain⟨q,j1,j2,j3⟩:=vz x.learned m hb.2.2 (by omega) (by omega);simp only[j1,af];have:=k3 (by omega);split
   ·exact⟨-1,rfl,by omega,fun h=>by omega⟩
   ·exact⟨q,rfl,by omega,fun h=>by have:=j3 h; omega⟩
theorem EL:CT ke (fun l=>l.length<=maxLen/\ ∀s∈l,lP maxLen s) Jc:=
 zn (B:=iV) gM Ge (fun _ _=>rfl) (fun _ _ _=>rfl)
theorem EM:CT kf (fun l=>l.length<=maxLen/\ ∀s∈l,iK maxLen s) (fun l=>oI l+oH EK l):=
 zn (B:=iW) ga BE (fun _ _=>rfl) (fun _ _ _=>rfl)
theorem Hu:CT gb (uS maxLen) Jb:=by
 intro x left hb h0 h1;unfold gb;obtain⟨n,g1,g2,g3⟩:=EM x.configs left hb h0 h1;simp only[g1,af,dx];split
 ·exact⟨-1,rfl,by omega,fun h=>by omega⟩
 ·exact⟨n,rfl,by omega,g3⟩
theorem Hv:CT gF (qV maxLen) IE:=by
 intro x left hb h0 h1;unfold gF IE;obtain⟨n,g1,g2,g3⟩:=EL x.servers left hb.1 h0 h1;simp only[g1,af,dx];split
 ·exact⟨-1,rfl,by omega,fun h=>by omega⟩
 ·obtain⟨m,k1,k2,k3⟩:=w3 x.sides n hb.2.1 (by omega) (by omega);simp only[k1,af];have:=g3 (by omega);split
  ·exact⟨-1,rfl,by omega,fun h=>by omega⟩
  ·obtain⟨q,j1,j2,j3⟩:=Hu x.master m hb.2.2.1 (by omega) (by omega);simp only[j1,af];have:=k3 (by omega);split
   ·exact⟨-1,rfl,by omega,fun h=>by omega⟩
   ·obtain⟨p,i1,i2,i3⟩:=CP x.places q hb.2.2.2 (by omega) (by omega);simp only[i1,af];have:=j3 (by omega);split
    ·exact⟨-1,rfl,by omega,fun h=>by omega⟩
    ·exact⟨p,rfl,by omega,fun h=>by have:=i3 h; omega⟩
theorem Ip (x:ev) (h:qV maxLen x): ∃n,gF x 1048576=some (n,())/\(0<=n->qV 1048576 x/\IE x<=1048576/\n=1048576-IE x):=by obtain⟨n,g1,g2,g3⟩:=CI x 1048576 h (by decide) (cz _);obtain⟨m,k1,k2,k3⟩:=Hv x 1048576 h (by decide) (cz _);rw[g1] at k1;simp only[ae,am,and_true] at k1;subst k1;exact⟨n,g1,fun h=>⟨g3 h,by have:=k3 h; omega,k3 h⟩⟩
end Go.Proofs.YtadpelkpdaohnaaGreatDoor.En
