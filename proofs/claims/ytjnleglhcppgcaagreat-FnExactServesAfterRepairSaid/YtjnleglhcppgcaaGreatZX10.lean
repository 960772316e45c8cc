import Derived.Test.YtjnleglhcppgcaaGreatZX9
import Derived.Test.YtjnleglhcppgcaaGreatZX6
import Derived.Shelf.RegionOpenPlain
import Derived.WalkKit
import Derived.Lib.Walk
import Derived.Lib.SliceRun
import Derived.Laws.Externs
import Derived.Laws.IdiomCopy
import Derived.Lib.Strings
import Derived.Lib.Slices
import Derived.Lib.Bytealg
namespace Go.Proofs.YtjnleglhcppgcaaGreat.En
section
open Go
section
variable {σ ε σ1 ε1 σ2 ε2 α β:Type}
theorem gC {B:σ->Option (σ⊕ε)} {s:σ} {e:ε} (h:B s=some (.inr e)):gQ B s=some e:=by rw[xN,h]; rfl
theorem lf {B:σ->Option (σ⊕ε)} {s s':σ} (h:B s=some (.inl s')):gQ B s=gQ B s':=by rw[xN,h]; rfl
theorem jS {B1:σ1->Option (σ1⊕ε1)} {B2:σ2->Option (σ2⊕ε2)} (n:Nat) (m1:Nat->σ1) (m2:Nat->σ2) (t1:ε1) (t2:ε2) (f1:Nat->ε1) (f2:Nat->ε2) (P Q:Nat->Prop)
  (h1:B1 (m1 n)=some (.inr t1)) (h2:B2 (m2 n)=some (.inr t2))
  (h: ∀k,k<n->(B1 (m1 k)=some (.inl (m1 (k+1)))/\B2 (m2 k)=some (.inl (m2 (k+1)))/\P k)\/(B1 (m1 k)=some (.inr (f1 k))/\B2 (m2 k)=some (.inr (f2 k))/\Q k)):
  (gQ B1 (m1 0)=some t1/\gQ B2 (m2 0)=some t2/\ ∀k,k<n->P k)\/ ∃k,k<n/\gQ B1 (m1 0)=some (f1 k)/\gQ B2 (m2 0)=some (f2 k)/\Q k:=by
 have gE: ∀d j,j+d=n->(gQ B1 (m1 j)=some t1/\gQ B2 (m2 j)=some t2/\ ∀k,j<=k->k<n->P k)\/ ∃k,k<n/\gQ B1 (m1 j)=some (f1 k)/\gQ B2 (m2 j)=some (f2 k)/\Q k:=by
  intro d
  induction d with
  |zero=>
   intro j hj;have :j=n:=by omega
   subst this;exact .inl ⟨gC h1,gC h2,fun k a b=>by omega⟩
  |succ d ih=>
   intro j hj;rcases h j (by omega) with ⟨g1,g2,g3⟩| ⟨g1,g2,g3⟩
   ·rw[lf g1,lf g2];rcases ih (j+1) (by omega) with ⟨k1,k2,k3⟩|k
    ·refine .inl ⟨k1,k2,fun k a b=> ?_⟩;rcases ed a with rfl|a
     ·exact g3
     ·exact k3 k a b
    ·exact .inr k
   ·exact .inr ⟨j,by omega,gC g1,gC g2,g3⟩
 rcases gE n 0 (by omega) with ⟨a,b,c⟩|h
 ·exact .inl ⟨a,b,fun k hk=>c k (aI _) hk⟩
 ·exact .inr h
def xP (x y:Option (β×Unit)):Prop:= ∃b,x=some (b,())/\y=some (b,())
theorem ey {n k:Nat} (hn:n<=maxLen) (hk:k<n):IntKind.wrap .i64 ((k:Int)+1)=((k+1:Nat):Int):=by unfold maxLen at hn;rw[fP (by omega) (by omega)];rfl
theorem kH {k:Nat} (hk:0<k) (h:k<=maxLen):IntKind.wrap .i64 ((k:Int)-1)=((k-1:Nat):Int):=by unfold maxLen at h;rw[fP (by omega) (by omega)];omega
theorem KW {α:Type} {F:List α->Option (List α×Unit)} {B: (List α×Unit×Int×Unit)×Unit×(List α×Unit)->Option (((List α×Unit×Int×Unit)×Unit×(List α×Unit))⊕((Unit×Unit)×Unit×(List α×Unit)))} (f:α->Option (α×Unit)) (z:α) (n:Nat)
  (hF: ∀l,F l=eh (0<=(l.length:Int)/\(l.length:Int)=(l.length:Int)/\(l.length:Int)*((n:Nat):Int)<=2 ^ 40) ((gQ B ((l,(),0,()),(),(List.replicate (l.length:Int).toNat z,()))).bind fun e=>some (e.2.2.1,())) none)
  (hB: ∀ (l v:List α) (k:Int),B ((l,(),k,()),(),(v,()))=br (decide (k< (l.length:Int))) (eh (0<=k) ((l[k.toNat]?).bind fun x=>(f x).bind fun y=>eh (0<=k/\k< (v.length:Int)) ((v[k.toNat]?).bind fun _=>some (.inl ((l,(),IntKind.wrap .i64 (k+1),()),(),(v.set k.toNat y.1,())))) none) none) (some (.inr (((),()),(),(v,())))))
  (hn:n<=1048576) (l:List α) (hl:l.length<=1048576) (h: ∀x∈l,f x=some (x,())):F l=some (l,()):=by
 have gE:=iB (B:=B) l (fun k (b:List α)=>((l,(),(k:Int),()),(),(b,()))) (fun _ b=>b.length=l.length) (fun k r b=>(((),()),(),(b.take k++r,())))
  (fun b hb=>by rw[hB,ei,if_neg (by omega),bH,bh (by omega)])
  (fun k b x hx hb=>by
    have hk:=i5 hx;refine .inl ⟨b.set k x,?_,by simp[hb],?_⟩
    ·rw[hB,ei,if_pos (by omega),fB (by omega),ap,hx,ae,h x (ao hx),ae,fB (by omega),ah (by omega),ae,ey (n:=l.length) (by unfold maxLen; omega) hk]
    ·rw[rr _ (by omega)];simp)
  0 (List.replicate l.length z) (aI _) (dN)
 have hm: (l.length:Int)*((n:Nat):Int)<=2 ^ 40:=by
  have h1:l.length*n<=1048576*1048576:=Nat.mul_le_mul hl hn;have h2: ((l.length*n:Nat):Int)<=((1048576*1048576:Nat):Int):=by exact_mod_cast h1
  have h3: ((l.length*n:Nat):Int)=(l.length:Int)*(n:Int):=Int.natCast_mul _ _;have h4: ((1048576*1048576:Nat):Int)=2 ^ 40:=by decide
  omega
 rw[hF,fB ⟨by omega,rfl,hm⟩,ap];have gE:gQ B ((l,(),0,()),(),(List.replicate l.length z,()))=some (((),()),(),(l,())):=by simpa using gE
 rw[gE];rfl
theorem xQ {α:Type} {F:List α->List α->Option (Bool×Unit)} {B: (List α×List α×Int×Unit)×Unit×Unit->Option (((List α×List α×Int×Unit)×Unit×Unit)⊕(((Bool×Unit)×Unit×Unit)⊕((Unit×Unit)×Unit×Unit)))} (f:α->α->Option (Bool×Unit))
  (hF: ∀a b,F a b=br (!((a.length:Int)==(b.length:Int))) (some (false,())) ((gQ B ((a,b,0,()),(),())).bind fun e=>Sum.elim (fun e=>some (e.1.1,())) (fun _=>some (true,())) e))
  (hB: ∀ (a b:List α) (k:Int),B ((a,b,k,()),(),())=br (decide (k< (a.length:Int))) (eh (0<=k) ((a[k.toNat]?).bind fun x=>eh (0<=k) ((b[k.toNat]?).bind fun y=>(f x y).bind fun r=>br (!r.1) (some (.inr (.inl ((false,()),(),())))) (some (.inl ((a,b,IntKind.wrap .i64 (k+1),()),(),())))) none) none) (some (.inr (.inr (((),()),(),())))))
  (l:List α) (hl:l.length<=maxLen) (h: ∀x∈l,f x x=some (true,())):F l l=some (true,()):=by
 have gE:=iB (B:=B) l (fun k (b:Unit)=>((l,l,(k:Int),()),(),())) (fun _ _=>True) (fun k r b=> .inr (((),()),(),()))
  (fun b hb=>by rw[hB,ei,if_neg (by omega)])
  (fun k b x hx hb=>by have hk:=i5 hx;refine .inl ⟨(),?_,trivial,rfl⟩;rw[hB,ei,if_pos (by omega),fB (by omega),ap,hx,ae,fB (by omega),ae,h x (ao hx),ae,ey hl hk];rfl)
  0 () (aI _) trivial
 rw[hF,Q4,if_neg (by simp),show gQ B ((l,l,0,()),(),())=_ from gE];rfl
def Dx (F:α->Int->Option (Int×Unit)) (bd sm:α->Prop):Prop:= ∀x left,bd x->0<=left->left<=1048576-> ∃n,F x left=some (n,())/\n<=left/\(0<=n->sm x)
theorem IT {F:List α->Int->Option (Int×Unit)} (hF: ∀l left,F l left=br (decide (IntKind.wrap .i64 (left-(l.length:Int))<0)) (some (-1,())) (some (IntKind.wrap .i64 (left-(l.length:Int)),()))):Dx F (fun l=>l.length<=maxLen) (fun l=>l.length<=1048576):=by
 intro l left hl h0 h1;unfold maxLen at hl;rw[hF,fP (by omega) (by omega),ei];split
 ·exact⟨_,rfl,by omega,fun h=>by omega⟩
 ·exact⟨_,rfl,by omega,fun h=>by omega⟩
theorem N2 {F:List α->Int->Option (Int×Unit)} {B: (List α×Int×Int×Unit)×Unit×Unit->Option (((List α×Int×Int×Unit)×Unit×Unit)⊕(((Int×Int×Unit)×Unit×Unit)⊕((Int×Unit×Unit)×Unit×Unit)))} (f:α->Int->Option (Int×Unit)) {bd sm:α->Prop} (hf:Dx f bd sm)
  (hF: ∀l left,F l left=br (decide (IntKind.wrap .i64 (left-(l.length:Int))<0)) (some (-1,())) ((gQ B ((l,IntKind.wrap .i64 (left-(l.length:Int)),0,()),(),())).bind fun e=>Sum.elim (fun e=>some (e.1.2.1,())) (fun e=>some (e.1.1,())) e))
  (hB: ∀ (l:List α) (v k:Int),B ((l,v,k,()),(),())=br (decide (k< (l.length:Int))) (eh (0<=k) ((l[k.toNat]?).bind fun x=>(f x v).bind fun y=>br (decide (y.1<0)) (some (.inr (.inl ((y.1,-1,()),(),())))) (some (.inl ((l,y.1,IntKind.wrap .i64 (k+1),()),(),())))) none) (some (.inr (.inr ((v,(),()),(),()))))):
  Dx F (fun l=>l.length<=maxLen/\ ∀x∈l,bd x) (fun l=>l.length<=1048576/\ ∀x∈l,sm x):=by
 intro l left hl h0 h1;obtain⟨hl,hbd⟩:=hl;have hl':=hl;unfold maxLen at hl';rw[hF,fP (by omega) (by omega),ei];split
 ·exact⟨_,rfl,by omega,fun h=>by omega⟩
 ·rename_i hge
  have gE:=sV (B:=B) (fun s=> ∃ (k:Nat) (v:Int),s=((l,v,(k:Int),()),(),())/\k<=l.length/\0<=v/\v<=left-(l.length:Int)/\ ∀ (j:Nat) x,j<k->l[j]? =some x->sm x) (fun s=>l.length-s.1.2.2.1.toNat)
   (fun e=>(∃y,e= .inl ((y,-1,()),(),()))\/ ∃v,e= .inr ((v,(),()),(),())/\v<=left-(l.length:Int)/\ ∀x∈l,sm x)
   (fun s hs=>by
     obtain⟨k,v,rfl,hk,hv0,hv1,hsm⟩:=hs;rw[hB,ei];by_cases hlt:k<l.length
     ·rw[if_pos (by omega),fB (by omega),ap,ah hlt,ae];obtain⟨n,g1,g2,g3⟩:=hf l[k] v (hbd _ (aV _)) hv0 (by omega);rw[g1,ae,ei];split
      ·exact .inr ⟨_,rfl, .inl ⟨_,rfl⟩⟩
      ·refine .inl ⟨_,rfl,⟨k+1,n,by rw[ey hl hlt],by omega,by omega,by omega,fun j x hj hx=> ?_⟩,?_⟩
       ·rcases Nat.lt_succ_iff_lt_or_eq.1 hj with h|rfl
        ·exact hsm j x h hx
        ·rw[ah hlt] at hx;cases hx;exact g3 (by omega)
       ·simp only[ey hl hlt,ap];omega
     ·rw[if_neg (by omega)];refine .inr ⟨_,rfl, .inr ⟨v,rfl,hv1,fun x hx=> ?_⟩⟩;obtain⟨j,hj,he⟩:=aJ hx;exact hsm j x (by omega) (by rw[ah hj,he]))
   (s:=((l,left-(l.length:Int),0,()),(),())) ⟨0,_,rfl,aI _,by omega,by omega,fun j x hj=>by omega⟩
  obtain⟨e,h2,h3⟩:=gE;rw[h2];rcases h3 with ⟨y,rfl⟩| ⟨v,rfl,hv,hsm⟩
  ·exact⟨-1,rfl,by omega,fun h=>by omega⟩
  ·exact⟨v,rfl,by omega,fun h=>⟨by omega,hsm⟩⟩
end
end
section
open Go
structure N3 (P:Program) where
 n:Nat
 e:NB
 ok:Bm P n e
structure OX (P:Program) where
 c:Code
 e:NX
 ok:QU P c e
structure LX where
 L:zp
 x:List (X×zp)
 g:List My
 k:List Nat
 kx:List Nat
abbrev LX.S (m:LX):Type:=m.L.D
abbrev LX.R (m:LX):Type:=Option (m.L.D⊕Bn.D m.x)
theorem tm: (∀ (α β:Type) (b:Bool) (x y:Option α) (f:α->Option β),(br b x y).bind f=br b (x.bind f) (y.bind f))/\(∀ (α β:Type) (c:Prop) (_:Decidable c) (x y:Option α) (f:α->Option β),(eh c x y).bind f=eh c (x.bind f) (y.bind f))/\(∀ (α β:Type) (f:α->Option β),(none:Option α).bind f=none)/\(∀ (α β:Type) (a:α) (f:α->Option β),(some a).bind f=f a)/\(∀ (α β γ:Type) (x:Option α) (f:α->Option β) (g:β->Option γ),(x.bind f).bind g=x.bind fun a=>(f a).bind g)/\(∀ (α β γ δ:Type) (x:α⊕β) (f:α->Option γ) (g:β->Option γ) (h:γ->Option δ),(Sum.elim f g x).bind h=Sum.elim (fun a=>(f a).bind h) (fun a=>(g a).bind h) x)/\(∀ (α β γ:Type) (f:α->γ) (g:β->γ) (a:α),Sum.elim f g (.inl a)=f a)/\ ∀ (α β γ:Type) (f:α->γ) (g:β->γ) (b:β),Sum.elim f g (.inr b)=g b:=
 ⟨fun _ _ b _ _ _=>by cases b<;>rfl,fun _ _ c _ _ _ _=>by unfold eh; split<;>rfl,fun _ _ _=>rfl,fun _ _ _ _=>rfl,fun _ _ _ x _ _=>by cases x<;>rfl,fun _ _ _ _ x _ _ _=>by cases x<;>rfl,fun _ _ _ _ _ _=>rfl,fun _ _ _ _ _ _=>rfl⟩
def Q6:Code->List Nat->Code
 |c,[] =>c
 |c,i::l=>Q6 (Uy c i) l
section
variable {P:Program} {Θ:qG}
def MC:List (N3 P)->List (Nat×NB)
 | [] => []
 |k::l=>(k.n,k.e)::MC l
theorem Bp: ∀l:List (N3 P),ou P (Iy (MC l))
 | [] =>SY P
 |k::l=>QS k.ok (Bp l)
def Gr:List (OX P)->List (Nat×NX)
 | [] => []
 |q::l=>(gE q.c,q.e)::Gr l
def qH:List (OX P)->List Code
 | [] => []
 |q::l=>q.c::qH l
def Gs:List Code->Bool
 | [] =>true
 |c::l=>l.all (fun d=> !Nat.beq (gE c) (gE d))&&Gs l
theorem N4: ∀l:List (OX P),Gs (qH l)=true->ld P (Gp (Gr l)) (qH l)
 | [],_=>fun c hc=>by cases hc
 |q::l,h=>by
  simp only[qH,Gs,aq,ax] at h;intro c hc S ρ κ r hS hr;have hr: (bif Nat.beq (gE q.c) (gE c) then q.e S ρ κ else Gp (Gr l) (gE c) S ρ κ)=some r:=hr;rcases aW.1 hc with rfl|hc
  ·rw[cI] at hr;exact q.ok S ρ κ r hS hr
  ·have hb:Nat.beq (gE q.c) (gE c)=false:=by simpa using h.1 c hc
   rw[hb] at hr;exact N4 l h.2 c hc S ρ κ r hS hr
theorem KX {Λ:List (OX P)} {cs:List Code} (h:cs=qH Λ) (hn:Gs (qH Λ)=true):ld P (Gp (Gr Λ)) cs:=by rw[h]; exact N4 Λ hn
theorem AG {α β:Type} {a a':α} {b b':β} (h: (a,b)=(a',b')):a=a'/\b=b':=by cases h; exact⟨rfl,rfl⟩
theorem MD {a b:Bool} (h: (a&&b)=true):a=true/\b=true:=by simpa using h
variable (hΘ:iq P Θ) (hm:P.follows .mixedOrders=true)
noncomputable def WK (fn:Func) (p:List Nat) (m:LX) (B:m.S->m.R) (Y:List (N3 P)) (Λ:List (OX P)) (h: (gY (Q6 (sr fn) p),((mA P (Q6 (sr fn) p))&&(m.L.fit&&m.x.all Vm))&&Gs (qH Λ))=(qH Λ,true))
  (hB: ∀s,(B s).bind (Sum.elim (fun s'=>some (X.nor,m.L.mk' s')) fun e=>some (Bn.e m.x e))=Bd Θ (Iy (MC Y)) (Gp (Gr Λ)) (Q6 (sr fn) p) (m.L.mk' s) (KS m.k m.kx fun x S=>some (x,S))):OX P:=
 ⟨Q6 (sr fn) p,QT m.g m.k m.L m.x (gQ B),QV hΘ (Bp Y) hm (MD (MD (AG h).2).1).1 (KX (AG h).1 (MD (AG h).2).2) m.g m.k m.kx m.L m.x (MD (MD (AG h).2).1).2 B (fun s=>(hB s).symm) (gQ B) (Uv B) (OV B)⟩
theorem TY {f:FuncId} {fn:Func} {Λ:List (OX P)} (h: (Kd P f,gY (sr fn),Nat.blt f 1048576&&Gs (qH Λ))=(some fn,qH Λ,true)):Kd P f=some fn/\(∀c,fn.body=some c->ld P (Gp (Gr Λ)) (gY c))/\Nat.blt f 1048576=true:=
 have h2:=AG (AG h).2
 ⟨(AG h).1,Vr h2.1 (KX rfl (MD h2.2).2),(MD h2.2).1⟩
noncomputable def WG (f:FuncId) (fn:Func) (ps:List D8) (rs:List Ty) (F:sU.D ps->Option (vj.D rs)) (Y:List (N3 P)) (Λ:List (OX P)) (h: (Kd P f,gY (sr fn),Nat.blt f 1048576&&Gs (qH Λ))=(some fn,qH Λ,true))
  (hF: ∀x,(F x).bind (fun y=>ret (uR rs y) fun v g=>some (v,g))=Vg Θ (Iy (MC Y)) (Gp (Gr Λ)) fn (nL ps x) fun v g=>some (v,g)):N3 P:=
 ⟨f,QW ps rs F,S8 hΘ (Bp Y) hm (TY h).1 (TY h).2.1 (TY h).2.2 F (fun x=>(hF x).symm) fun _ _ h=>h⟩
noncomputable def Wp (f:FuncId) (fn:Func) (el:Ty) (ps:List D8) (rs:List Ty) (F:List el.D->sU.D ps->Option (vj.D rs)) (Y:List (N3 P)) (Λ:List (OX P)) (h: (Kd P f,gY (sr fn),Nat.blt f 1048576&&Gs (qH Λ))=(some fn,qH Λ,true))
  (hF: ∀l x,(F l x).bind (fun y=>ret (uR rs y) fun v g=>some (v,g))=OH Θ (Iy (MC Y)) (Gp (Gr Λ)) fn 0 el l (nL ps x) fun v g=>some (v,g)):N3 P:=
 ⟨Ir f,QZ el ps rs F,S9 hΘ (Bp Y) hm (TY h).1 (TY h).2.1 F (fun l x=>(hF l x).symm) fun _ _ _ h=>h⟩
noncomputable def Wq (f:FuncId) (fn:Func) (el:Ty) (ps:List D8) (rs:List Ty) (F:List el.D->sU.D ps->Option (List el.D×vj.D rs)) (Y:List (N3 P)) (Λ:List (OX P)) (h: (Kd P f,gY (sr fn),Nat.blt f 1048576&&Gs (qH Λ))=(some fn,qH Λ,true))
  (hF: ∀l x,(F l x).bind (fun y=>Uw el rs y fun v g=>some (v,g))=OH Θ (Iy (MC Y)) (Gp (Gr Λ)) fn 1 el l (nL ps x) fun v g=>some (v,g)):N3 P:=
 ⟨EO f,Ux el ps rs F,Tb hΘ (Bp Y) hm (TY h).1 (TY h).2.1 (TY h).2.2 F (fun l x=>(hF l x).symm) fun _ _ _ h=>h⟩
abbrev Wr (t:Ty) (y:List t.D×Unit):Option (V×List fr):=ret (uR [.ls t] y) fun v g=>some (v,g)
abbrev WH (t:Ty) (n:Nat) (l:List t.D):Option (V×List fr):=eh ((([]:List t.D)++l).length*n<=2 ^ 40) (Wr t (([]:List t.D)++l,())) none
noncomputable def Ws (f:FuncId) (fn:Func) (t:Ty) (n:Nat) (F:List t.D->Option (List t.D×Unit)) (h: (Kd P f,gY (sr fn),Nat.blt f 1048576&&Gs (qH ([]:List (OX P))))=(some fn,qH ([]:List (OX P)),true))
  (h1: ∀l,F l=eh (l.length*n<=2 ^ 40) (some (l,())) none)
  (h2: ∀x:sU.D [.ty (.ls t)],Vg Θ (Iy (MC ([]:List (N3 P)))) (Gp (Gr ([]:List (OX P)))) fn (nL [.ty (.ls t)] x) (fun v g=>some (v,g))=Uk x.1 (Sg (Wr t ([],())) (WH t n x.1) none) (WH t n x.1)):N3 P:=
 WG hΘ hm f fn [.ty (.ls t)] [.ls t] (fun x=>F x.1) [] [] h fun x=>by rw[h2,h1];exact (Te x.1 n (Wr t)).symm
def Vs (j g:Nat) (k1 k2:N3 P) (h:k2.n=k1.n):N3 P:=⟨k1.n,Q0 (Vq j g) k1.e k2.e,Q1 k1.ok (h ▸ k2.ok)⟩
end
end
section
open Go Go.RowKit
theorem HI {P:Program} {ops:Array Oper} {o:Oper} {a:Act} {w:World} {K:Act->World->Prop} {Q:Exit->Act->World->Prop} {E:Prop}
  (hg:o.guard=none) (d x:Operand) (dT sT:TypeId) (hop:o.op=Op.call { callee:=Callee.builtin Builtin.copy,args:= #[d,x],argTypes:= #[dT,sT] })
  (v u:Value) (hd:a.eval d=v) (hx:a.eval x=u) {v':Value} {w':World} (hr: (Builtin.copy_ #[dT,sT] o.type #[v,u]).run P w= .ok v' w') (hK:K (a.put o.dst v') w'):
  if Region.wanted o (yielded ops a.tmps)=true then Oper.wp P o a w K Q else E:=by
 have hw:Region.wanted o (yielded ops a.tmps)=true:=by simp[Region.wanted,hg]
 rw[if_pos hw];unfold Oper.wp;simp[execOp,hop,resolve,invoke,builtin,hd,hx,hr,Result.andThen];exact hK
theorem N5 {P:Program} {ops:Array Oper} {rest:List Oper} {o:Oper} {a:Act} (w:World) {Q:Exit->Act->World->Prop} (hgd:o.guard=none) (d s:Operand) (t t':TypeId)
  (ho:o.op= .call { callee:= .builtin .copy,args:= #[d,s],argTypes:= #[t,t'] }) (v u:Value) (hd:a.eval d=v) (hs:a.eval s=u) {v':Value} {w':World}
  (hr: (Builtin.copy_ #[t,t'] o.type #[v,u]).run P w= .ok v' w') (h:wpList P ops Q rest (a.put o.dst v') w'):wpList P ops Q (o::rest) a w:=by
 refine wpList_plain hgd fun _ hK=> ?_;unfold Oper.wp execOp;simp only[ho,resolve,invoke,builtin,Sem.run_bind,Sem.run_pure,Result.andThen_ok,List.map_toArray,aZ,ct,hd,hs,hr];exact hK _ _ h
theorem Q7 {P:Program} {f:FuncId} {fn:Func} {c:Code} (hf:P.funcs[f]? =some fn) (hn: (fn.name== "runtime.NumGoroutine")=false) (hc:fn.body=some c) (args:Array Value) (w:World): (callFunc f args).run P w= .ok (.enter f args) w:=by
 have hname': ¬fn.name= "runtime.NumGoroutine" :=by simpa using hn
 simp[callFunc,hf,hname',hc]
theorem KY (t:Ty) (h:t.flatB=true) (l:List t.D):sH t.width (l.map t.row):=by
 intro r hr;obtain⟨x,_,rfl⟩:=aM.1 hr;refine⟨t.row_length x,fun y hy=> ?_⟩;rw[t.row_flat] at hy;obtain⟨c,hc,rfl⟩:=aM.1 hy;have hg:=t.flat_good x c hc
 have hl: (t.flat x).all C.flatB=true:=by
  cases t with
  |st n=>cases n<;>first |rfl|exact absurd h (by decide)
  |ls t=>exact absurd h Bool.false_ne_true
  | _=>rfl
 have hc':=ax.1 hl c hc;cases c with
 |sc v=>exact⟨v,rfl,hg⟩
 |ls _ _=>cases hc'
def Q8 {α:Type} (by':Nat) (l:List α) (i:Int) (v:List α):Option (List α×Unit):=match v with
 | [x] =>eh (0<=i/\i<=(l.length:Int)) (eh ((l.length+1)*by'<=2 ^ 40) (some (l.take i.toNat++x::l.drop i.toNat,())) none) none
 | _=>none
theorem OY {α:Type} {by':Nat} {l:List α} {i:Int} {v:List α} {y:List α×Unit} (h:Q8 by' l i v=some y): ∃x,v= [x] /\0<=i/\i.toNat<=l.length/\((i.toNat:Nat):Int)=i/\(l.length+1)*by'<=2 ^ 40/\y=(l.take i.toNat++x::l.drop i.toNat,()):=by
 unfold Q8 at h;split at h
 ·rename_i x;obtain⟨h1,h⟩:=fR h;obtain⟨h2,h⟩:=fR h;exact⟨x,rfl,h1.1,by omega,by omega,h2,(Option.some.inj h).symm⟩
 ·cases h
def UB {P:Program} {f t e tn sz:Nat} {i0:TypeInfo} {z:Value} (hw:Im P f t e tn sz i0 z) (el:Ty) (hel:el.width=sz) (hf:el.flatB=true) (by':Nat) (hb:i0.bytes=by') (hp:0<by'):N3 P:=
 ⟨Ir f,QZ el [.ty (.i .i64), .ty (.ls el)] [.ls el] fun l x=>Q8 by' l x.1 x.2.1,by
  intro args ρ κ r hr;unfold QZ at hr;split at hr
  ·rename_i t l xs;split at hr
   ·rename_i l' hl;obtain⟨e',hl⟩:=iK hl;subst e';have hl:l=l':=hl;subst hl;obtain⟨x,hn,hr2⟩:=vL hr;obtain⟨y,h1,hr3⟩:=aj.1 hr2;obtain⟨i,v,u⟩:=x;cases u;obtain⟨x,rfl,hi0,hi1,e1,hs,rfl⟩:=OY h1;refine⟨_,_, .of_mv ⟨.ls _,l,_,rfl,oz.norm (Mz.cons (.inl rfl) hn) ?_⟩,MA _,hr3⟩;have hm:l.length+1<=(l.length+1)*by':=dI _ hp;have gE:=Io hw (rows:=l.map t.row) (row:=t.row x) (i:=(i:Int).toNat) (by rw[<-hel]; exact KY t hf l) (by rw[<-hel]; exact KY t hf [x]) (by rw[aD]; exact hi1) (by rw[aD,hb]; exact hs) (by rw[aD]; omega);rw[e1,<-hel] at gE;have e2: (l.map t.row).take (i:Int).toNat++t.row x:: (l.map t.row).drop (i:Int).toNat=(l.take (i:Int).toNat++x::l.drop (i:Int).toNat).map t.row:=by simp
    have e3: (l.map t.row).length+1=(l.take (i:Int).toNat++x::l.drop (i:Int).toNat).length:=by simp; omega
    rw[e2,e3,aD] at gE;exact gE
   ·cases hr
  ·cases hr⟩
end
section
open Go Go.RowKit
def Ty.val: (t:Ty)->t.D->Value| .i k,n=> .int k n| .b,y=> .bool y| .s,y=> .string y| _,_=>undef
def D8.val: (p:D8)->p.D->Value| .ty t,x=>t.val x| _,_=>undef
end
end Go.Proofs.YtjnleglhcppgcaaGreat.En
