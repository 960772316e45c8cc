/- Marks of rows that take more or less: written, and found again. Sizes, exactly. -/
import Derived.Test.YtkcgfceffffmoaaGreatZPV6
namespace Go.Proofs.YtkcgfceffffmoaaGreat.En
open Go
section
variable {α:Type}
def cf (w:α→Int):List α→Int
 | [] =>0
 | x::l=>w x+cf w l
def fh (G:α→Int→α) (w:α→Int):List α→Int→List α
 | [],_=> []
 | x::l,n=>G x n::fh G w l (n+w x)
theorem wm (w:α→Int) (a b:List α):cf w (a++b)=cf w a+cf w b:=by
 induction a with
 | nil=>simp [cf]
 | cons x a ih=>simp only [List.cons_append,cf,ih]; omega
theorem xU (G:α→Int→α) (w:α→Int) (a b:List α) (n:Int):fh G w (a++b) n=fh G w a n++fh G w b (n+cf w a):=by
 induction a generalizing n with
 | nil=>simp [cf,fh]
 | cons x a ih=>simp only [List.cons_append,fh,cf,ih,Int.add_assoc]
theorem fy (G:α→Int→α) (w:α→Int) (l:List α) (n:Int): (fh G w l n).length=l.length:=by
 induction l generalizing n with
 | nil=>rfl
 | cons x l ih=>simp only [fh,List.length_cons,ih]
theorem wT {w:α→Int} (hw: ∀ x,0≤w x) (l:List α):0≤cf w l:=by
 induction l with
 | nil=>exact Int.le_refl _
 | cons x l ih=>have:=hw x; simp only [cf]; omega
theorem IV {w:α→Int} (hw: ∀ x,0≤w x) {l:List α} {k:Nat} {x:α} (h:l[k]? =some x):cf w (l.take (k+1))=cf w (l.take k)+w x∧cf w (l.take k)+w x≤cf w l∧0≤cf w (l.take k):=by
 have h1:l.take (k+1)=l.take k++ [x] :=by rw [List.take_add_one,h]; rfl
 have h2:cf w (l.take (k+1))=cf w (l.take k)+w x:=by rw [h1,wm]; simp [cf]
 have h3:cf w l=cf w (l.take (k+1))+cf w (l.drop (k+1)):=by rw [←wm,List.take_append_drop]
 have h4:=wT hw (l.drop (k+1))
 have h5:=wT hw (l.take k)
 exact⟨h2,by omega,h5⟩
theorem yW (c:Int) (l:List α):cf (fun _=>c) l=c*(l.length:Int):=by
 induction l with
 | nil=>simp [cf]
 | cons x l ih=>simp only [cf,ih,List.length_cons,Int.natCast_add,Int.mul_add]; omega
theorem wn {F:List α→Int→Option (List α×Int×Unit)} {B: (Unit×Int×Int×Unit)×Unit×(List α×Unit)→Option (((Unit×Int×Int×Unit)×Unit×(List α×Unit))⊕((Int×Unit)×Unit×(List α×Unit)))} (G:α→Int→α) (w:α→Int) (ok:α→Prop)
  (hF: ∀ l n,F l n=(jr B (((),n,0,()),(),(l,()))).bind fun e=>some (e.2.2.1,e.1.1,()))
  (hs: ∀ (l:List α) (n:Int) (k:Nat) (x:α),l[k]? =some x→l.length≤1048576→0≤n→n+w x≤900000000→ok x→B (((),n,(k:Int),()),(),(l,()))=some (.inl (((),n+w x,((k+1:Nat):Int),()),(),(l.set k (G x n),()))))
  (he: ∀ (l:List α) (n:Int),B (((),n,(l.length:Int),()),(),(l,()))=some (.inr ((n,()),(),(l,()))))
  (hw: ∀ x,0≤w x) (l:List α) (n:Int) (hn:0≤n) (hn2:n+cf w l≤900000000) (hl:l.length≤1048576) (hok: ∀ x∈l,ok x):F l n=some (fh G w l n,n+cf w l,()):=by
 have ca:=mL (B:=B) l (fun k (b:List α)=>(((),n+cf w (l.take k),(k:Int),()),(),(b,()))) (fun k b=>b=fh G w (l.take k) n++l.drop k) (fun _ _ _=>((n+cf w l,()),(),(fh G w l n,())))
  (fun b hb=>by
    have hb:b=fh G w l n:=by rw [hb,List.drop_length,List.append_nil,List.take_length]
    have:=he b (n+cf w l)
    rw [hb,fy] at this
    rw [hb,List.take_length]
    exact this)
  (fun k b x hx hb=>by
    have hk:=jD hx
    have hlt: (fh G w (l.take k) n).length=k:=by rw [fy,List.length_take]; omega
    have hbl:b.length=l.length:=by rw [hb,List.length_append,hlt,List.length_drop]; omega
    obtain⟨g1,g2,g3⟩:=IV hw hx
    have hd:l.drop k=x::l.drop (k+1):=by
     rw [List.drop_eq_getElem_cons hk]
     rw [List.getElem?_eq_getElem hk] at hx
     rw [Option.some.inj hx]
    have hbx:b[k]? =some x:=by
     rw [hb,List.getElem?_append_right (by omega),hlt,Nat.sub_self,hd]
     rfl
    refine .inl ⟨b.set k (G x (n+cf w (l.take k))),?_,?_,rfl⟩
    ·rw [hs b _ k x hbx (by omega) (by omega) (by omega) (hok x (List.mem_of_getElem? hx)),g1,Int.add_assoc]
    ·have h1:l.take (k+1)=l.take k++ [x] :=by rw [List.take_add_one,hx]; rfl
     rw [hb,h1,xU,List.append_assoc,List.set_append_right _ _ (by omega),hlt,Nat.sub_self,hd]
     rfl)
  0 l (Nat.zero_le _) (by simp [fh])
 have h0:n+cf w (l.take 0)=n:=by simp [cf]
 rw [h0] at ca
 rw [hF,show jr B (((),n,0,()),(),(l,()))=_ from ca]
 rfl
theorem wo {F:List α→Int→Option (Int×Unit)} {B: (List α×Int×Int×Unit)×Unit×Unit→Option (((List α×Int×Int×Unit)×Unit×Unit)⊕(((Int×Int×Unit)×Unit×Unit)⊕((Int×Unit×Unit)×Unit×Unit)))} (G:α→Int→α) (w:α→Int) (ok:α→Prop)
  (hF: ∀ l n,F l n=(jr B ((l,n,0,()),(),())).bind fun e=>Sum.elim (fun e=>some (e.1.2.1,())) (fun e=>some (e.1.1,())) e)
  (hs: ∀ (l:List α) (n:Int) (k:Nat) (x:α),l[k]? =some (G x n)→l.length≤1048576→0≤n→n+w x≤900000000→ok x→B ((l,n,(k:Int),()),(),())=some (.inl ((l,n+w x,((k+1:Nat):Int),()),(),())))
  (he: ∀ (l:List α) (n:Int),B ((l,n,(l.length:Int),()),(),())=some (.inr (.inr ((n,(),()),(),()))))
  (hw: ∀ x,0≤w x) (l:List α) (n:Int) (hn:0≤n) (hn2:n+cf w l≤900000000) (hl:l.length≤1048576) (hok: ∀ x∈l,ok x):F (fh G w l n) n=some (n+cf w l,()):=by
 have hml:=fy G w l n
 have ca:=mL (B:=B) l (fun k (_:Unit)=>((fh G w l n,n+cf w (l.take k),(k:Int),()),(),())) (fun _ _=>True) (fun _ _ _=> .inr ((n+cf w l,(),()),(),()))
  (fun b hb=>by
    have:=he (fh G w l n) (n+cf w l)
    rw [hml] at this
    rw [List.take_length]
    exact this)
  (fun k b x hx hb=>by
    have hk:=jD hx
    obtain⟨g1,g2,g3⟩:=IV hw hx
    have hlt: (fh G w (l.take k) n).length=k:=by rw [fy,List.length_take]; omega
    have hg: (fh G w l n)[k]? =some (G x (n+cf w (l.take k))):=by
     have h1:l=l.take k++x::l.drop (k+1):=by
      have:=(List.take_append_drop k l).symm
      rw [List.drop_eq_getElem_cons hk] at this
      rw [List.getElem?_eq_getElem hk] at hx
      rw [Option.some.inj hx] at this
      exact this
     have h2:fh G w l n=fh G w (l.take k) n++(G x (n+cf w (l.take k))::fh G w (l.drop (k+1)) (n+cf w (l.take k)+w x)):=by
      conv=>lhs; rw [h1]
      rw [xU]
      rfl
     rw [h2,List.getElem?_append_right (by omega),hlt,Nat.sub_self]
     rfl
    refine .inl ⟨(),?_,trivial,rfl⟩
    rw [hs _ _ k x hg (by omega) (by omega) (by omega) (hok x (List.mem_of_getElem? hx)),g1,Int.add_assoc])
  0 () (Nat.zero_le _) trivial
 have h0:n+cf w (l.take 0)=n:=by simp [cf]
 rw [h0] at ca
 rw [hF,show jr B ((fh G w l n,n,0,()),(),())=_ from ca]
 rfl
def bw (l:List α):Int:=(l.length:Int)
def QE (F:α→Int→Option (Int×Unit)) (bd:α→Prop) (t:α→Int):Prop:= ∀ x left,bd x→0≤left→left≤1048576→ ∃ n,F x left=some (n,())∧n≤left∧(0≤n→n=left - t x)
theorem GN {F:List α→Int→Option (Int×Unit)} (hF: ∀ l left,F l left=br (decide (IntKind.wrap .i64 (left - (l.length:Int)) < 0)) (some (-1,())) (some (IntKind.wrap .i64 (left - (l.length:Int)),()))):QE F (fun l=>l.length≤maxLen) bw:=by
 intro l left hl h0 h1
 unfold maxLen at hl
 unfold bw
 rw [hF,fj (by omega) (by omega),aB]
 split
 ·exact⟨_,rfl,by omega,fun h=>by omega⟩
 ·exact⟨_,rfl,by omega,fun h=>by omega⟩
theorem M3 {F:List α→Int→Option (Int×Unit)} {B: (List α×Int×Int×Unit)×Unit×Unit→Option (((List α×Int×Int×Unit)×Unit×Unit)⊕(((Int×Int×Unit)×Unit×Unit)⊕((Int×Unit×Unit)×Unit×Unit)))} (f:α→Int→Option (Int×Unit)) {bd:α→Prop} {t:α→Int} (hf:QE f bd t)
  (hF: ∀ l left,F l left=br (decide (IntKind.wrap .i64 (left - (l.length:Int)) < 0)) (some (-1,())) ((jr B ((l,IntKind.wrap .i64 (left - (l.length:Int)),0,()),(),())).bind fun e=>Sum.elim (fun e=>some (e.1.2.1,())) (fun e=>some (e.1.1,())) e))
  (hB: ∀ (l:List α) (v k:Int),B ((l,v,k,()),(),())=br (decide (k < (l.length:Int))) (ap (0≤k) ((l[k.toNat]?).bind fun x=>(f x v).bind fun y=>br (decide (y.1 < 0)) (some (.inr (.inl ((y.1,-1,()),(),())))) (some (.inl ((l,y.1,IntKind.wrap .i64 (k+1),()),(),())))) none) (some (.inr (.inr ((v,(),()),(),()))))):
  QE F (fun l=>l.length≤maxLen∧ ∀ x∈l,bd x) (fun l=>bw l+cf t l):=by
 intro l left hl h0 h1
 obtain⟨hl,hbd⟩:=hl
 have hl':=hl
 unfold maxLen at hl'
 rw [hF,fj (by omega) (by omega),aB]
 split
 ·exact⟨_,rfl,by omega,fun h=>by omega⟩
 ·rename_i hge
  have ca:=zA (B:=B) (fun s=> ∃ (k:Nat) (v:Int),s=((l,v,(k:Int),()),(),())∧k≤l.length∧0≤v∧v≤left - (l.length:Int)∧v=left - (l.length:Int) - cf t (l.take k)) (fun s=>l.length - s.1.2.2.1.toNat)
   (fun e=>(∃ y,e= .inl ((y,-1,()),(),()))∨ ∃ v,e= .inr ((v,(),()),(),())∧v≤left - (l.length:Int)∧v=left - (l.length:Int) - cf t l)
   (fun s hs=>by
     obtain⟨k,v,rfl,hk,hv0,hv1,hsm⟩:=hs
     rw [hB,aB]
     by_cases hlt:k < l.length
     ·rw [if_pos (by omega),gm (by omega),Int.toNat_natCast,List.getElem?_eq_getElem hlt,Option.bind_some]
      obtain⟨n,g1,g2,g3⟩:=hf l[k] v (hbd _ (List.getElem_mem _)) hv0 (by omega)
      rw [g1,Option.bind_some,aB]
      split
      ·exact .inr ⟨_,rfl, .inl ⟨_,rfl⟩⟩
      ·have ht:cf t (l.take (k+1))=cf t (l.take k)+t l[k] :=by
        rw [List.take_add_one,List.getElem?_eq_getElem hlt,wm]; simp [cf]
       have:=g3 (by omega)
       refine .inl ⟨_,rfl,⟨k+1,n,by rw [bM hl hlt],by omega,by omega,by omega,by omega⟩,?_⟩
       simp only [bM hl hlt,Int.toNat_natCast]
       omega
     ·rw [if_neg (by omega)]
      refine .inr ⟨_,rfl, .inr ⟨v,rfl,hv1,?_⟩⟩
      rw [hsm,List.take_of_length_le (by omega)])
   (s:=((l,left - (l.length:Int),0,()),(),())) ⟨0,_,rfl,Nat.zero_le _,by omega,by omega,by simp [cf]⟩
  obtain⟨e,h2,h3⟩:=ca
  rw [h2]
  rcases h3 with ⟨y,rfl⟩ | ⟨v,rfl,hv,hsm⟩
  ·exact⟨-1,rfl,by omega,fun h=>by omega⟩
  ·exact⟨v,rfl,by omega,fun h=>by simp only [bw]; omega⟩
end
def Oy (c:ai):Int:=bw c.replicas+bw c.witnesses
def M4 (s:ak):Int:=Oy s.config+bw s.log+bw s.learned
def V5 (m:an):Int:=bw m.configs+cf Oy m.configs
def VO (l:List ak):Int:=bw l+cf M4 l
def Nd (c:ao):Int:=VO c.servers+bw c.sides+V5 c.master+bw c.places
theorem jx {α:Type} (l:List α):0≤bw l:=by unfold bw; omega
theorem KG:QE of (fun l=>l.length≤maxLen) bw:=GN (fun _ _=>rfl)
theorem IW:QE lr (fun l=>l.length≤maxLen) bw:=GN (fun _ _=>rfl)
theorem QB:QE ny (fun l=>l.length≤maxLen) bw:=GN (fun _ _=>rfl)
theorem Po:QE fY (j5 maxLen) Oy:=by
 intro x left hb h0 h1
 unfold fY nT Oy
 obtain⟨n,g1,g2,g3⟩:=KG x.replicas left hb.1 h0 h1
 simp only [g1,Option.bind_some,aB]
 split
 ·exact⟨-1,rfl,by omega,fun h=>by omega⟩
 ·obtain⟨m,k1,k2,k3⟩:=KG x.witnesses n hb.2 (by omega) (by omega)
  simp only [k1,Option.bind_some]
  have:=g3 (by omega)
  split
  ·exact⟨-1,rfl,by omega,fun h=>by omega⟩
  ·exact⟨m,rfl,by omega,fun h=>by have:=k3 h; omega⟩
theorem TU:QE hM (o2 maxLen) M4:=by
 intro x left hb h0 h1
 unfold hM nU M4
 obtain⟨n,g1,g2,g3⟩:=Po x.config left hb.1 h0 h1
 simp only [g1,Option.bind_some,aB]
 split
 ·exact⟨-1,rfl,by omega,fun h=>by omega⟩
 ·obtain⟨m,k1,k2,k3⟩:=IW x.log n hb.2.1 (by omega) (by omega)
  simp only [k1,Option.bind_some]
  have:=g3 (by omega)
  split
  ·exact⟨-1,rfl,by omega,fun h=>by omega⟩
  ·obtain⟨q,j1,j2,j3⟩:=IW x.learned m hb.2.2 (by omega) (by omega)
   simp only [j1,Option.bind_some]
   have:=k3 (by omega)
   split
   ·exact⟨-1,rfl,by omega,fun h=>by omega⟩
   ·exact⟨q,rfl,by omega,fun h=>by have:=j3 h; omega⟩
theorem Sv:QE lu (fun l=>l.length≤maxLen∧ ∀ s∈l,o2 maxLen s) VO:=
 M3 (B:=fE) hM TU (fun _ _=>rfl) (fun _ _ _=>rfl)
theorem Sw:QE lw (fun l=>l.length≤maxLen∧ ∀ s∈l,j5 maxLen s) (fun l=>bw l+cf Oy l):=
 M3 (B:=fF) fY Po (fun _ _=>rfl) (fun _ _ _=>rfl)
theorem U4:QE fG (GI maxLen) V5:=by
 intro x left hb h0 h1
 unfold fG jE
 obtain⟨n,g1,g2,g3⟩:=Sw x.configs left hb h0 h1
 simp only [g1,Option.bind_some,aB]
 split
 ·exact⟨-1,rfl,by omega,fun h=>by omega⟩
 ·exact⟨n,rfl,by omega,g3⟩
theorem U5:QE gr (sL maxLen) Nd:=by
 intro x left hb h0 h1
 unfold gr mg Nd
 obtain⟨n,g1,g2,g3⟩:=Sv x.servers left hb.1 h0 h1
 simp only [g1,Option.bind_some,aB]
 split
 ·exact⟨-1,rfl,by omega,fun h=>by omega⟩
 ·obtain⟨m,k1,k2,k3⟩:=KG x.sides n hb.2.1 (by omega) (by omega)
  simp only [k1,Option.bind_some]
  have:=g3 (by omega)
  split
  ·exact⟨-1,rfl,by omega,fun h=>by omega⟩
  ·obtain⟨q,j1,j2,j3⟩:=U4 x.master m hb.2.2.1 (by omega) (by omega)
   simp only [j1,Option.bind_some]
   have:=k3 (by omega)
   split
   ·exact⟨-1,rfl,by omega,fun h=>by omega⟩
   ·obtain⟨p,i1,i2,i3⟩:=QB x.places q hb.2.2.2 (by omega) (by omega)
    simp only [i1,Option.bind_some]
    have:=j3 (by omega)
    split
    ·exact⟨-1,rfl,by omega,fun h=>by omega⟩
    ·exact⟨p,rfl,by omega,fun h=>by have:=i3 h; omega⟩
theorem VP (x:ao) (h:sL maxLen x): ∃ n,gr x 1048576=some (n,())∧(0≤n→sL 1048576 x∧Nd x≤1048576∧n=1048576 - Nd x):=by
 obtain⟨n,g1,g2,g3⟩:=Qv x 1048576 h (by decide) (Int.le_refl _)
 obtain⟨m,k1,k2,k3⟩:=U5 x 1048576 h (by decide) (Int.le_refl _)
 rw [g1] at k1
 simp only [Option.some.injEq,Prod.mk.injEq,and_true] at k1
 subst k1
 exact⟨n,g1,fun h=>⟨g3 h,by have:=k3 h; omega,k3 h⟩⟩
end Go.Proofs.YtkcgfceffffmoaaGreat.En
