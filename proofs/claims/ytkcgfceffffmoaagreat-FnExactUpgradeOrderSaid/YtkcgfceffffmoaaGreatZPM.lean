/- Marks of rows that take more or less: written, and found again. Sizes, exactly. -/
import Derived.Test.YtkcgfceffffmoaaGreatZPV6
namespace Go.Proofs.YtkcgfceffffmoaaGreat.En
open Go
section
variable {α:Type}
def dx (w:α→Int):List α→Int
 | [] =>0
 | x::l=>w x+dx w l
def fG (G:α→Int→α) (w:α→Int):List α→Int→List α
 | [],_=> []
 | x::l,n=>G x n::fG G w l (n+w x)
theorem wJ (w:α→Int) (a b:List α):dx w (a++b)=dx w a+dx w b:=by
 induction a with
 | nil=>simp [dx]
 | cons x a ih=>simp only [List.cons_append,dx,ih]; omega
theorem yj (G:α→Int→α) (w:α→Int) (a b:List α) (n:Int):fG G w (a++b) n=fG G w a n++fG G w b (n+dx w a):=by
 induction a generalizing n with
 | nil=>simp [dx,fG]
 | cons x a ih=>simp only [List.cons_append,fG,dx,ih,Int.add_assoc]
theorem fZ (G:α→Int→α) (w:α→Int) (l:List α) (n:Int): (fG G w l n).length=l.length:=by
 induction l generalizing n with
 | nil=>rfl
 | cons x l ih=>simp only [fG,List.length_cons,ih]
theorem xe {w:α→Int} (hw: ∀ x,0≤w x) (l:List α):0≤dx w l:=by
 induction l with
 | nil=>exact Int.le_refl _
 | cons x l ih=>have:=hw x; simp only [dx]; omega
theorem Iu {w:α→Int} (hw: ∀ x,0≤w x) {l:List α} {k:Nat} {x:α} (h:l[k]? =some x):dx w (l.take (k+1))=dx w (l.take k)+w x∧dx w (l.take k)+w x≤dx w l∧0≤dx w (l.take k):=by
 have h1:l.take (k+1)=l.take k++ [x] :=by rw [List.take_add_one,h]; rfl
 have h2:dx w (l.take (k+1))=dx w (l.take k)+w x:=by rw [h1,wJ]; simp [dx]
 have h3:dx w l=dx w (l.take (k+1))+dx w (l.drop (k+1)):=by rw [←wJ,List.take_append_drop]
 have h4:=xe hw (l.drop (k+1))
 have h5:=xe hw (l.take k)
 exact⟨h2,by omega,h5⟩
theorem zx (c:Int) (l:List α):dx (fun _=>c) l=c*(l.length:Int):=by
 induction l with
 | nil=>simp [dx]
 | cons x l ih=>simp only [dx,ih,List.length_cons,Int.natCast_add,Int.mul_add]; omega
theorem wK {F:List α→Int→Option (List α×Int×Unit)} {B: (Unit×Int×Int×Unit)×Unit×(List α×Unit)→Option (((Unit×Int×Int×Unit)×Unit×(List α×Unit))⊕((Int×Unit)×Unit×(List α×Unit)))} (G:α→Int→α) (w:α→Int) (ok:α→Prop)
  (hF: ∀ l n,F l n=(jm B (((),n,0,()),(),(l,()))).bind fun e=>some (e.2.2.1,e.1.1,()))
  (hs: ∀ (l:List α) (n:Int) (k:Nat) (x:α),l[k]? =some x→l.length≤1048576→0≤n→n+w x≤900000000→ok x→B (((),n,(k:Int),()),(),(l,()))=some (.inl (((),n+w x,((k+1:Nat):Int),()),(),(l.set k (G x n),()))))
  (he: ∀ (l:List α) (n:Int),B (((),n,(l.length:Int),()),(),(l,()))=some (.inr ((n,()),(),(l,()))))
  (hw: ∀ x,0≤w x) (l:List α) (n:Int) (hn:0≤n) (hn2:n+dx w l≤900000000) (hl:l.length≤1048576) (hok: ∀ x∈l,ok x):F l n=some (fG G w l n,n+dx w l,()):=by
 have b7:=nC (B:=B) l (fun k (b:List α)=>(((),n+dx w (l.take k),(k:Int),()),(),(b,()))) (fun k b=>b=fG G w (l.take k) n++l.drop k) (fun _ _ _=>((n+dx w l,()),(),(fG G w l n,())))
  (fun b hb=>by
    have hb:b=fG G w l n:=by rw [hb,List.drop_length,List.append_nil,List.take_length]
    have:=he b (n+dx w l)
    rw [hb,fZ] at this
    rw [hb,List.take_length]
    exact this)
  (fun k b x hx hb=>by
    have hk:=nv hx
    have hlt: (fG G w (l.take k) n).length=k:=by rw [fZ,List.length_take]; omega
    have hbl:b.length=l.length:=by rw [hb,List.length_append,hlt,List.length_drop]; omega
    obtain⟨g1,g2,g3⟩:=Iu hw hx
    have hd:l.drop k=x::l.drop (k+1):=by
     rw [List.drop_eq_getElem_cons hk]
     rw [List.getElem?_eq_getElem hk] at hx
     rw [Option.some.inj hx]
    have hbx:b[k]? =some x:=by
     rw [hb,List.getElem?_append_right (by omega),hlt,Nat.sub_self,hd]
     rfl
    refine .inl ⟨b.set k (G x (n+dx w (l.take k))),?_,?_,rfl⟩
    ·rw [hs b _ k x hbx (by omega) (by omega) (by omega) (hok x (List.mem_of_getElem? hx)),g1,Int.add_assoc]
    ·have h1:l.take (k+1)=l.take k++ [x] :=by rw [List.take_add_one,hx]; rfl
     rw [hb,h1,yj,List.append_assoc,List.set_append_right _ _ (by omega),hlt,Nat.sub_self,hd]
     rfl)
  0 l (Nat.zero_le _) (by simp [fG])
 have h0:n+dx w (l.take 0)=n:=by simp [dx]
 rw [h0] at b7
 rw [hF,show jm B (((),n,0,()),(),(l,()))=_ from b7]
 rfl
theorem RD {F:List α→Int→Option (Int×Unit)} {B: (List α×Int×Int×Unit)×Unit×Unit→Option (((List α×Int×Int×Unit)×Unit×Unit)⊕(((Int×Int×Unit)×Unit×Unit)⊕((Int×Unit×Unit)×Unit×Unit)))} (G:α→Int→α) (w:α→Int) (ok:α→Prop)
  (hF: ∀ l n,F l n=(jm B ((l,n,0,()),(),())).bind fun e=>Sum.elim (fun e=>some (e.1.2.1,())) (fun e=>some (e.1.1,())) e)
  (hs: ∀ (l:List α) (n:Int) (k:Nat) (x:α),l[k]? =some (G x n)→l.length≤1048576→0≤n→n+w x≤900000000→ok x→B ((l,n,(k:Int),()),(),())=some (.inl ((l,n+w x,((k+1:Nat):Int),()),(),())))
  (he: ∀ (l:List α) (n:Int),B ((l,n,(l.length:Int),()),(),())=some (.inr (.inr ((n,(),()),(),()))))
  (hw: ∀ x,0≤w x) (l:List α) (n:Int) (hn:0≤n) (hn2:n+dx w l≤900000000) (hl:l.length≤1048576) (hok: ∀ x∈l,ok x):F (fG G w l n) n=some (n+dx w l,()):=by
 have hml:=fZ G w l n
 have b7:=nC (B:=B) l (fun k (_:Unit)=>((fG G w l n,n+dx w (l.take k),(k:Int),()),(),())) (fun _ _=>True) (fun _ _ _=> .inr ((n+dx w l,(),()),(),()))
  (fun b hb=>by
    have:=he (fG G w l n) (n+dx w l)
    rw [hml] at this
    rw [List.take_length]
    exact this)
  (fun k b x hx hb=>by
    have hk:=nv hx
    obtain⟨g1,g2,g3⟩:=Iu hw hx
    have hlt: (fG G w (l.take k) n).length=k:=by rw [fZ,List.length_take]; omega
    have hg: (fG G w l n)[k]? =some (G x (n+dx w (l.take k))):=by
     have h1:l=l.take k++x::l.drop (k+1):=by
      have:=(List.take_append_drop k l).symm
      rw [List.drop_eq_getElem_cons hk] at this
      rw [List.getElem?_eq_getElem hk] at hx
      rw [Option.some.inj hx] at this
      exact this
     have h2:fG G w l n=fG G w (l.take k) n++(G x (n+dx w (l.take k))::fG G w (l.drop (k+1)) (n+dx w (l.take k)+w x)):=by
      conv=>lhs; rw [h1]
      rw [yj]
      rfl
     rw [h2,List.getElem?_append_right (by omega),hlt,Nat.sub_self]
     rfl
    refine .inl ⟨(),?_,trivial,rfl⟩
    rw [hs _ _ k x hg (by omega) (by omega) (by omega) (hok x (List.mem_of_getElem? hx)),g1,Int.add_assoc])
  0 () (Nat.zero_le _) trivial
 have h0:n+dx w (l.take 0)=n:=by simp [dx]
 rw [h0] at b7
 rw [hF,show jm B ((fG G w l n,n,0,()),(),())=_ from b7]
 rfl
def db (l:List α):Int:=(l.length:Int)
def PT (F:α→Int→Option (Int×Unit)) (bd:α→Prop) (t:α→Int):Prop:= ∀ x left,bd x→0≤left→left≤1048576→ ∃ n,F x left=some (n,())∧n≤left∧(0≤n→n=left - t x)
theorem GD {F:List α→Int→Option (Int×Unit)} (hF: ∀ l left,F l left=br (decide (IntKind.wrap .i64 (left - (l.length:Int)) < 0)) (some (-1,())) (some (IntKind.wrap .i64 (left - (l.length:Int)),()))):PT F (fun l=>l.length≤maxLen) db:=by
 intro l left hl h0 h1
 unfold maxLen at hl
 unfold db
 rw [hF,gb (by omega) (by omega),aA]
 split
 ·exact⟨_,rfl,by omega,fun h=>by omega⟩
 ·exact⟨_,rfl,by omega,fun h=>by omega⟩
theorem Mw {F:List α→Int→Option (Int×Unit)} {B: (List α×Int×Int×Unit)×Unit×Unit→Option (((List α×Int×Int×Unit)×Unit×Unit)⊕(((Int×Int×Unit)×Unit×Unit)⊕((Int×Unit×Unit)×Unit×Unit)))} (f:α→Int→Option (Int×Unit)) {bd:α→Prop} {t:α→Int} (hf:PT f bd t)
  (hF: ∀ l left,F l left=br (decide (IntKind.wrap .i64 (left - (l.length:Int)) < 0)) (some (-1,())) ((jm B ((l,IntKind.wrap .i64 (left - (l.length:Int)),0,()),(),())).bind fun e=>Sum.elim (fun e=>some (e.1.2.1,())) (fun e=>some (e.1.1,())) e))
  (hB: ∀ (l:List α) (v k:Int),B ((l,v,k,()),(),())=br (decide (k < (l.length:Int))) (an (0≤k) ((l[k.toNat]?).bind fun x=>(f x v).bind fun y=>br (decide (y.1 < 0)) (some (.inr (.inl ((y.1,-1,()),(),())))) (some (.inl ((l,y.1,IntKind.wrap .i64 (k+1),()),(),())))) none) (some (.inr (.inr ((v,(),()),(),()))))):
  PT F (fun l=>l.length≤maxLen∧ ∀ x∈l,bd x) (fun l=>db l+dx t l):=by
 intro l left hl h0 h1
 obtain⟨hl,hbd⟩:=hl
 have hl':=hl
 unfold maxLen at hl'
 rw [hF,gb (by omega) (by omega),aA]
 split
 ·exact⟨_,rfl,by omega,fun h=>by omega⟩
 ·rename_i hge
  have b7:=w6 (B:=B) (fun s=> ∃ (k:Nat) (v:Int),s=((l,v,(k:Int),()),(),())∧k≤l.length∧0≤v∧v≤left - (l.length:Int)∧v=left - (l.length:Int) - dx t (l.take k)) (fun s=>l.length - s.1.2.2.1.toNat)
   (fun e=>(∃ y,e= .inl ((y,-1,()),(),()))∨ ∃ v,e= .inr ((v,(),()),(),())∧v≤left - (l.length:Int)∧v=left - (l.length:Int) - dx t l)
   (fun s hs=>by
     obtain⟨k,v,rfl,hk,hv0,hv1,hsm⟩:=hs
     rw [hB,aA]
     by_cases hlt:k < l.length
     ·rw [if_pos (by omega),eU (by omega),Int.toNat_natCast,List.getElem?_eq_getElem hlt,Option.bind_some]
      obtain⟨n,g1,g2,g3⟩:=hf l[k] v (hbd _ (List.getElem_mem _)) hv0 (by omega)
      rw [g1,Option.bind_some,aA]
      split
      ·exact .inr ⟨_,rfl, .inl ⟨_,rfl⟩⟩
      ·have ht:dx t (l.take (k+1))=dx t (l.take k)+t l[k] :=by
        rw [List.take_add_one,List.getElem?_eq_getElem hlt,wJ]; simp [dx]
       have:=g3 (by omega)
       refine .inl ⟨_,rfl,⟨k+1,n,by rw [bD hl hlt],by omega,by omega,by omega,by omega⟩,?_⟩
       simp only [bD hl hlt,Int.toNat_natCast]
       omega
     ·rw [if_neg (by omega)]
      refine .inr ⟨_,rfl, .inr ⟨v,rfl,hv1,?_⟩⟩
      rw [hsm,List.take_of_length_le (by omega)])
   (s:=((l,left - (l.length:Int),0,()),(),())) ⟨0,_,rfl,Nat.zero_le _,by omega,by omega,by simp [dx]⟩
  obtain⟨e,h2,h3⟩:=b7
  rw [h2]
  rcases h3 with ⟨y,rfl⟩ | ⟨v,rfl,hv,hsm⟩
  ·exact⟨-1,rfl,by omega,fun h=>by omega⟩
  ·exact⟨v,rfl,by omega,fun h=>by simp only [db]; omega⟩
end
def NU (c:ai):Int:=db c.replicas+db c.witnesses
def S8 (s:aB):Int:=NU s.config+db s.log+db s.learned
def Vr (m:ay):Int:=db m.configs+dx NU m.configs
def Vs (l:List aB):Int:=db l+dx S8 l
def Ur (c:aG):Int:=Vs c.servers+db c.sides+Vr c.master+db c.places
theorem qd {α:Type} (l:List α):0≤db l:=by unfold db; omega
theorem Kd:PT o0 (fun l=>l.length≤maxLen) db:=GD (fun _ _=>rfl)
theorem Iv:PT l6 (fun l=>l.length≤maxLen) db:=GD (fun _ _=>rfl)
theorem PQ:PT oh (fun l=>l.length≤maxLen) db:=GD (fun _ _=>rfl)
theorem OI:PT gJ (jG maxLen) NU:=by
 intro x left hb h0 h1
 unfold gJ oH NU
 obtain⟨n,g1,g2,g3⟩:=Kd x.replicas left hb.1 h0 h1
 simp only [g1,Option.bind_some,aA]
 split
 ·exact⟨-1,rfl,by omega,fun h=>by omega⟩
 ·obtain⟨m,k1,k2,k3⟩:=Kd x.witnesses n hb.2 (by omega) (by omega)
  simp only [k1,Option.bind_some]
  have:=g3 (by omega)
  split
  ·exact⟨-1,rfl,by omega,fun h=>by omega⟩
  ·exact⟨m,rfl,by omega,fun h=>by have:=k3 h; omega⟩
theorem S9:PT iL (rU maxLen) S8:=by
 intro x left hb h0 h1
 unfold iL oI S8
 obtain⟨n,g1,g2,g3⟩:=OI x.config left hb.1 h0 h1
 simp only [g1,Option.bind_some,aA]
 split
 ·exact⟨-1,rfl,by omega,fun h=>by omega⟩
 ·obtain⟨m,k1,k2,k3⟩:=Iv x.log n hb.2.1 (by omega) (by omega)
  simp only [k1,Option.bind_some]
  have:=g3 (by omega)
  split
  ·exact⟨-1,rfl,by omega,fun h=>by omega⟩
  ·obtain⟨q,j1,j2,j3⟩:=Iv x.learned m hb.2.2 (by omega) (by omega)
   simp only [j1,Option.bind_some]
   have:=k3 (by omega)
   split
   ·exact⟨-1,rfl,by omega,fun h=>by omega⟩
   ·exact⟨q,rfl,by omega,fun h=>by have:=j3 h; omega⟩
theorem RE:PT l7 (fun l=>l.length≤maxLen∧ ∀ s∈l,rU maxLen s) Vs:=
 Mw (B:=gf) iL S9 (fun _ _=>rfl) (fun _ _ _=>rfl)
theorem RF:PT l8 (fun l=>l.length≤maxLen∧ ∀ s∈l,jG maxLen s) (fun l=>db l+dx NU l):=
 Mw (B:=gg) gJ OI (fun _ _=>rfl) (fun _ _ _=>rfl)
theorem Us:PT gi (Ee maxLen) Vr:=by
 intro x left hb h0 h1
 unfold gi j8
 obtain⟨n,g1,g2,g3⟩:=RF x.configs left hb h0 h1
 simp only [g1,Option.bind_some,aA]
 split
 ·exact⟨-1,rfl,by omega,fun h=>by omega⟩
 ·exact⟨n,rfl,by omega,g3⟩
theorem Ut:PT ic (A4 maxLen) Ur:=by
 intro x left hb h0 h1
 unfold ic mY Ur
 obtain⟨n,g1,g2,g3⟩:=RE x.servers left hb.1 h0 h1
 simp only [g1,Option.bind_some,aA]
 split
 ·exact⟨-1,rfl,by omega,fun h=>by omega⟩
 ·obtain⟨m,k1,k2,k3⟩:=Kd x.sides n hb.2.1 (by omega) (by omega)
  simp only [k1,Option.bind_some]
  have:=g3 (by omega)
  split
  ·exact⟨-1,rfl,by omega,fun h=>by omega⟩
  ·obtain⟨q,j1,j2,j3⟩:=Us x.master m hb.2.2.1 (by omega) (by omega)
   simp only [j1,Option.bind_some]
   have:=k3 (by omega)
   split
   ·exact⟨-1,rfl,by omega,fun h=>by omega⟩
   ·obtain⟨p,i1,i2,i3⟩:=PQ x.places q hb.2.2.2 (by omega) (by omega)
    simp only [i1,Option.bind_some]
    have:=j3 (by omega)
    split
    ·exact⟨-1,rfl,by omega,fun h=>by omega⟩
    ·exact⟨p,rfl,by omega,fun h=>by have:=i3 h; omega⟩
theorem Vh (x:aG) (h:A4 maxLen x): ∃ n,ic x 1048576=some (n,())∧(0≤n→A4 1048576 x∧Ur x≤1048576∧n=1048576 - Ur x):=by
 obtain⟨n,g1,g2,g3⟩:=PJ x 1048576 h (by decide) (Int.le_refl _)
 obtain⟨m,k1,k2,k3⟩:=Ut x 1048576 h (by decide) (Int.le_refl _)
 rw [g1] at k1
 simp only [Option.some.injEq,Prod.mk.injEq,and_true] at k1
 subst k1
 exact⟨n,g1,fun h=>⟨g3 h,by have:=k3 h; omega,k3 h⟩⟩
end Go.Proofs.YtkcgfceffffmoaaGreat.En
