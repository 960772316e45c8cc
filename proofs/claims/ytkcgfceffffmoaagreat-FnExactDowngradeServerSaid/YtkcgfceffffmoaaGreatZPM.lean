/- Marks of rows that take more or less: written, and found again. Sizes, exactly. -/
import Derived.Test.YtkcgfceffffmoaaGreatZPV6
namespace Go.Proofs.YtkcgfceffffmoaaGreat.En
open Go
section
variable {α:Type}
def cG (w:α→Int):List α→Int
 | [] =>0
 | x::l=>w x+cG w l
def fY (G:α→Int→α) (w:α→Int):List α→Int→List α
 | [],_=> []
 | x::l,n=>G x n::fY G w l (n+w x)
theorem yt (w:α→Int) (a b:List α):cG w (a++b)=cG w a+cG w b:=by
 induction a with
 | nil=>simp [cG]
 | cons x a ih=>simp only [List.cons_append,cG,ih]; omega
theorem Aj (G:α→Int→α) (w:α→Int) (a b:List α) (n:Int):fY G w (a++b) n=fY G w a n++fY G w b (n+cG w a):=by
 induction a generalizing n with
 | nil=>simp [cG,fY]
 | cons x a ih=>simp only [List.cons_append,fY,cG,ih,Int.add_assoc]
theorem gx (G:α→Int→α) (w:α→Int) (l:List α) (n:Int): (fY G w l n).length=l.length:=by
 induction l generalizing n with
 | nil=>rfl
 | cons x l ih=>simp only [fY,List.length_cons,ih]
theorem yY {w:α→Int} (hw: ∀ x,0≤w x) (l:List α):0≤cG w l:=by
 induction l with
 | nil=>exact Int.le_refl _
 | cons x l ih=>have:=hw x; simp only [cG]; omega
theorem K7 {w:α→Int} (hw: ∀ x,0≤w x) {l:List α} {k:Nat} {x:α} (h:l[k]? =some x):cG w (l.take (k+1))=cG w (l.take k)+w x∧cG w (l.take k)+w x≤cG w l∧0≤cG w (l.take k):=by
 have h1:l.take (k+1)=l.take k++ [x] :=by rw [List.take_add_one,h]; rfl
 have h2:cG w (l.take (k+1))=cG w (l.take k)+w x:=by rw [h1,yt]; simp [cG]
 have h3:cG w l=cG w (l.take (k+1))+cG w (l.drop (k+1)):=by rw [←yt,List.take_append_drop]
 have h4:=yY hw (l.drop (k+1))
 have h5:=yY hw (l.take k)
 exact⟨h2,by omega,h5⟩
theorem Be (c:Int) (l:List α):cG (fun _=>c) l=c*(l.length:Int):=by
 induction l with
 | nil=>simp [cG]
 | cons x l ih=>simp only [cG,ih,List.length_cons,Int.natCast_add,Int.mul_add]; omega
theorem yu {F:List α→Int→Option (List α×Int×Unit)} {B: (Unit×Int×Int×Unit)×Unit×(List α×Unit)→Option (((Unit×Int×Int×Unit)×Unit×(List α×Unit))⊕((Int×Unit)×Unit×(List α×Unit)))} (G:α→Int→α) (w:α→Int) (ok:α→Prop)
  (hF: ∀ l n,F l n=(jB B (((),n,0,()),(),(l,()))).bind fun e=>some (e.2.2.1,e.1.1,()))
  (hs: ∀ (l:List α) (n:Int) (k:Nat) (x:α),l[k]? =some x→l.length≤1048576→0≤n→n+w x≤900000000→ok x→B (((),n,(k:Int),()),(),(l,()))=some (.inl (((),n+w x,((k+1:Nat):Int),()),(),(l.set k (G x n),()))))
  (he: ∀ (l:List α) (n:Int),B (((),n,(l.length:Int),()),(),(l,()))=some (.inr ((n,()),(),(l,()))))
  (hw: ∀ x,0≤w x) (l:List α) (n:Int) (hn:0≤n) (hn2:n+cG w l≤900000000) (hl:l.length≤1048576) (hok: ∀ x∈l,ok x):F l n=some (fY G w l n,n+cG w l,()):=by
 have ce:=ox (B:=B) l (fun k (b:List α)=>(((),n+cG w (l.take k),(k:Int),()),(),(b,()))) (fun k b=>b=fY G w (l.take k) n++l.drop k) (fun _ _ _=>((n+cG w l,()),(),(fY G w l n,())))
  (fun b hb=>by
    have hb:b=fY G w l n:=by rw [hb,List.drop_length,List.append_nil,List.take_length]
    have:=he b (n+cG w l)
    rw [hb,gx] at this
    rw [hb,List.take_length]
    exact this)
  (fun k b x hx hb=>by
    have hk:=kG hx
    have hlt: (fY G w (l.take k) n).length=k:=by rw [gx,List.length_take]; omega
    have hbl:b.length=l.length:=by rw [hb,List.length_append,hlt,List.length_drop]; omega
    obtain⟨g1,g2,g3⟩:=K7 hw hx
    have hd:l.drop k=x::l.drop (k+1):=by
     rw [List.drop_eq_getElem_cons hk]
     rw [List.getElem?_eq_getElem hk] at hx
     rw [Option.some.inj hx]
    have hbx:b[k]? =some x:=by
     rw [hb,List.getElem?_append_right (by omega),hlt,Nat.sub_self,hd]
     rfl
    refine .inl ⟨b.set k (G x (n+cG w (l.take k))),?_,?_,rfl⟩
    ·rw [hs b _ k x hbx (by omega) (by omega) (by omega) (hok x (List.mem_of_getElem? hx)),g1,Int.add_assoc]
    ·have h1:l.take (k+1)=l.take k++ [x] :=by rw [List.take_add_one,hx]; rfl
     rw [hb,h1,Aj,List.append_assoc,List.set_append_right _ _ (by omega),hlt,Nat.sub_self,hd]
     rfl)
  0 l (Nat.zero_le _) (by simp [fY])
 have h0:n+cG w (l.take 0)=n:=by simp [cG]
 rw [h0] at ce
 rw [hF,show jB B (((),n,0,()),(),(l,()))=_ from ce]
 rfl
theorem yw {F:List α→Int→Option (Int×Unit)} {B: (List α×Int×Int×Unit)×Unit×Unit→Option (((List α×Int×Int×Unit)×Unit×Unit)⊕(((Int×Int×Unit)×Unit×Unit)⊕((Int×Unit×Unit)×Unit×Unit)))} (G:α→Int→α) (w:α→Int) (ok:α→Prop)
  (hF: ∀ l n,F l n=(jB B ((l,n,0,()),(),())).bind fun e=>Sum.elim (fun e=>some (e.1.2.1,())) (fun e=>some (e.1.1,())) e)
  (hs: ∀ (l:List α) (n:Int) (k:Nat) (x:α),l[k]? =some (G x n)→l.length≤1048576→0≤n→n+w x≤900000000→ok x→B ((l,n,(k:Int),()),(),())=some (.inl ((l,n+w x,((k+1:Nat):Int),()),(),())))
  (he: ∀ (l:List α) (n:Int),B ((l,n,(l.length:Int),()),(),())=some (.inr (.inr ((n,(),()),(),()))))
  (hw: ∀ x,0≤w x) (l:List α) (n:Int) (hn:0≤n) (hn2:n+cG w l≤900000000) (hl:l.length≤1048576) (hok: ∀ x∈l,ok x):F (fY G w l n) n=some (n+cG w l,()):=by
 have hml:=gx G w l n
 have ce:=ox (B:=B) l (fun k (_:Unit)=>((fY G w l n,n+cG w (l.take k),(k:Int),()),(),())) (fun _ _=>True) (fun _ _ _=> .inr ((n+cG w l,(),()),(),()))
  (fun b hb=>by
    have:=he (fY G w l n) (n+cG w l)
    rw [hml] at this
    rw [List.take_length]
    exact this)
  (fun k b x hx hb=>by
    have hk:=kG hx
    obtain⟨g1,g2,g3⟩:=K7 hw hx
    have hlt: (fY G w (l.take k) n).length=k:=by rw [gx,List.length_take]; omega
    have hg: (fY G w l n)[k]? =some (G x (n+cG w (l.take k))):=by
     have h1:l=l.take k++x::l.drop (k+1):=by
      have:=(List.take_append_drop k l).symm
      rw [List.drop_eq_getElem_cons hk] at this
      rw [List.getElem?_eq_getElem hk] at hx
      rw [Option.some.inj hx] at this
      exact this
     have h2:fY G w l n=fY G w (l.take k) n++(G x (n+cG w (l.take k))::fY G w (l.drop (k+1)) (n+cG w (l.take k)+w x)):=by
      conv=>lhs; rw [h1]
      rw [Aj]
      rfl
     rw [h2,List.getElem?_append_right (by omega),hlt,Nat.sub_self]
     rfl
    refine .inl ⟨(),?_,trivial,rfl⟩
    rw [hs _ _ k x hg (by omega) (by omega) (by omega) (hok x (List.mem_of_getElem? hx)),g1,Int.add_assoc])
  0 () (Nat.zero_le _) trivial
 have h0:n+cG w (l.take 0)=n:=by simp [cG]
 rw [h0] at ce
 rw [hF,show jB B ((fY G w l n,n,0,()),(),())=_ from ce]
 rfl
def bL (l:List α):Int:=(l.length:Int)
def SZ (F:α→Int→Option (Int×Unit)) (bd:α→Prop) (t:α→Int):Prop:= ∀ x left,bd x→0≤left→left≤1048576→ ∃ n,F x left=some (n,())∧n≤left∧(0≤n→n=left - t x)
theorem I7 {F:List α→Int→Option (Int×Unit)} (hF: ∀ l left,F l left=br (decide (IntKind.wrap .i64 (left - (l.length:Int)) < 0)) (some (-1,())) (some (IntKind.wrap .i64 (left - (l.length:Int)),()))):SZ F (fun l=>l.length≤maxLen) bL:=by
 intro l left hl h0 h1
 unfold maxLen at hl
 unfold bL
 rw [hF,f8 (by omega) (by omega),ay]
 split
 ·exact⟨_,rfl,by omega,fun h=>by omega⟩
 ·exact⟨_,rfl,by omega,fun h=>by omega⟩
theorem Pn {F:List α→Int→Option (Int×Unit)} {B: (List α×Int×Int×Unit)×Unit×Unit→Option (((List α×Int×Int×Unit)×Unit×Unit)⊕(((Int×Int×Unit)×Unit×Unit)⊕((Int×Unit×Unit)×Unit×Unit)))} (f:α→Int→Option (Int×Unit)) {bd:α→Prop} {t:α→Int} (hf:SZ f bd t)
  (hF: ∀ l left,F l left=br (decide (IntKind.wrap .i64 (left - (l.length:Int)) < 0)) (some (-1,())) ((jB B ((l,IntKind.wrap .i64 (left - (l.length:Int)),0,()),(),())).bind fun e=>Sum.elim (fun e=>some (e.1.2.1,())) (fun e=>some (e.1.1,())) e))
  (hB: ∀ (l:List α) (v k:Int),B ((l,v,k,()),(),())=br (decide (k < (l.length:Int))) (aq (0≤k) ((l[k.toNat]?).bind fun x=>(f x v).bind fun y=>br (decide (y.1 < 0)) (some (.inr (.inl ((y.1,-1,()),(),())))) (some (.inl ((l,y.1,IntKind.wrap .i64 (k+1),()),(),())))) none) (some (.inr (.inr ((v,(),()),(),()))))):
  SZ F (fun l=>l.length≤maxLen∧ ∀ x∈l,bd x) (fun l=>bL l+cG t l):=by
 intro l left hl h0 h1
 obtain⟨hl,hbd⟩:=hl
 have hl':=hl
 unfold maxLen at hl'
 rw [hF,f8 (by omega) (by omega),ay]
 split
 ·exact⟨_,rfl,by omega,fun h=>by omega⟩
 ·rename_i hge
  have ce:=BG (B:=B) (fun s=> ∃ (k:Nat) (v:Int),s=((l,v,(k:Int),()),(),())∧k≤l.length∧0≤v∧v≤left - (l.length:Int)∧v=left - (l.length:Int) - cG t (l.take k)) (fun s=>l.length - s.1.2.2.1.toNat)
   (fun e=>(∃ y,e= .inl ((y,-1,()),(),()))∨ ∃ v,e= .inr ((v,(),()),(),())∧v≤left - (l.length:Int)∧v=left - (l.length:Int) - cG t l)
   (fun s hs=>by
     obtain⟨k,v,rfl,hk,hv0,hv1,hsm⟩:=hs
     rw [hB,ay]
     by_cases hlt:k < l.length
     ·rw [if_pos (by omega),ir (by omega),Int.toNat_natCast,List.getElem?_eq_getElem hlt,Option.bind_some]
      obtain⟨n,g1,g2,g3⟩:=hf l[k] v (hbd _ (List.getElem_mem _)) hv0 (by omega)
      rw [g1,Option.bind_some,ay]
      split
      ·exact .inr ⟨_,rfl, .inl ⟨_,rfl⟩⟩
      ·have ht:cG t (l.take (k+1))=cG t (l.take k)+t l[k] :=by
        rw [List.take_add_one,List.getElem?_eq_getElem hlt,yt]; simp [cG]
       have:=g3 (by omega)
       refine .inl ⟨_,rfl,⟨k+1,n,by rw [bO hl hlt],by omega,by omega,by omega,by omega⟩,?_⟩
       simp only [bO hl hlt,Int.toNat_natCast]
       omega
     ·rw [if_neg (by omega)]
      refine .inr ⟨_,rfl, .inr ⟨v,rfl,hv1,?_⟩⟩
      rw [hsm,List.take_of_length_le (by omega)])
   (s:=((l,left - (l.length:Int),0,()),(),())) ⟨0,_,rfl,Nat.zero_le _,by omega,by omega,by simp [cG]⟩
  obtain⟨e,h2,h3⟩:=ce
  rw [h2]
  rcases h3 with ⟨y,rfl⟩ | ⟨v,rfl,hv,hsm⟩
  ·exact⟨-1,rfl,by omega,fun h=>by omega⟩
  ·exact⟨v,rfl,by omega,fun h=>by simp only [bL]; omega⟩
end
def QK (c:ai):Int:=bL c.replicas+bL c.witnesses
def Po (s:aj):Int:=QK s.config+bL s.log+bL s.learned
def Yf (m:an):Int:=bL m.configs+cG QK m.configs
def X0 (l:List aj):Int:=bL l+cG Po l
def Pp (c:ao):Int:=X0 c.servers+bL c.sides+Yf c.master+bL c.places
theorem kB {α:Type} (l:List α):0≤bL l:=by unfold bL; omega
theorem MX:SZ pQ (fun l=>l.length≤maxLen) bL:=I7 (fun _ _=>rfl)
theorem K8:SZ mZ (fun l=>l.length≤maxLen) bL:=I7 (fun _ _=>rfl)
theorem SW:SZ o9 (fun l=>l.length≤maxLen) bL:=I7 (fun _ _=>rfl)
theorem Rz:SZ ia (ll maxLen) QK:=by
 intro x left hb h0 h1
 unfold ia pw QK
 obtain⟨n,g1,g2,g3⟩:=MX x.replicas left hb.1 h0 h1
 simp only [g1,Option.bind_some,ay]
 split
 ·exact⟨-1,rfl,by omega,fun h=>by omega⟩
 ·obtain⟨m,k1,k2,k3⟩:=MX x.witnesses n hb.2 (by omega) (by omega)
  simp only [k1,Option.bind_some]
  have:=g3 (by omega)
  split
  ·exact⟨-1,rfl,by omega,fun h=>by omega⟩
  ·exact⟨m,rfl,by omega,fun h=>by have:=k3 h; omega⟩
theorem V6:SZ i9 (qD maxLen) Po:=by
 intro x left hb h0 h1
 unfold i9 pz Po
 obtain⟨n,g1,g2,g3⟩:=Rz x.config left hb.1 h0 h1
 simp only [g1,Option.bind_some,ay]
 split
 ·exact⟨-1,rfl,by omega,fun h=>by omega⟩
 ·obtain⟨m,k1,k2,k3⟩:=K8 x.log n hb.2.1 (by omega) (by omega)
  simp only [k1,Option.bind_some]
  have:=g3 (by omega)
  split
  ·exact⟨-1,rfl,by omega,fun h=>by omega⟩
  ·obtain⟨q,j1,j2,j3⟩:=K8 x.learned m hb.2.2 (by omega) (by omega)
   simp only [j1,Option.bind_some]
   have:=k3 (by omega)
   split
   ·exact⟨-1,rfl,by omega,fun h=>by omega⟩
   ·exact⟨q,rfl,by omega,fun h=>by have:=j3 h; omega⟩
theorem UP:SZ m0 (fun l=>l.length≤maxLen∧ ∀ s∈l,qD maxLen s) X0:=
 Pn (B:=gF) i9 V6 (fun _ _=>rfl) (fun _ _ _=>rfl)
theorem UQ:SZ m8 (fun l=>l.length≤maxLen∧ ∀ s∈l,ll maxLen s) (fun l=>bL l+cG QK l):=
 Pn (B:=gG) ia Rz (fun _ _=>rfl) (fun _ _ _=>rfl)
theorem Xg:SZ gH (I2 maxLen) Yf:=by
 intro x left hb h0 h1
 unfold gH kH
 obtain⟨n,g1,g2,g3⟩:=UQ x.configs left hb h0 h1
 simp only [g1,Option.bind_some,ay]
 split
 ·exact⟨-1,rfl,by omega,fun h=>by omega⟩
 ·exact⟨n,rfl,by omega,g3⟩
theorem Xh:SZ iy (tC maxLen) Pp:=by
 intro x left hb h0 h1
 unfold iy n0 Pp
 obtain⟨n,g1,g2,g3⟩:=UP x.servers left hb.1 h0 h1
 simp only [g1,Option.bind_some,ay]
 split
 ·exact⟨-1,rfl,by omega,fun h=>by omega⟩
 ·obtain⟨m,k1,k2,k3⟩:=MX x.sides n hb.2.1 (by omega) (by omega)
  simp only [k1,Option.bind_some]
  have:=g3 (by omega)
  split
  ·exact⟨-1,rfl,by omega,fun h=>by omega⟩
  ·obtain⟨q,j1,j2,j3⟩:=Xg x.master m hb.2.2.1 (by omega) (by omega)
   simp only [j1,Option.bind_some]
   have:=k3 (by omega)
   split
   ·exact⟨-1,rfl,by omega,fun h=>by omega⟩
   ·obtain⟨p,i1,i2,i3⟩:=SW x.places q hb.2.2.2 (by omega) (by omega)
    simp only [i1,Option.bind_some]
    have:=j3 (by omega)
    split
    ·exact⟨-1,rfl,by omega,fun h=>by omega⟩
    ·exact⟨p,rfl,by omega,fun h=>by have:=i3 h; omega⟩
theorem X1 (x:ao) (h:tC maxLen x): ∃ n,iy x 1048576=some (n,())∧(0≤n→tC 1048576 x∧Pp x≤1048576∧n=1048576 - Pp x):=by
 obtain⟨n,g1,g2,g3⟩:=SO x 1048576 h (by decide) (Int.le_refl _)
 obtain⟨m,k1,k2,k3⟩:=Xh x 1048576 h (by decide) (Int.le_refl _)
 rw [g1] at k1
 simp only [Option.some.injEq,Prod.mk.injEq,and_true] at k1
 subst k1
 exact⟨n,g1,fun h=>⟨g3 h,by have:=k3 h; omega,k3 h⟩⟩
end Go.Proofs.YtkcgfceffffmoaaGreat.En
