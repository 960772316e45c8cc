/- Marks of rows that take more or less: written, and found again. Sizes, exactly. -/
import Derived.Test.YtkcgfceffffmoaaGreatZPV6
namespace Go.Proofs.YtkcgfceffffmoaaGreat.En
open Go
section
variable {α:Type}
def cX (w:α→Int):List α→Int
 | [] =>0
 | x::l=>w x+cX w l
def eU (G:α→Int→α) (w:α→Int):List α→Int→List α
 | [],_=> []
 | x::l,n=>G x n::eU G w l (n+w x)
theorem uW (w:α→Int) (a b:List α):cX w (a++b)=cX w a+cX w b:=by
 induction a with
 | nil=>simp [cX]
 | cons x a ih=>simp only [List.cons_append,cX,ih]; omega
theorem wm (G:α→Int→α) (w:α→Int) (a b:List α) (n:Int):eU G w (a++b) n=eU G w a n++eU G w b (n+cX w a):=by
 induction a generalizing n with
 | nil=>simp [cX,eU]
 | cons x a ih=>simp only [List.cons_append,eU,cX,ih,Int.add_assoc]
theorem fm (G:α→Int→α) (w:α→Int) (l:List α) (n:Int): (eU G w l n).length=l.length:=by
 induction l generalizing n with
 | nil=>rfl
 | cons x l ih=>simp only [eU,List.length_cons,ih]
theorem vn {w:α→Int} (hw: ∀ x,0≤w x) (l:List α):0≤cX w l:=by
 induction l with
 | nil=>exact Int.le_refl _
 | cons x l ih=>have:=hw x; simp only [cX]; omega
theorem GB {w:α→Int} (hw: ∀ x,0≤w x) {l:List α} {k:Nat} {x:α} (h:l[k]? =some x):cX w (l.take (k+1))=cX w (l.take k)+w x∧cX w (l.take k)+w x≤cX w l∧0≤cX w (l.take k):=by
 have h1:l.take (k+1)=l.take k++ [x] :=by rw [List.take_add_one,h]; rfl
 have h2:cX w (l.take (k+1))=cX w (l.take k)+w x:=by rw [h1,uW]; simp [cX]
 have h3:cX w l=cX w (l.take (k+1))+cX w (l.drop (k+1)):=by rw [←uW,List.take_append_drop]
 have h4:=vn hw (l.drop (k+1))
 have h5:=vn hw (l.take k)
 exact⟨h2,by omega,h5⟩
theorem xk (c:Int) (l:List α):cX (fun _=>c) l=c*(l.length:Int):=by
 induction l with
 | nil=>simp [cX]
 | cons x l ih=>simp only [cX,ih,List.length_cons,Int.natCast_add,Int.mul_add]; omega
theorem uX {F:List α→Int→Option (List α×Int×Unit)} {B: (Unit×Int×Int×Unit)×Unit×(List α×Unit)→Option (((Unit×Int×Int×Unit)×Unit×(List α×Unit))⊕((Int×Unit)×Unit×(List α×Unit)))} (G:α→Int→α) (w:α→Int) (ok:α→Prop)
  (hF: ∀ l n,F l n=(jF B (((),n,0,()),(),(l,()))).bind fun e=>some (e.2.2.1,e.1.1,()))
  (hs: ∀ (l:List α) (n:Int) (k:Nat) (x:α),l[k]? =some x→l.length≤1048576→0≤n→n+w x≤900000000→ok x→B (((),n,(k:Int),()),(),(l,()))=some (.inl (((),n+w x,((k+1:Nat):Int),()),(),(l.set k (G x n),()))))
  (he: ∀ (l:List α) (n:Int),B (((),n,(l.length:Int),()),(),(l,()))=some (.inr ((n,()),(),(l,()))))
  (hw: ∀ x,0≤w x) (l:List α) (n:Int) (hn:0≤n) (hn2:n+cX w l≤900000000) (hl:l.length≤1048576) (hok: ∀ x∈l,ok x):F l n=some (eU G w l n,n+cX w l,()):=by
 have b8:=oS (B:=B) l (fun k (b:List α)=>(((),n+cX w (l.take k),(k:Int),()),(),(b,()))) (fun k b=>b=eU G w (l.take k) n++l.drop k) (fun _ _ _=>((n+cX w l,()),(),(eU G w l n,())))
  (fun b hb=>by
    have hb:b=eU G w l n:=by rw [hb,List.drop_length,List.append_nil,List.take_length]
    have:=he b (n+cX w l)
    rw [hb,fm] at this
    rw [hb,List.take_length]
    exact this)
  (fun k b x hx hb=>by
    have hk:=mD hx
    have hlt: (eU G w (l.take k) n).length=k:=by rw [fm,List.length_take]; omega
    have hbl:b.length=l.length:=by rw [hb,List.length_append,hlt,List.length_drop]; omega
    obtain⟨g1,g2,g3⟩:=GB hw hx
    have hd:l.drop k=x::l.drop (k+1):=by
     rw [List.drop_eq_getElem_cons hk]
     rw [List.getElem?_eq_getElem hk] at hx
     rw [Option.some.inj hx]
    have hbx:b[k]? =some x:=by
     rw [hb,List.getElem?_append_right (by omega),hlt,Nat.sub_self,hd]
     rfl
    refine .inl ⟨b.set k (G x (n+cX w (l.take k))),?_,?_,rfl⟩
    ·rw [hs b _ k x hbx (by omega) (by omega) (by omega) (hok x (List.mem_of_getElem? hx)),g1,Int.add_assoc]
    ·have h1:l.take (k+1)=l.take k++ [x] :=by rw [List.take_add_one,hx]; rfl
     rw [hb,h1,wm,List.append_assoc,List.set_append_right _ _ (by omega),hlt,Nat.sub_self,hd]
     rfl)
  0 l (Nat.zero_le _) (by simp [eU])
 have h0:n+cX w (l.take 0)=n:=by simp [cX]
 rw [h0] at b8
 rw [hF,show jF B (((),n,0,()),(),(l,()))=_ from b8]
 rfl
theorem PV {F:List α→Int→Option (Int×Unit)} {B: (List α×Int×Int×Unit)×Unit×Unit→Option (((List α×Int×Int×Unit)×Unit×Unit)⊕(((Int×Int×Unit)×Unit×Unit)⊕((Int×Unit×Unit)×Unit×Unit)))} (G:α→Int→α) (w:α→Int) (ok:α→Prop)
  (hF: ∀ l n,F l n=(jF B ((l,n,0,()),(),())).bind fun e=>Sum.elim (fun e=>some (e.1.2.1,())) (fun e=>some (e.1.1,())) e)
  (hs: ∀ (l:List α) (n:Int) (k:Nat) (x:α),l[k]? =some (G x n)→l.length≤1048576→0≤n→n+w x≤900000000→ok x→B ((l,n,(k:Int),()),(),())=some (.inl ((l,n+w x,((k+1:Nat):Int),()),(),())))
  (he: ∀ (l:List α) (n:Int),B ((l,n,(l.length:Int),()),(),())=some (.inr (.inr ((n,(),()),(),()))))
  (hw: ∀ x,0≤w x) (l:List α) (n:Int) (hn:0≤n) (hn2:n+cX w l≤900000000) (hl:l.length≤1048576) (hok: ∀ x∈l,ok x):F (eU G w l n) n=some (n+cX w l,()):=by
 have hml:=fm G w l n
 have b8:=oS (B:=B) l (fun k (_:Unit)=>((eU G w l n,n+cX w (l.take k),(k:Int),()),(),())) (fun _ _=>True) (fun _ _ _=> .inr ((n+cX w l,(),()),(),()))
  (fun b hb=>by
    have:=he (eU G w l n) (n+cX w l)
    rw [hml] at this
    rw [List.take_length]
    exact this)
  (fun k b x hx hb=>by
    have hk:=mD hx
    obtain⟨g1,g2,g3⟩:=GB hw hx
    have hlt: (eU G w (l.take k) n).length=k:=by rw [fm,List.length_take]; omega
    have hg: (eU G w l n)[k]? =some (G x (n+cX w (l.take k))):=by
     have h1:l=l.take k++x::l.drop (k+1):=by
      have:=(List.take_append_drop k l).symm
      rw [List.drop_eq_getElem_cons hk] at this
      rw [List.getElem?_eq_getElem hk] at hx
      rw [Option.some.inj hx] at this
      exact this
     have h2:eU G w l n=eU G w (l.take k) n++(G x (n+cX w (l.take k))::eU G w (l.drop (k+1)) (n+cX w (l.take k)+w x)):=by
      conv=>lhs; rw [h1]
      rw [wm]
      rfl
     rw [h2,List.getElem?_append_right (by omega),hlt,Nat.sub_self]
     rfl
    refine .inl ⟨(),?_,trivial,rfl⟩
    rw [hs _ _ k x hg (by omega) (by omega) (by omega) (hok x (List.mem_of_getElem? hx)),g1,Int.add_assoc])
  0 () (Nat.zero_le _) trivial
 have h0:n+cX w (l.take 0)=n:=by simp [cX]
 rw [h0] at b8
 rw [hF,show jF B ((eU G w l n,n,0,()),(),())=_ from b8]
 rfl
def cM (l:List α):Int:=(l.length:Int)
def N4 (F:α→Int→Option (Int×Unit)) (bd:α→Prop) (t:α→Int):Prop:= ∀ x left,bd x→0≤left→left≤1048576→ ∃ n,F x left=some (n,())∧n≤left∧(0≤n→n=left - t x)
theorem ET {F:List α→Int→Option (Int×Unit)} (hF: ∀ l left,F l left=br (decide (IntKind.wrap .i64 (left - (l.length:Int)) < 0)) (some (-1,())) (some (IntKind.wrap .i64 (left - (l.length:Int)),()))):N4 F (fun l=>l.length≤maxLen) cM:=by
 intro l left hl h0 h1
 unfold maxLen at hl
 unfold cM
 rw [hF,hQ (by omega) (by omega),aE]
 split
 ·exact⟨_,rfl,by omega,fun h=>by omega⟩
 ·exact⟨_,rfl,by omega,fun h=>by omega⟩
theorem KE {F:List α→Int→Option (Int×Unit)} {B: (List α×Int×Int×Unit)×Unit×Unit→Option (((List α×Int×Int×Unit)×Unit×Unit)⊕(((Int×Int×Unit)×Unit×Unit)⊕((Int×Unit×Unit)×Unit×Unit)))} (f:α→Int→Option (Int×Unit)) {bd:α→Prop} {t:α→Int} (hf:N4 f bd t)
  (hF: ∀ l left,F l left=br (decide (IntKind.wrap .i64 (left - (l.length:Int)) < 0)) (some (-1,())) ((jF B ((l,IntKind.wrap .i64 (left - (l.length:Int)),0,()),(),())).bind fun e=>Sum.elim (fun e=>some (e.1.2.1,())) (fun e=>some (e.1.1,())) e))
  (hB: ∀ (l:List α) (v k:Int),B ((l,v,k,()),(),())=br (decide (k < (l.length:Int))) (aq (0≤k) ((l[k.toNat]?).bind fun x=>(f x v).bind fun y=>br (decide (y.1 < 0)) (some (.inr (.inl ((y.1,-1,()),(),())))) (some (.inl ((l,y.1,IntKind.wrap .i64 (k+1),()),(),())))) none) (some (.inr (.inr ((v,(),()),(),()))))):
  N4 F (fun l=>l.length≤maxLen∧ ∀ x∈l,bd x) (fun l=>cM l+cX t l):=by
 intro l left hl h0 h1
 obtain⟨hl,hbd⟩:=hl
 have hl':=hl
 unfold maxLen at hl'
 rw [hF,hQ (by omega) (by omega),aE]
 split
 ·exact⟨_,rfl,by omega,fun h=>by omega⟩
 ·rename_i hge
  have b8:=xS (B:=B) (fun s=> ∃ (k:Nat) (v:Int),s=((l,v,(k:Int),()),(),())∧k≤l.length∧0≤v∧v≤left - (l.length:Int)∧v=left - (l.length:Int) - cX t (l.take k)) (fun s=>l.length - s.1.2.2.1.toNat)
   (fun e=>(∃ y,e= .inl ((y,-1,()),(),()))∨ ∃ v,e= .inr ((v,(),()),(),())∧v≤left - (l.length:Int)∧v=left - (l.length:Int) - cX t l)
   (fun s hs=>by
     obtain⟨k,v,rfl,hk,hv0,hv1,hsm⟩:=hs
     rw [hB,aE]
     by_cases hlt:k < l.length
     ·rw [if_pos (by omega),eh (by omega),Int.toNat_natCast,List.getElem?_eq_getElem hlt,Option.bind_some]
      obtain⟨n,g1,g2,g3⟩:=hf l[k] v (hbd _ (List.getElem_mem _)) hv0 (by omega)
      rw [g1,Option.bind_some,aE]
      split
      ·exact .inr ⟨_,rfl, .inl ⟨_,rfl⟩⟩
      ·have ht:cX t (l.take (k+1))=cX t (l.take k)+t l[k] :=by
        rw [List.take_add_one,List.getElem?_eq_getElem hlt,uW]; simp [cX]
       have:=g3 (by omega)
       refine .inl ⟨_,rfl,⟨k+1,n,by rw [b7 hl hlt],by omega,by omega,by omega,by omega⟩,?_⟩
       simp only [b7 hl hlt,Int.toNat_natCast]
       omega
     ·rw [if_neg (by omega)]
      refine .inr ⟨_,rfl, .inr ⟨v,rfl,hv1,?_⟩⟩
      rw [hsm,List.take_of_length_le (by omega)])
   (s:=((l,left - (l.length:Int),0,()),(),())) ⟨0,_,rfl,Nat.zero_le _,by omega,by omega,by simp [cX]⟩
  obtain⟨e,h2,h3⟩:=b8
  rw [h2]
  rcases h3 with ⟨y,rfl⟩ | ⟨v,rfl,hv,hsm⟩
  ·exact⟨-1,rfl,by omega,fun h=>by omega⟩
  ·exact⟨v,rfl,by omega,fun h=>by simp only [cM]; omega⟩
end
def LZ (c:ai):Int:=cM c.replicas+cM c.witnesses
def Rd (s:ay):Int:=LZ s.config+cM s.log+cM s.learned
def TB (m:aw):Int:=cM m.configs+cX LZ m.configs
def TC (l:List ay):Int:=cM l+cX Rd l
def Sw (c:aQ):Int:=TC c.servers+cM c.sides+TB c.master+cM c.places
theorem od {α:Type} (l:List α):0≤cM l:=by unfold cM; omega
theorem Il:N4 nx (fun l=>l.length≤maxLen) cM:=ET (fun _ _=>rfl)
theorem GC:N4 kM (fun l=>l.length≤maxLen) cM:=ET (fun _ _=>rfl)
theorem N0:N4 mF (fun l=>l.length≤maxLen) cM:=ET (fun _ _=>rfl)
theorem MQ:N4 fK (iM maxLen) LZ:=by
 intro x left hb h0 h1
 unfold fK na LZ
 obtain⟨n,g1,g2,g3⟩:=Il x.replicas left hb.1 h0 h1
 simp only [g1,Option.bind_some,aE]
 split
 ·exact⟨-1,rfl,by omega,fun h=>by omega⟩
 ·obtain⟨m,k1,k2,k3⟩:=Il x.witnesses n hb.2 (by omega) (by omega)
  simp only [k1,Option.bind_some]
  have:=g3 (by omega)
  split
  ·exact⟨-1,rfl,by omega,fun h=>by omega⟩
  ·exact⟨m,rfl,by omega,fun h=>by have:=k3 h; omega⟩
theorem Re:N4 gF (qv maxLen) Rd:=by
 intro x left hb h0 h1
 unfold gF nc Rd
 obtain⟨n,g1,g2,g3⟩:=MQ x.config left hb.1 h0 h1
 simp only [g1,Option.bind_some,aE]
 split
 ·exact⟨-1,rfl,by omega,fun h=>by omega⟩
 ·obtain⟨m,k1,k2,k3⟩:=GC x.log n hb.2.1 (by omega) (by omega)
  simp only [k1,Option.bind_some]
  have:=g3 (by omega)
  split
  ·exact⟨-1,rfl,by omega,fun h=>by omega⟩
  ·obtain⟨q,j1,j2,j3⟩:=GC x.learned m hb.2.2 (by omega) (by omega)
   simp only [j1,Option.bind_some]
   have:=k3 (by omega)
   split
   ·exact⟨-1,rfl,by omega,fun h=>by omega⟩
   ·exact⟨q,rfl,by omega,fun h=>by have:=j3 h; omega⟩
theorem PW:N4 kN (fun l=>l.length≤maxLen∧ ∀ s∈l,qv maxLen s) TC:=
 KE (B:=ft) gF Re (fun _ _=>rfl) (fun _ _ _=>rfl)
theorem PX:N4 kO (fun l=>l.length≤maxLen∧ ∀ s∈l,iM maxLen s) (fun l=>cM l+cX LZ l):=
 KE (B:=fu) fK MQ (fun _ _=>rfl) (fun _ _ _=>rfl)
theorem Sx:N4 fv (Cr maxLen) TB:=by
 intro x left hb h0 h1
 unfold fv jg
 obtain⟨n,g1,g2,g3⟩:=PX x.configs left hb h0 h1
 simp only [g1,Option.bind_some,aE]
 split
 ·exact⟨-1,rfl,by omega,fun h=>by omega⟩
 ·exact⟨n,rfl,by omega,g3⟩
theorem Sy:N4 f8 (yZ maxLen) Sw:=by
 intro x left hb h0 h1
 unfold f8 lD Sw
 obtain⟨n,g1,g2,g3⟩:=PW x.servers left hb.1 h0 h1
 simp only [g1,Option.bind_some,aE]
 split
 ·exact⟨-1,rfl,by omega,fun h=>by omega⟩
 ·obtain⟨m,k1,k2,k3⟩:=Il x.sides n hb.2.1 (by omega) (by omega)
  simp only [k1,Option.bind_some]
  have:=g3 (by omega)
  split
  ·exact⟨-1,rfl,by omega,fun h=>by omega⟩
  ·obtain⟨q,j1,j2,j3⟩:=Sx x.master m hb.2.2.1 (by omega) (by omega)
   simp only [j1,Option.bind_some]
   have:=k3 (by omega)
   split
   ·exact⟨-1,rfl,by omega,fun h=>by omega⟩
   ·obtain⟨p,i1,i2,i3⟩:=N0 x.places q hb.2.2.2 (by omega) (by omega)
    simp only [i1,Option.bind_some]
    have:=j3 (by omega)
    split
    ·exact⟨-1,rfl,by omega,fun h=>by omega⟩
    ·exact⟨p,rfl,by omega,fun h=>by have:=i3 h; omega⟩
theorem Tp (x:aQ) (h:yZ maxLen x): ∃ n,f8 x 1048576=some (n,())∧(0≤n→yZ 1048576 x∧Sw x≤1048576∧n=1048576 - Sw x):=by
 obtain⟨n,g1,g2,g3⟩:=NT x 1048576 h (by decide) (Int.le_refl _)
 obtain⟨m,k1,k2,k3⟩:=Sy x 1048576 h (by decide) (Int.le_refl _)
 rw [g1] at k1
 simp only [Option.some.injEq,Prod.mk.injEq,and_true] at k1
 subst k1
 exact⟨n,g1,fun h=>⟨g3 h,by have:=k3 h; omega,k3 h⟩⟩
end Go.Proofs.YtkcgfceffffmoaaGreat.En
