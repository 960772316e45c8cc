/- Marks of rows that take more or less: written, and found again. Sizes, exactly. -/
import Derived.Test.YtkcgfceffffmoaaGreatZPV6
namespace Go.Proofs.YtkcgfceffffmoaaGreat.En
open Go
section
variable {α:Type}
def cq (w:α→Int):List α→Int
 | [] =>0
 | x::l=>w x+cq w l
def eU (G:α→Int→α) (w:α→Int):List α→Int→List α
 | [],_=> []
 | x::l,n=>G x n::eU G w l (n+w x)
theorem uQ (w:α→Int) (a b:List α):cq w (a++b)=cq w a+cq w b:=by
 induction a with
 | nil=>simp [cq]
 | cons x a ih=>simp only [List.cons_append,cq,ih]; omega
theorem wj (G:α→Int→α) (w:α→Int) (a b:List α) (n:Int):eU G w (a++b) n=eU G w a n++eU G w b (n+cq w a):=by
 induction a generalizing n with
 | nil=>simp [cq,eU]
 | cons x a ih=>simp only [List.cons_append,eU,cq,ih,Int.add_assoc]
theorem fo (G:α→Int→α) (w:α→Int) (l:List α) (n:Int): (eU G w l n).length=l.length:=by
 induction l generalizing n with
 | nil=>rfl
 | cons x l ih=>simp only [eU,List.length_cons,ih]
theorem vj {w:α→Int} (hw: ∀ x,0≤w x) (l:List α):0≤cq w l:=by
 induction l with
 | nil=>exact Int.le_refl _
 | cons x l ih=>have:=hw x; simp only [cq]; omega
theorem Gr {w:α→Int} (hw: ∀ x,0≤w x) {l:List α} {k:Nat} {x:α} (h:l[k]? =some x):cq w (l.take (k+1))=cq w (l.take k)+w x∧cq w (l.take k)+w x≤cq w l∧0≤cq w (l.take k):=by
 have h1:l.take (k+1)=l.take k++ [x] :=by rw [List.take_add_one,h]; rfl
 have h2:cq w (l.take (k+1))=cq w (l.take k)+w x:=by rw [h1,uQ]; simp [cq]
 have h3:cq w l=cq w (l.take (k+1))+cq w (l.drop (k+1)):=by rw [←uQ,List.take_append_drop]
 have h4:=vj hw (l.drop (k+1))
 have h5:=vj hw (l.take k)
 exact⟨h2,by omega,h5⟩
theorem xf (c:Int) (l:List α):cq (fun _=>c) l=c*(l.length:Int):=by
 induction l with
 | nil=>simp [cq]
 | cons x l ih=>simp only [cq,ih,List.length_cons,Int.natCast_add,Int.mul_add]; omega
theorem uR {F:List α→Int→Option (List α×Int×Unit)} {B: (Unit×Int×Int×Unit)×Unit×(List α×Unit)→Option (((Unit×Int×Int×Unit)×Unit×(List α×Unit))⊕((Int×Unit)×Unit×(List α×Unit)))} (G:α→Int→α) (w:α→Int) (ok:α→Prop)
  (hF: ∀ l n,F l n=(jD B (((),n,0,()),(),(l,()))).bind fun e=>some (e.2.2.1,e.1.1,()))
  (hs: ∀ (l:List α) (n:Int) (k:Nat) (x:α),l[k]? =some x→l.length≤1048576→0≤n→n+w x≤900000000→ok x→B (((),n,(k:Int),()),(),(l,()))=some (.inl (((),n+w x,((k+1:Nat):Int),()),(),(l.set k (G x n),()))))
  (he: ∀ (l:List α) (n:Int),B (((),n,(l.length:Int),()),(),(l,()))=some (.inr ((n,()),(),(l,()))))
  (hw: ∀ x,0≤w x) (l:List α) (n:Int) (hn:0≤n) (hn2:n+cq w l≤900000000) (hl:l.length≤1048576) (hok: ∀ x∈l,ok x):F l n=some (eU G w l n,n+cq w l,()):=by
 have ca:=oQ (B:=B) l (fun k (b:List α)=>(((),n+cq w (l.take k),(k:Int),()),(),(b,()))) (fun k b=>b=eU G w (l.take k) n++l.drop k) (fun _ _ _=>((n+cq w l,()),(),(eU G w l n,())))
  (fun b hb=>by
    have hb:b=eU G w l n:=by rw [hb,List.drop_length,List.append_nil,List.take_length]
    have:=he b (n+cq w l)
    rw [hb,fo] at this
    rw [hb,List.take_length]
    exact this)
  (fun k b x hx hb=>by
    have hk:=jK hx
    have hlt: (eU G w (l.take k) n).length=k:=by rw [fo,List.length_take]; omega
    have hbl:b.length=l.length:=by rw [hb,List.length_append,hlt,List.length_drop]; omega
    obtain⟨g1,g2,g3⟩:=Gr hw hx
    have hd:l.drop k=x::l.drop (k+1):=by
     rw [List.drop_eq_getElem_cons hk]
     rw [List.getElem?_eq_getElem hk] at hx
     rw [Option.some.inj hx]
    have hbx:b[k]? =some x:=by
     rw [hb,List.getElem?_append_right (by omega),hlt,Nat.sub_self,hd]
     rfl
    refine .inl ⟨b.set k (G x (n+cq w (l.take k))),?_,?_,rfl⟩
    ·rw [hs b _ k x hbx (by omega) (by omega) (by omega) (hok x (List.mem_of_getElem? hx)),g1,Int.add_assoc]
    ·have h1:l.take (k+1)=l.take k++ [x] :=by rw [List.take_add_one,hx]; rfl
     rw [hb,h1,wj,List.append_assoc,List.set_append_right _ _ (by omega),hlt,Nat.sub_self,hd]
     rfl)
  0 l (Nat.zero_le _) (by simp [eU])
 have h0:n+cq w (l.take 0)=n:=by simp [cq]
 rw [h0] at ca
 rw [hF,show jD B (((),n,0,()),(),(l,()))=_ from ca]
 rfl
theorem uS {F:List α→Int→Option (Int×Unit)} {B: (List α×Int×Int×Unit)×Unit×Unit→Option (((List α×Int×Int×Unit)×Unit×Unit)⊕(((Int×Int×Unit)×Unit×Unit)⊕((Int×Unit×Unit)×Unit×Unit)))} (G:α→Int→α) (w:α→Int) (ok:α→Prop)
  (hF: ∀ l n,F l n=(jD B ((l,n,0,()),(),())).bind fun e=>Sum.elim (fun e=>some (e.1.2.1,())) (fun e=>some (e.1.1,())) e)
  (hs: ∀ (l:List α) (n:Int) (k:Nat) (x:α),l[k]? =some (G x n)→l.length≤1048576→0≤n→n+w x≤900000000→ok x→B ((l,n,(k:Int),()),(),())=some (.inl ((l,n+w x,((k+1:Nat):Int),()),(),())))
  (he: ∀ (l:List α) (n:Int),B ((l,n,(l.length:Int),()),(),())=some (.inr (.inr ((n,(),()),(),()))))
  (hw: ∀ x,0≤w x) (l:List α) (n:Int) (hn:0≤n) (hn2:n+cq w l≤900000000) (hl:l.length≤1048576) (hok: ∀ x∈l,ok x):F (eU G w l n) n=some (n+cq w l,()):=by
 have hml:=fo G w l n
 have ca:=oQ (B:=B) l (fun k (_:Unit)=>((eU G w l n,n+cq w (l.take k),(k:Int),()),(),())) (fun _ _=>True) (fun _ _ _=> .inr ((n+cq w l,(),()),(),()))
  (fun b hb=>by
    have:=he (eU G w l n) (n+cq w l)
    rw [hml] at this
    rw [List.take_length]
    exact this)
  (fun k b x hx hb=>by
    have hk:=jK hx
    obtain⟨g1,g2,g3⟩:=Gr hw hx
    have hlt: (eU G w (l.take k) n).length=k:=by rw [fo,List.length_take]; omega
    have hg: (eU G w l n)[k]? =some (G x (n+cq w (l.take k))):=by
     have h1:l=l.take k++x::l.drop (k+1):=by
      have:=(List.take_append_drop k l).symm
      rw [List.drop_eq_getElem_cons hk] at this
      rw [List.getElem?_eq_getElem hk] at hx
      rw [Option.some.inj hx] at this
      exact this
     have h2:eU G w l n=eU G w (l.take k) n++(G x (n+cq w (l.take k))::eU G w (l.drop (k+1)) (n+cq w (l.take k)+w x)):=by
      conv=>lhs; rw [h1]
      rw [wj]
      rfl
     rw [h2,List.getElem?_append_right (by omega),hlt,Nat.sub_self]
     rfl
    refine .inl ⟨(),?_,trivial,rfl⟩
    rw [hs _ _ k x hg (by omega) (by omega) (by omega) (hok x (List.mem_of_getElem? hx)),g1,Int.add_assoc])
  0 () (Nat.zero_le _) trivial
 have h0:n+cq w (l.take 0)=n:=by simp [cq]
 rw [h0] at ca
 rw [hF,show jD B ((eU G w l n,n,0,()),(),())=_ from ca]
 rfl
def bo (l:List α):Int:=(l.length:Int)
def NY (F:α→Int→Option (Int×Unit)) (bd:α→Prop) (t:α→Int):Prop:= ∀ x left,bd x→0≤left→left≤1048576→ ∃ n,F x left=some (n,())∧n≤left∧(0≤n→n=left - t x)
theorem EK {F:List α→Int→Option (Int×Unit)} (hF: ∀ l left,F l left=br (decide (IntKind.wrap .i64 (left - (l.length:Int)) < 0)) (some (-1,())) (some (IntKind.wrap .i64 (left - (l.length:Int)),()))):NY F (fun l=>l.length≤maxLen) bo:=by
 intro l left hl h0 h1
 unfold maxLen at hl
 unfold bo
 rw [hF,eW (by omega) (by omega),az]
 split
 ·exact⟨_,rfl,by omega,fun h=>by omega⟩
 ·exact⟨_,rfl,by omega,fun h=>by omega⟩
theorem Ku {F:List α→Int→Option (Int×Unit)} {B: (List α×Int×Int×Unit)×Unit×Unit→Option (((List α×Int×Int×Unit)×Unit×Unit)⊕(((Int×Int×Unit)×Unit×Unit)⊕((Int×Unit×Unit)×Unit×Unit)))} (f:α→Int→Option (Int×Unit)) {bd:α→Prop} {t:α→Int} (hf:NY f bd t)
  (hF: ∀ l left,F l left=br (decide (IntKind.wrap .i64 (left - (l.length:Int)) < 0)) (some (-1,())) ((jD B ((l,IntKind.wrap .i64 (left - (l.length:Int)),0,()),(),())).bind fun e=>Sum.elim (fun e=>some (e.1.2.1,())) (fun e=>some (e.1.1,())) e))
  (hB: ∀ (l:List α) (v k:Int),B ((l,v,k,()),(),())=br (decide (k < (l.length:Int))) (ap (0≤k) ((l[k.toNat]?).bind fun x=>(f x v).bind fun y=>br (decide (y.1 < 0)) (some (.inr (.inl ((y.1,-1,()),(),())))) (some (.inl ((l,y.1,IntKind.wrap .i64 (k+1),()),(),())))) none) (some (.inr (.inr ((v,(),()),(),()))))):
  NY F (fun l=>l.length≤maxLen∧ ∀ x∈l,bd x) (fun l=>bo l+cq t l):=by
 intro l left hl h0 h1
 obtain⟨hl,hbd⟩:=hl
 have hl':=hl
 unfold maxLen at hl'
 rw [hF,eW (by omega) (by omega),az]
 split
 ·exact⟨_,rfl,by omega,fun h=>by omega⟩
 ·rename_i hge
  have ca:=xL (B:=B) (fun s=> ∃ (k:Nat) (v:Int),s=((l,v,(k:Int),()),(),())∧k≤l.length∧0≤v∧v≤left - (l.length:Int)∧v=left - (l.length:Int) - cq t (l.take k)) (fun s=>l.length - s.1.2.2.1.toNat)
   (fun e=>(∃ y,e= .inl ((y,-1,()),(),()))∨ ∃ v,e= .inr ((v,(),()),(),())∧v≤left - (l.length:Int)∧v=left - (l.length:Int) - cq t l)
   (fun s hs=>by
     obtain⟨k,v,rfl,hk,hv0,hv1,hsm⟩:=hs
     rw [hB,az]
     by_cases hlt:k < l.length
     ·rw [if_pos (by omega),eh (by omega),Int.toNat_natCast,List.getElem?_eq_getElem hlt,Option.bind_some]
      obtain⟨n,g1,g2,g3⟩:=hf l[k] v (hbd _ (List.getElem_mem _)) hv0 (by omega)
      rw [g1,Option.bind_some,az]
      split
      ·exact .inr ⟨_,rfl, .inl ⟨_,rfl⟩⟩
      ·have ht:cq t (l.take (k+1))=cq t (l.take k)+t l[k] :=by
        rw [List.take_add_one,List.getElem?_eq_getElem hlt,uQ]; simp [cq]
       have:=g3 (by omega)
       refine .inl ⟨_,rfl,⟨k+1,n,by rw [bU hl hlt],by omega,by omega,by omega,by omega⟩,?_⟩
       simp only [bU hl hlt,Int.toNat_natCast]
       omega
     ·rw [if_neg (by omega)]
      refine .inr ⟨_,rfl, .inr ⟨v,rfl,hv1,?_⟩⟩
      rw [hsm,List.take_of_length_le (by omega)])
   (s:=((l,left - (l.length:Int),0,()),(),())) ⟨0,_,rfl,Nat.zero_le _,by omega,by omega,by simp [cq]⟩
  obtain⟨e,h2,h3⟩:=ca
  rw [h2]
  rcases h3 with ⟨y,rfl⟩ | ⟨v,rfl,hv,hsm⟩
  ·exact⟨-1,rfl,by omega,fun h=>by omega⟩
  ·exact⟨v,rfl,by omega,fun h=>by simp only [bo]; omega⟩
end
def LR (c:ai):Int:=bo c.replicas+bo c.witnesses
def Q0 (s:ay):Int:=LR s.config+bo s.log+bo s.learned
def Tn (m:aw):Int:=bo m.configs+cq LR m.configs
def To (l:List ay):Int:=bo l+cq Q0 l
def Sg (c:aP):Int:=To c.servers+bo c.sides+Tn c.master+bo c.places
theorem iK {α:Type} (l:List α):0≤bo l:=by unfold bo; omega
theorem H9:NY nw (fun l=>l.length≤maxLen) bo:=EK (fun _ _=>rfl)
theorem Gs:NY kM (fun l=>l.length≤maxLen) bo:=EK (fun _ _=>rfl)
theorem NU:NY mB (fun l=>l.length≤maxLen) bo:=EK (fun _ _=>rfl)
theorem MH:NY fK (hM maxLen) LR:=by
 intro x left hb h0 h1
 unfold fK m8 LR
 obtain⟨n,g1,g2,g3⟩:=H9 x.replicas left hb.1 h0 h1
 simp only [g1,Option.bind_some,az]
 split
 ·exact⟨-1,rfl,by omega,fun h=>by omega⟩
 ·obtain⟨m,k1,k2,k3⟩:=H9 x.witnesses n hb.2 (by omega) (by omega)
  simp only [k1,Option.bind_some]
  have:=g3 (by omega)
  split
  ·exact⟨-1,rfl,by omega,fun h=>by omega⟩
  ·exact⟨m,rfl,by omega,fun h=>by have:=k3 h; omega⟩
theorem Q1:NY gE (o4 maxLen) Q0:=by
 intro x left hb h0 h1
 unfold gE m9 Q0
 obtain⟨n,g1,g2,g3⟩:=MH x.config left hb.1 h0 h1
 simp only [g1,Option.bind_some,az]
 split
 ·exact⟨-1,rfl,by omega,fun h=>by omega⟩
 ·obtain⟨m,k1,k2,k3⟩:=Gs x.log n hb.2.1 (by omega) (by omega)
  simp only [k1,Option.bind_some]
  have:=g3 (by omega)
  split
  ·exact⟨-1,rfl,by omega,fun h=>by omega⟩
  ·obtain⟨q,j1,j2,j3⟩:=Gs x.learned m hb.2.2 (by omega) (by omega)
   simp only [j1,Option.bind_some]
   have:=k3 (by omega)
   split
   ·exact⟨-1,rfl,by omega,fun h=>by omega⟩
   ·exact⟨q,rfl,by omega,fun h=>by have:=j3 h; omega⟩
theorem PM:NY kN (fun l=>l.length≤maxLen∧ ∀ s∈l,o4 maxLen s) To:=
 Ku (B:=fu) gE Q1 (fun _ _=>rfl) (fun _ _ _=>rfl)
theorem PN:NY kO (fun l=>l.length≤maxLen∧ ∀ s∈l,hM maxLen s) (fun l=>bo l+cq LR l):=
 Ku (B:=fv) fK MH (fun _ _=>rfl) (fun _ _ _=>rfl)
theorem Si:NY fw (Cj maxLen) Tn:=by
 intro x left hb h0 h1
 unfold fw je
 obtain⟨n,g1,g2,g3⟩:=PN x.configs left hb h0 h1
 simp only [g1,Option.bind_some,az]
 split
 ·exact⟨-1,rfl,by omega,fun h=>by omega⟩
 ·exact⟨n,rfl,by omega,g3⟩
theorem Sj:NY f7 (xd maxLen) Sg:=by
 intro x left hb h0 h1
 unfold f7 lD Sg
 obtain⟨n,g1,g2,g3⟩:=PM x.servers left hb.1 h0 h1
 simp only [g1,Option.bind_some,az]
 split
 ·exact⟨-1,rfl,by omega,fun h=>by omega⟩
 ·obtain⟨m,k1,k2,k3⟩:=H9 x.sides n hb.2.1 (by omega) (by omega)
  simp only [k1,Option.bind_some]
  have:=g3 (by omega)
  split
  ·exact⟨-1,rfl,by omega,fun h=>by omega⟩
  ·obtain⟨q,j1,j2,j3⟩:=Si x.master m hb.2.2.1 (by omega) (by omega)
   simp only [j1,Option.bind_some]
   have:=k3 (by omega)
   split
   ·exact⟨-1,rfl,by omega,fun h=>by omega⟩
   ·obtain⟨p,i1,i2,i3⟩:=NU x.places q hb.2.2.2 (by omega) (by omega)
    simp only [i1,Option.bind_some]
    have:=j3 (by omega)
    split
    ·exact⟨-1,rfl,by omega,fun h=>by omega⟩
    ·exact⟨p,rfl,by omega,fun h=>by have:=i3 h; omega⟩
theorem Ta (x:aP) (h:xd maxLen x): ∃ n,f7 x 1048576=some (n,())∧(0≤n→xd 1048576 x∧Sg x≤1048576∧n=1048576 - Sg x):=by
 obtain⟨n,g1,g2,g3⟩:=NM x 1048576 h (by decide) (Int.le_refl _)
 obtain⟨m,k1,k2,k3⟩:=Sj x 1048576 h (by decide) (Int.le_refl _)
 rw [g1] at k1
 simp only [Option.some.injEq,Prod.mk.injEq,and_true] at k1
 subst k1
 exact⟨n,g1,fun h=>⟨g3 h,by have:=k3 h; omega,k3 h⟩⟩
end Go.Proofs.YtkcgfceffffmoaaGreat.En
