/- Marks of rows that take more or less: written, and found again. Sizes, exactly. -/
import Derived.Test.YtkcgfceffffmoaaGreatZPV6
namespace Go.Proofs.YtkcgfceffffmoaaGreat.En
open Go
section
variable {α:Type}
def cI (w:α→Int):List α→Int
 | [] =>0
 | x::l=>w x+cI w l
def gZ (G:α→Int→α) (w:α→Int):List α→Int→List α
 | [],_=> []
 | x::l,n=>G x n::gZ G w l (n+w x)
theorem wV (w:α→Int) (a b:List α):cI w (a++b)=cI w a+cI w b:=by
 induction a with
 | nil=>simp [cI]
 | cons x a ih=>simp only [List.cons_append,cI,ih]; omega
theorem DC (G:α→Int→α) (w:α→Int) (a b:List α) (n:Int):gZ G w (a++b) n=gZ G w a n++gZ G w b (n+cI w a):=by
 induction a generalizing n with
 | nil=>simp [cI,gZ]
 | cons x a ih=>simp only [List.cons_append,gZ,cI,ih,Int.add_assoc]
theorem iv (G:α→Int→α) (w:α→Int) (l:List α) (n:Int): (gZ G w l n).length=l.length:=by
 induction l generalizing n with
 | nil=>rfl
 | cons x l ih=>simp only [gZ,List.length_cons,ih]
theorem wW {w:α→Int} (hw: ∀ x,0≤w x) (l:List α):0≤cI w l:=by
 induction l with
 | nil=>exact Int.le_refl _
 | cons x l ih=>have:=hw x; simp only [cI]; omega
theorem Ql {w:α→Int} (hw: ∀ x,0≤w x) {l:List α} {k:Nat} {x:α} (h:l[k]? =some x):cI w (l.take (k+1))=cI w (l.take k)+w x∧cI w (l.take k)+w x≤cI w l∧0≤cI w (l.take k):=by
 have h1:l.take (k+1)=l.take k++ [x] :=by rw [List.take_add_one,h]; rfl
 have h2:cI w (l.take (k+1))=cI w (l.take k)+w x:=by rw [h1,wV]; simp [cI]
 have h3:cI w l=cI w (l.take (k+1))+cI w (l.drop (k+1)):=by rw [←wV,List.take_append_drop]
 have h4:=wW hw (l.drop (k+1))
 have h5:=wW hw (l.take k)
 exact⟨h2,by omega,h5⟩
theorem EW (c:Int) (l:List α):cI (fun _=>c) l=c*(l.length:Int):=by
 induction l with
 | nil=>simp [cI]
 | cons x l ih=>simp only [cI,ih,List.length_cons,Int.natCast_add,Int.mul_add]; omega
theorem BV {F:List α→Int→Option (List α×Int×Unit)} {B: (Unit×Int×Int×Unit)×Unit×(List α×Unit)→Option (((Unit×Int×Int×Unit)×Unit×(List α×Unit))⊕((Int×Unit)×Unit×(List α×Unit)))} (G:α→Int→α) (w:α→Int) (ok:α→Prop)
  (hF: ∀ l n,F l n=(ko B (((),n,0,()),(),(l,()))).bind fun e=>some (e.2.2.1,e.1.1,()))
  (hs: ∀ (l:List α) (n:Int) (k:Nat) (x:α),l[k]? =some x→l.length≤1048576→0≤n→n+w x≤900000000→ok x→B (((),n,(k:Int),()),(),(l,()))=some (.inl (((),n+w x,((k+1:Nat):Int),()),(),(l.set k (G x n),()))))
  (he: ∀ (l:List α) (n:Int),B (((),n,(l.length:Int),()),(),(l,()))=some (.inr ((n,()),(),(l,()))))
  (hw: ∀ x,0≤w x) (l:List α) (n:Int) (hn:0≤n) (hn2:n+cI w l≤900000000) (hl:l.length≤1048576) (hok: ∀ x∈l,ok x):F l n=some (gZ G w l n,n+cI w l,()):=by
 have bU:=li (B:=B) l (fun k (b:List α)=>(((),n+cI w (l.take k),(k:Int),()),(),(b,()))) (fun k b=>b=gZ G w (l.take k) n++l.drop k) (fun _ _ _=>((n+cI w l,()),(),(gZ G w l n,())))
  (fun b hb=>by
    have hb:b=gZ G w l n:=by rw [hb,List.drop_length,List.append_nil,List.take_length]
    have:=he b (n+cI w l)
    rw [hb,iv] at this
    rw [hb,List.take_length]
    exact this)
  (fun k b x hx hb=>by
    have hk:=jE hx
    have hlt: (gZ G w (l.take k) n).length=k:=by rw [iv,List.length_take]; omega
    have hbl:b.length=l.length:=by rw [hb,List.length_append,hlt,List.length_drop]; omega
    obtain⟨g1,g2,g3⟩:=Ql hw hx
    have hd:l.drop k=x::l.drop (k+1):=by
     rw [List.drop_eq_getElem_cons hk]
     rw [List.getElem?_eq_getElem hk] at hx
     rw [Option.some.inj hx]
    have hbx:b[k]? =some x:=by
     rw [hb,List.getElem?_append_right (by omega),hlt,Nat.sub_self,hd]
     rfl
    refine .inl ⟨b.set k (G x (n+cI w (l.take k))),?_,?_,rfl⟩
    ·rw [hs b _ k x hbx (by omega) (by omega) (by omega) (hok x (List.mem_of_getElem? hx)),g1,Int.add_assoc]
    ·have h1:l.take (k+1)=l.take k++ [x] :=by rw [List.take_add_one,hx]; rfl
     rw [hb,h1,DC,List.append_assoc,List.set_append_right _ _ (by omega),hlt,Nat.sub_self,hd]
     rfl)
  0 l (Nat.zero_le _) (by simp [gZ])
 have h0:n+cI w (l.take 0)=n:=by simp [cI]
 rw [h0] at bU
 rw [hF,show ko B (((),n,0,()),(),(l,()))=_ from bU]
 rfl
theorem BW {F:List α→Int→Option (Int×Unit)} {B: (List α×Int×Int×Unit)×Unit×Unit→Option (((List α×Int×Int×Unit)×Unit×Unit)⊕(((Int×Int×Unit)×Unit×Unit)⊕((Int×Unit×Unit)×Unit×Unit)))} (G:α→Int→α) (w:α→Int) (ok:α→Prop)
  (hF: ∀ l n,F l n=(ko B ((l,n,0,()),(),())).bind fun e=>Sum.elim (fun e=>some (e.1.2.1,())) (fun e=>some (e.1.1,())) e)
  (hs: ∀ (l:List α) (n:Int) (k:Nat) (x:α),l[k]? =some (G x n)→l.length≤1048576→0≤n→n+w x≤900000000→ok x→B ((l,n,(k:Int),()),(),())=some (.inl ((l,n+w x,((k+1:Nat):Int),()),(),())))
  (he: ∀ (l:List α) (n:Int),B ((l,n,(l.length:Int),()),(),())=some (.inr (.inr ((n,(),()),(),()))))
  (hw: ∀ x,0≤w x) (l:List α) (n:Int) (hn:0≤n) (hn2:n+cI w l≤900000000) (hl:l.length≤1048576) (hok: ∀ x∈l,ok x):F (gZ G w l n) n=some (n+cI w l,()):=by
 have hml:=iv G w l n
 have bU:=li (B:=B) l (fun k (_:Unit)=>((gZ G w l n,n+cI w (l.take k),(k:Int),()),(),())) (fun _ _=>True) (fun _ _ _=> .inr ((n+cI w l,(),()),(),()))
  (fun b hb=>by
    have:=he (gZ G w l n) (n+cI w l)
    rw [hml] at this
    rw [List.take_length]
    exact this)
  (fun k b x hx hb=>by
    have hk:=jE hx
    obtain⟨g1,g2,g3⟩:=Ql hw hx
    have hlt: (gZ G w (l.take k) n).length=k:=by rw [iv,List.length_take]; omega
    have hg: (gZ G w l n)[k]? =some (G x (n+cI w (l.take k))):=by
     have h1:l=l.take k++x::l.drop (k+1):=by
      have:=(List.take_append_drop k l).symm
      rw [List.drop_eq_getElem_cons hk] at this
      rw [List.getElem?_eq_getElem hk] at hx
      rw [Option.some.inj hx] at this
      exact this
     have h2:gZ G w l n=gZ G w (l.take k) n++(G x (n+cI w (l.take k))::gZ G w (l.drop (k+1)) (n+cI w (l.take k)+w x)):=by
      conv=>lhs; rw [h1]
      rw [DC]
      rfl
     rw [h2,List.getElem?_append_right (by omega),hlt,Nat.sub_self]
     rfl
    refine .inl ⟨(),?_,trivial,rfl⟩
    rw [hs _ _ k x hg (by omega) (by omega) (by omega) (hok x (List.mem_of_getElem? hx)),g1,Int.add_assoc])
  0 () (Nat.zero_le _) trivial
 have h0:n+cI w (l.take 0)=n:=by simp [cI]
 rw [h0] at bU
 rw [hF,show ko B ((gZ G w l n,n,0,()),(),())=_ from bU]
 rfl
def bE (l:List α):Int:=(l.length:Int)
def Yw (F:α→Int→Option (Int×Unit)) (bd:α→Prop) (t:α→Int):Prop:= ∀ x left,bd x→0≤left→left≤1048576→ ∃ n,F x left=some (n,())∧n≤left∧(0≤n→n=left - t x)
theorem NQ {F:List α→Int→Option (Int×Unit)} (hF: ∀ l left,F l left=br (decide (IntKind.wrap .i64 (left - (l.length:Int)) < 0)) (some (-1,())) (some (IntKind.wrap .i64 (left - (l.length:Int)),()))):Yw F (fun l=>l.length≤maxLen) bE:=by
 intro l left hl h0 h1
 unfold maxLen at hl
 unfold bE
 rw [hF,ec (by omega) (by omega),aw]
 split
 ·exact⟨_,rfl,by omega,fun h=>by omega⟩
 ·exact⟨_,rfl,by omega,fun h=>by omega⟩
theorem UQ {F:List α→Int→Option (Int×Unit)} {B: (List α×Int×Int×Unit)×Unit×Unit→Option (((List α×Int×Int×Unit)×Unit×Unit)⊕(((Int×Int×Unit)×Unit×Unit)⊕((Int×Unit×Unit)×Unit×Unit)))} (f:α→Int→Option (Int×Unit)) {bd:α→Prop} {t:α→Int} (hf:Yw f bd t)
  (hF: ∀ l left,F l left=br (decide (IntKind.wrap .i64 (left - (l.length:Int)) < 0)) (some (-1,())) ((ko B ((l,IntKind.wrap .i64 (left - (l.length:Int)),0,()),(),())).bind fun e=>Sum.elim (fun e=>some (e.1.2.1,())) (fun e=>some (e.1.1,())) e))
  (hB: ∀ (l:List α) (v k:Int),B ((l,v,k,()),(),())=br (decide (k < (l.length:Int))) (aq (0≤k) ((l[k.toNat]?).bind fun x=>(f x v).bind fun y=>br (decide (y.1 < 0)) (some (.inr (.inl ((y.1,-1,()),(),())))) (some (.inl ((l,y.1,IntKind.wrap .i64 (k+1),()),(),())))) none) (some (.inr (.inr ((v,(),()),(),()))))):
  Yw F (fun l=>l.length≤maxLen∧ ∀ x∈l,bd x) (fun l=>bE l+cI t l):=by
 intro l left hl h0 h1
 obtain⟨hl,hbd⟩:=hl
 have hl':=hl
 unfold maxLen at hl'
 rw [hF,ec (by omega) (by omega),aw]
 split
 ·exact⟨_,rfl,by omega,fun h=>by omega⟩
 ·rename_i hge
  have bU:=Fq (B:=B) (fun s=> ∃ (k:Nat) (v:Int),s=((l,v,(k:Int),()),(),())∧k≤l.length∧0≤v∧v≤left - (l.length:Int)∧v=left - (l.length:Int) - cI t (l.take k)) (fun s=>l.length - s.1.2.2.1.toNat)
   (fun e=>(∃ y,e= .inl ((y,-1,()),(),()))∨ ∃ v,e= .inr ((v,(),()),(),())∧v≤left - (l.length:Int)∧v=left - (l.length:Int) - cI t l)
   (fun s hs=>by
     obtain⟨k,v,rfl,hk,hv0,hv1,hsm⟩:=hs
     rw [hB,aw]
     by_cases hlt:k < l.length
     ·rw [if_pos (by omega),fm (by omega),Int.toNat_natCast,List.getElem?_eq_getElem hlt,Option.bind_some]
      obtain⟨n,g1,g2,g3⟩:=hf l[k] v (hbd _ (List.getElem_mem _)) hv0 (by omega)
      rw [g1,Option.bind_some,aw]
      split
      ·exact .inr ⟨_,rfl, .inl ⟨_,rfl⟩⟩
      ·have ht:cI t (l.take (k+1))=cI t (l.take k)+t l[k] :=by
        rw [List.take_add_one,List.getElem?_eq_getElem hlt,wV]; simp [cI]
       have:=g3 (by omega)
       refine .inl ⟨_,rfl,⟨k+1,n,by rw [bF hl hlt],by omega,by omega,by omega,by omega⟩,?_⟩
       simp only [bF hl hlt,Int.toNat_natCast]
       omega
     ·rw [if_neg (by omega)]
      refine .inr ⟨_,rfl, .inr ⟨v,rfl,hv1,?_⟩⟩
      rw [hsm,List.take_of_length_le (by omega)])
   (s:=((l,left - (l.length:Int),0,()),(),())) ⟨0,_,rfl,Nat.zero_le _,by omega,by omega,by simp [cI]⟩
  obtain⟨e,h2,h3⟩:=bU
  rw [h2]
  rcases h3 with ⟨y,rfl⟩ | ⟨v,rfl,hv,hsm⟩
  ·exact⟨-1,rfl,by omega,fun h=>by omega⟩
  ·exact⟨v,rfl,by omega,fun h=>by simp only [bE]; omega⟩
end
def EX (c:ai):Int:=bE c.replicas+bE c.witnesses
def BX (s:am):Int:=EX s.config+bE s.log+bE s.learned
def tMl (m:ak):Int:=bE m.configs+cI EX m.configs
def tSs (l:List am):Int:=bE l+cI BX l
def Pz (c:aj):Int:=tSs c.servers+bE c.sides+tMl c.master+bE c.places
theorem ja {α:Type} (l:List α):0≤bE l:=by unfold bE; omega
theorem Sb (c:ai):0≤EX c:=by unfold EX bE; omega
theorem Xc (s:am):0≤BX s:=by have:=Sb s.config; unfold BX bE; omega
theorem Sc:Yw sw (fun l=>l.length≤maxLen) bE:=NQ (fun _ _=>rfl)
theorem Qm:Yw oX (fun l=>l.length≤maxLen) bE:=NQ (fun _ _=>rfl)
theorem Yn:Yw rz (fun l=>l.length≤maxLen) bE:=NQ (fun _ _=>rfl)
theorem Xd:Yw jc (iA maxLen) EX:=by
 intro x left hb h0 h1
 unfold jc rU EX
 obtain⟨n,g1,g2,g3⟩:=Sc x.replicas left hb.1 h0 h1
 simp only [g1,Option.bind_some,aw]
 split
 ·exact⟨-1,rfl,by omega,fun h=>by omega⟩
 ·obtain⟨m,k1,k2,k3⟩:=Sc x.witnesses n hb.2 (by omega) (by omega)
  simp only [k1,Option.bind_some]
  have:=g3 (by omega)
  split
  ·exact⟨-1,rfl,by omega,fun h=>by omega⟩
  ·exact⟨m,rfl,by omega,fun h=>by have:=k3 h; omega⟩
theorem abA:Yw kp (kS maxLen) BX:=by
 intro x left hb h0 h1
 unfold kp rV BX
 obtain⟨n,g1,g2,g3⟩:=Xd x.config left hb.1 h0 h1
 simp only [g1,Option.bind_some,aw]
 split
 ·exact⟨-1,rfl,by omega,fun h=>by omega⟩
 ·obtain⟨m,k1,k2,k3⟩:=Qm x.log n hb.2.1 (by omega) (by omega)
  simp only [k1,Option.bind_some]
  have:=g3 (by omega)
  split
  ·exact⟨-1,rfl,by omega,fun h=>by omega⟩
  ·obtain⟨q,j1,j2,j3⟩:=Qm x.learned m hb.2.2 (by omega) (by omega)
   simp only [j1,Option.bind_some]
   have:=k3 (by omega)
   split
   ·exact⟨-1,rfl,by omega,fun h=>by omega⟩
   ·exact⟨q,rfl,by omega,fun h=>by have:=j3 h; omega⟩
theorem aae:Yw oY (fun l=>l.length≤maxLen∧ ∀ s∈l,kS maxLen s) tSs:=
 UQ (B:=iC) kp abA (fun _ _=>rfl) (fun _ _ _=>rfl)
theorem aaf:Yw oZ (fun l=>l.length≤maxLen∧ ∀ s∈l,iA maxLen s) (fun l=>bE l+cI EX l):=
 UQ (B:=iE) jc Xd (fun _ _=>rfl) (fun _ _ _=>rfl)
theorem acU:Yw iG (AE maxLen) tMl:=by
 intro x left hb h0 h1
 unfold iG mq
 obtain⟨n,g1,g2,g3⟩:=aaf x.configs left hb h0 h1
 simp only [g1,Option.bind_some,aw]
 split
 ·exact⟨-1,rfl,by omega,fun h=>by omega⟩
 ·exact⟨n,rfl,by omega,g3⟩
theorem acV:Yw jM (rl maxLen) Pz:=by
 intro x left hb h0 h1
 unfold jM pX Pz
 obtain⟨n,g1,g2,g3⟩:=aae x.servers left hb.1 h0 h1
 simp only [g1,Option.bind_some,aw]
 split
 ·exact⟨-1,rfl,by omega,fun h=>by omega⟩
 ·obtain⟨m,k1,k2,k3⟩:=Sc x.sides n hb.2.1 (by omega) (by omega)
  simp only [k1,Option.bind_some]
  have:=g3 (by omega)
  split
  ·exact⟨-1,rfl,by omega,fun h=>by omega⟩
  ·obtain⟨q,j1,j2,j3⟩:=acU x.master m hb.2.2.1 (by omega) (by omega)
   simp only [j1,Option.bind_some]
   have:=k3 (by omega)
   split
   ·exact⟨-1,rfl,by omega,fun h=>by omega⟩
   ·obtain⟨p,i1,i2,i3⟩:=Yn x.places q hb.2.2.2 (by omega) (by omega)
    simp only [i1,Option.bind_some]
    have:=j3 (by omega)
    split
    ·exact⟨-1,rfl,by omega,fun h=>by omega⟩
    ·exact⟨p,rfl,by omega,fun h=>by have:=i3 h; omega⟩
theorem adK (x:aj) (h:rl maxLen x): ∃ n,jM x 1048576=some (n,())∧(0≤n→rl 1048576 x∧Pz x≤1048576∧n=1048576 - Pz x):=by
 obtain⟨n,g1,g2,g3⟩:=Yh x 1048576 h (by decide) (Int.le_refl _)
 obtain⟨m,k1,k2,k3⟩:=acV x 1048576 h (by decide) (Int.le_refl _)
 rw [g1] at k1
 simp only [Option.some.injEq,Prod.mk.injEq,and_true] at k1
 subst k1
 exact⟨n,g1,fun h=>⟨g3 h,by have:=k3 h; omega,k3 h⟩⟩
end Go.Proofs.YtkcgfceffffmoaaGreat.En
