import Derived.Test.YtkghndikalnipaaGreatZX2
set_option linter.unusedSimpArgs false
set_option linter.unusedVariables false
namespace Go.Proofs.YtkghndikalnipaaGreat.En
section
open Go Go.RowKit
section
variable {P:Program} {w0 w w':World} {W:Nat->Prop} {bt:Bt} {S:St} {a:Act} {A:Nat->Prop}
theorem vD[dE](hI:eh w0 W bt S w){A:Nat->Prop}(hA: ∀p s rs,S.look p= .sl s rs->0<bt.κ p->A (bt.β p).1): ∀ (n:Nat) (p:dM) (t:T) (u:Value),SizeOf.sizeOf t<=n->HR bt p t u->u.oneCell'=true->(∀s rs,t= .sl s rs->S.look p= .sl s rs)->RO w A t u:=by
 intro n
 induction n with
 |zero=>intro p t u hn;cases t<;>simp at hn
 |succ n ih=>
  intro p t u hn h ho hl;cases h with
  |sc h=>exact .sc h
  |dd=>exact .dd ho
  |sl hc hk ha=>
   rename_i sz rows ad cap;rcases bo rows.length with h0|h0
   ·have :rows= [] :=bc h0;subst this;exact .em _ _ _
   ·have hlook:=hl _ _ rfl;obtain⟨_,arr,e,g1,g2,g3,g4⟩:=(hI.tr _ _ _ hlook).2 (by omega);rw[ha (by omega)]
    have each: ∀ (i:Nat) (r:List T) (j:Nat) (x:T),rows[i]? =some r->r[j]? =some x-> ∃c,arr[(bt.β p).2+(i*sz+j)]? =some c/\HR bt (p.sub i j) x c:=by intro i r j x hi hj;exact (g4 i r hi).2 j x hj
    refine .sl (λi j=>(arr[(bt.β p).2+(i*sz+j)]?).getD undef) hc rfl (hA _ _ _ hlook (by omega)) (λi r hi=>(g4 i r hi).1) (λi r j x hi hj=> ?_) (λi r j x hi hj=> ?_)
    ·obtain⟨c,k1,_⟩:=each i r j x hi hj;rw[add_lit,gq g1,k1];rfl
    ·obtain⟨c,k1,k2⟩:=each i r j x hi hj;rw[k1];refine ih (p.sub i j) x c ?_ k2 (g3 _ _ k1) (λs rs hx=> ?_)
     ·have h1:SizeOf.sizeOf x<SizeOf.sizeOf r:=List.sizeOf_lt_of_mem (aA hj);have h2:SizeOf.sizeOf r<SizeOf.sizeOf rows:=List.sizeOf_lt_of_mem (aA hi);simp at hn;omega
     ·unfold St.look at hlook ⊢;split at hlook
      ·rename_i t ht;show (match S.gh p.r with |some t=>t.go (p.l++ [(i,j)])|none=> .dd)=_
       grind [T.go_append,T.go,T.cell]
      ·cases hlook
theorem uz[dE](hI:eh w0 W bt S w){A:Nat->Prop}(hA: ∀p s rs,S.look p= .sl s rs->0<bt.κ p->A (bt.β p).1){p:dM}{s lo len:Nat}{rows:List (List T)}{u:Value}(h:VR w bt (.own p s lo len) u)(hr:S.rows p s=some rows)(hle:lo+len<=rows.length):
  RO w A (.sl s ((rows.drop lo).take len)) u:=by
 have hlook:=fw hr;cases h with
 |own hp hc hk ha=>
  rename_i ad cap;have hlen: ((rows.drop lo).take len).length=len:=by simp;omega
  rcases bo len with h0|h0
  ·subst h0;simp only[dw];exact .em _ _ _
  ·obtain⟨_,arr,e,g1,g2,g3,g4⟩:=(hI.tr _ _ _ hlook).2 (by omega);rw[ha (by omega)]
   have sub: ∀ (i:Nat) (r:List T),((rows.drop lo).take len)[i]? =some r->rows[lo+i]? =some r:=by
    intro i r hi;rw[bn] at hi;split at hi
    ·rwa [bh] at hi
    ·cases hi
   have fB:RO w A (.sl s ((rows.drop lo).take len)) (.slice (some ⟨(bt.β p).1,(bt.β p).2+lo*s,none⟩) ((rows.drop lo).take len).length cap):=by
    refine .sl (λi j=>(arr[(bt.β p).2+((lo+i)*s+j)]?).getD undef) (by omega) rfl (hA _ _ _ hlook (by omega)) (λi r hi=>(g4 _ r (sub i r hi)).1) (λi r j x hi hj=> ?_) (λi r j x hi hj=> ?_)
    ·obtain⟨c,k1,_⟩:=(g4 _ r (sub i r hi)).2 j x hj;rw[add_lit,gq g1,show (bt.β p).2+lo*s+(i*s+j)=(bt.β p).2+((lo+i)*s+j) by rw[bB];omega,k1];rfl
    ·obtain⟨c,k1,k2⟩:=(g4 _ r (sub i r hi)).2 j x hj;rw[k1];refine vD hI hA _ (p.sub (lo+i) j) x c (az _) k2 (g3 _ _ k1) (λs' rs hx=> ?_);unfold St.look at hlook ⊢;split at hlook
     ·rename_i t ht;show (match S.gh p.r with |some t=>t.go (p.l++ [(lo+i,j)])|none=> .dd)=_
      grind [T.go_append,T.go,T.cell]
     ·cases hlook
   rw[hlen] at fB;exact fB
structure mM (bt:Bt) (S:St) (A:Nat->Prop):Prop where
 h1: ∀b,bt.A b->A b
 h2: ∀p s rs,S.look p= .sl s rs->0<bt.κ p->A (bt.β p).1
 h3: ∀n cs,S.bx n=some cs->A (bt.bb n)
theorem mM.le(h:mM bt S A):bt.le { bt with A:=A } :=⟨az _,az _,h.h1,λ_ _=>rfl,λ_ _=>rfl,λ_ _=>rfl⟩
theorem xW[dE](hI:eh w0 W bt S w)(hA:mM bt S A){v:AV}{u:Value}(sz:Nat)(h:VR w bt v u)(ho:u.oneCell'=true):RO w A (T.ofAV S sz v) u:=by
 cases v with
 |sc v=>cases h with |sc h=>exact .sc h
 |em=>cases h with |em a=>exact .em _ _ _
 |ro s rows=>cases h with |ro h=>exact h.mono (hA.h1) (λ_ _=>rfl)
 |own p s lo len=>
  simp only[T.ofAV];split
  ·split
   ·exact uz hI hA.h2 h ‹_› ‹_›
   ·exact .dd ho
  ·exact .dd ho
 | _=>exact .dd ho
theorem jm[dE](hI:eh w0 W bt S w)(hA:mM bt S A){v:AV}{u:Value}(sz:Nat)(h:VR w bt v u):VR w { bt with A:=A } (eC S sz v) u:=by
 cases v with
 |sc v=>exact h.mono hA.le (λ_ _=>rfl)
 |em=>cases h with |em a=>exact .ro (.em _ _ _)
 |ro s rows=>exact h.mono hA.le (λ_ _=>rfl)
 |pro cells=>exact h.mono hA.le (λ_ _=>rfl)
 |own p s lo len=>
  simp only[eC];split
  ·split
   ·exact .ro (uz hI hA.h2 h ‹_› ‹_›)
   ·exact .dead _
  ·exact .dead _
 |ptrB b j=>
  simp only[eC];split
  ·rename_i cs hb;cases h with
   |ptrB j hn=>
    obtain⟨_,_,arr,e,g1,g2,g3⟩:=hI.bx _ _ hb;refine .pro (λk=>(arr[j+k]?).getD undef) rfl (hA.h3 _ _ hb) (λk x hk=> ?_) (λk x hk=> ?_)
    ·rw[aw] at hk;simp only[aj] at hk;obtain⟨v,hv,rfl⟩:=hk;rw[bh] at hv;obtain⟨c,k1,k2,k3⟩:=g3 _ _ hv;rw[add_lit,gq g1,k1];rfl
    ·rw[aw] at hk;simp only[aj] at hk;obtain⟨v,hv,rfl⟩:=hk
     grind [xW]
  ·exact .dead _
 |ptrT p s i j=>
  simp only[eC];split
  ·rename_i rows hr;have hlook:=fw hr;cases h with
   |ptrT s i j hp hk=>
    obtain⟨_,arr,e,g1,g2,g3,g4⟩:=(hI.tr _ _ _ hlook).2 (by omega)
    have each: ∀ (k:Nat) (x:T),((rows.getD i []).drop j)[k]? =some x-> ∃r c,rows[i]? =some r/\r[j+k]? =some x/\arr[(bt.β p).2+(i*s+j)+k]? =some c/\HR bt (p.sub i (j+k)) x c:=by
     intro k x hx;rw[bh] at hx;cases hr':rows[i]? with
     |none=>simp[hr'] at hx
     |some r=>grind
    refine .pro (λk=>(arr[(bt.β p).2+(i*s+j)+k]?).getD undef) rfl (hA.h2 _ _ _ hlook (by omega)) (λk x hx=> ?_) (λk x hx=> ?_)
    ·obtain⟨r,c,k0,k1,k2,k3⟩:=each k x hx;rw[add_lit,gq g1,k2];rfl
    ·obtain⟨r,c,k0,k1,k2,k3⟩:=each k x hx;rw[k2];refine vD hI hA.h2 _ (p.sub i (j+k)) x c (az _) k3 (g3 _ _ k2) (λs' rs hxx=> ?_);unfold St.look at hlook ⊢;split at hlook
     ·rename_i t ht;show (match S.gh p.r with |some t=>t.go (p.l++ [(i,j+k)])|none=> .dd)=_
      grind [T.go_append,T.go,T.cell]
     ·cases hlook
  ·exact .dead _
 | _=>exact .dead _
theorem wE[dE](hI:eh w0 W bt S w)(hA:mM bt S A){v:AV}{u:Value}(szs:List Nat)(h:VR w bt v u):VR w { bt with A:=A } (fk S szs v) u:=by
 cases v with
 |agg cs=>
  simp only[fk];split
  ·rename_i hl;cases h with
   |agg hl' ho hr=>
    rename_i us;refine .agg (by simp[hl,hl']) ho (λk c u h1 h2=> ?_)
    grind [jm]
  ·exact .dead _
 |fn f caps=>
  cases h with
  |fn f hl hr=>rename_i us;refine .fn f (by simp[hl]) (λk c u h1 h2=> ?_);rw[aw] at h1;simp only[aj] at h1;obtain⟨c',e1,rfl⟩:=h1;exact jm hI hA 0 (hr k c' u e1 h2)
 |em=>cases h with |em a=>exact .em a
 | _=>exact jm hI hA (szs.headD 0) h
def BL(bt:Bt)(w:World):Bt:={ bt with A:=λb=>b<w.heap.size }
theorem yB[dE](hI:eh w0 W bt S w):mM bt S (λb=>b<w.heap.size):=⟨hI.alt,λ_ _ _ h hk=>hI.βlt h hk,λ_ _ h=>hI.bblt h⟩
def eV[dE](P:Program)(f:FuncId)(args:List AV)(gs:List T)(m:Nat)(res:AV)(out:List T):Prop:=
 ∀ (w:World) (W:Nat->Prop) (bt0:Bt) (vals:List Value),eh w W bt0 (gv gs) w->vals.length=args.length->(∀ (k:Nat) (v:AV) (u:Value),args[k]? =some v->vals[k]? =some u->VR w bt0 v u)->
   (callFunc f vals.toArray).run P w= .ok (.enter f vals.toArray) w/\
   Calls P f vals.toArray w λe w'=> ∃v btn,e= .returned v/\eh w W btn (gv out) w'/\m<=out.length/\(∀p:dM,p.r<m->btn.β p=bt0.β p/\btn.κ p=bt0.κ p)/\VR w' btn res v
abbrev ig[dE](P:Program)(f:FuncId)(args:List AV)(gs:List T)(res:AV)(out:List T):Prop:=eV P f args gs gs.length res out
def fr[dE](P:Program)(D:iC):Prop:=∀d f args gs res out,D d f args gs=some (res,out)->ig P f args gs res out
theorem fL(p:dM)(s:Nat)(rs:List (List T)): (gv []).look p≠ .sl s rs:=by simp[St.look,gv]
theorem vl[dE]{w:World}(hg:tO w λ_=>False)(bt:Bt)(hA: ∀b,bt.A b->b<w.heap.size):eh w (λ_=>False) { bt with nb:=0,ng:=0 } (gv []) w:=
 { good:=hg,os:=rfl,tape:=rfl,output:=rfl,size:=az _,keep:=λ_ _ _=>rfl,nb:=rfl,ng:=rfl
   bx:=λn cells h=>by cases h
   gh:=λr t h=>by simp[gv] at h
   tr:=λp s rs h=>absurd h (fL p s rs)
   inj:=λp q s rs s' rs' h=>absurd h (fL p s rs)
   bbinj:=λn m cs cs' h=>by cases h
   bbtr:=λn cs p s rs h=>by cases h
   alt:=hA
   atr:=λp s rs h=>absurd h (fL p s rs)
   abb:=λn cs h=>by cases h }
def AV.ro0:AV->Bool
 | .sc _| .em| .ro _ _| .pro _| .dead=>true
 | _=>false
def AV.readOnly:AV->Bool
 | .agg cs=>cs.all AV.ro0
 | .fn _ cs=>cs.all AV.ro0
 |v=>v.ro0
theorem VR.readOnly0{bt':Bt}(hA:bt'.A=bt.A){v:AV}{u:Value}(h:VR w bt v u)(hr:v.ro0=true):VR w bt' v u:=by
 cases h with
 |sc h=>exact .sc h
 |em a=>exact .em a
 |ro h=>exact .ro (by rw[hA];exact h)
 |pro cs hs hb hc ht=>exact .pro cs hs (by rw[hA];exact hb) hc (λj x hx=>by rw[hA];exact ht j x hx)
 |dead u=>exact .dead u
 | _=>simp[AV.ro0] at hr
theorem VR.readOnly{bt':Bt}(hA:bt'.A=bt.A){v:AV}{u:Value}(h:VR w bt v u)(hr:v.readOnly=true):VR w bt' v u:=by
 cases v with
 |agg cs=>
  cases h with
  |agg hl ho hc=>exact .agg hl ho (λk c u h1 h2=>(hc k c u h1 h2).readOnly0 hA (ay.1 hr c (aA h1)))
 |fn f cs=>
  cases h with
  |fn f hl hc=>exact .fn f hl (λk c u h1 h2=>(hc k c u h1 h2).readOnly0 hA (ay.1 hr c (aA h1)))
 | _=>exact h.readOnly0 hA hr
theorem ko(S:St)(sz:Nat)(v:AV): (eC S sz v).ro0=true:=by cases v<;>simp only[eC]<;>(try split)<;>(try split)<;>rfl
theorem qZ{v:AV}(h:v.ro0=true):v.readOnly=true:=by cases v<;>first |exact h|simp[AV.ro0] at h
theorem yk(S:St)(szs:List Nat)(v:AV): (fk S szs v).readOnly=true:=by
 have one: ∀ {v:AV},v.ro0=true->v.readOnly=true:=by intro v h;cases v<;>first |exact h|simp[AV.ro0] at h
 cases v with
 |agg cs=>
  simp only[fk];split
  ·refine ay.2 (λc hc=> ?_);obtain⟨k,hk,rfl⟩:=aU hc
   grind [ko]
  ·rfl
 |fn f caps=>simp only[fk];refine ay.2 (λc hc=> ?_);obtain⟨d,_,rfl⟩:=aG.1 hc;exact ko _ _ _
 |em=>rfl
 | _=>grind [fk,ko]
def jt(P:Program)(S:St)(ts:List TypeId)(as:List Operand)(caps:List AV):List AV:=
 List.zipWith (λt a=>fk S (gk P 9 t) (opd S a)) ts as++caps.map (eC S 0)
theorem rt[dE](hI:eh w0 W bt S w)(hE:ER w bt S a)(hA:mM bt S A){bt':Bt}(hA':bt'.A=A){ts:List TypeId}{as:List Operand}{caps:List AV}{us:List Value}(hts:ts.length=as.length)(hl:us.length=caps.length)
  (hc: ∀ (k:Nat) (c:AV) (u:Value),caps[k]? =some c->us[k]? =some u->VR w bt c u):
  (as.map a.eval++us).length=(jt P S ts as caps).length/\ ∀ (k:Nat) (v:AV) (u:Value),(jt P S ts as caps)[k]? =some v->(as.map a.eval++us)[k]? =some u->VR w bt' v u:=by
 have l1: (List.zipWith (λt x=>fk S (gk P 9 t) (opd S x)) ts as).length=as.length:=by simp[hts]
 refine⟨by simp[jt,hts,hl],λk v u h1 h2=> ?_⟩;unfold jt at h1;by_cases hk:k<as.length
 ·rw[aW (by omega)] at h1;rw[aW (by simpa using hk),aw] at h2;rw[bi] at h1;split at h1
  ·rename_i t x e1 e2;simp only[af] at h1;rw[e2] at h2;simp only[aF,af] at h2;subst h1 h2;exact VR.readOnly (bt:={ bt with A:=A }) hA' (wE hI hA _ (dP hE x)) (yk _ _ _)
  ·cases h1
 ·rw[be (by omega),l1,aw] at h1;rw[be (by simp;omega)] at h2;simp only[aH] at h2;simp only[aj] at h1;obtain⟨c,e1,rfl⟩:=h1;exact VR.readOnly (bt:={ bt with A:=A }) hA' (jm hI hA 0 (hc _ c u e1 h2)) (qZ (ko _ _ _))
end
end
section
open Go Go.RowKit
section
variable {P:Program} {w0 w w':World} {W:Nat->Prop} {bt btn:Bt} {S:St} {a:Act}
theorem i9[dE]{out:List T}(hC:eh w (λ_=>False) btn (gv out) w'):Below w.heap.size w w':=
 ⟨hC.os,hC.tape,hC.output,hC.size,λk hk=>hC.keep k hk (λh=>h)⟩
theorem tf{k n:Nat}(hng:btn.ng=k)(hn:bt.ng=n){v:AV}{u:Value}(h:VR w' btn v u):VR w' (bt.add btn k) (shift n v) u:=by
 have one: ∀ {v u},VR w' btn v u->VR w' (bt.add btn k) (fp n v) u:=by
  intro v u h;cases h with
  |sc h=>exact .sc h
  |own hp hc hk ha=>
   rename_i p sz lo len ad cap;have e1: (bt.add btn k).κ ⟨p.r+n,p.l⟩=btn.κ p:=by simp only[Bt.add,hn];rw[if_pos (by omega),bM]
   have e2: (bt.add btn k).β ⟨p.r+n,p.l⟩=btn.β p:=by simp only[Bt.add,hn];rw[if_pos (by omega),bM]
   exact .own (by show p.r+n<bt.ng+k;omega) hc (by rw[e1];exact hk) (by rw[e2];exact ha)
  |ptrT sz i j hp hk=>
   rename_i p;have e1: (bt.add btn k).κ ⟨p.r+n,p.l⟩=btn.κ p:=by simp only[Bt.add,hn];rw[if_pos (by omega),bM]
   have e2: (bt.add btn k).β ⟨p.r+n,p.l⟩=btn.β p:=by simp only[Bt.add,hn];rw[if_pos (by omega),bM]
   rw[<-e2];exact .ptrT sz i j (by show p.r+n<bt.ng+k;omega) (by rw[e1];exact hk)
  | _=>exact .dead _
 have two: ∀ {v u},VR w' btn v u->VR w' (bt.add btn k) (ff n v) u:=by
  intro v u h;cases v with
  |agg cs=>
   cases h with
   |agg hl ho hr=>refine .agg (by simpa using hl) ho (λj c u h1 h2=> ?_);rw[aw] at h1;simp only[aj] at h1;obtain⟨c',e1,rfl⟩:=h1;exact one (hr j c' u e1 h2)
  | _=>exact one h
 cases v with
 |tup vs=>
  cases h with
  |tup hl hr=>refine .tup (by simpa using hl) (λj c u h1 h2=> ?_);rw[aw] at h1;simp only[aj] at h1;obtain⟨c',e1,rfl⟩:=h1;exact two (hr j c' u e1 h2)
 | _=>exact two h
theorem kH[dE](hI:eh w0 W bt S w)(hE:ER w bt S a)(hfz:S.fz<=S.ng){res:AV}{out:List T}{u:Value}(hC:eh w (λ_=>False) btn (gv out) w')(hv:VR w' btn res u):
  ∃bt',eO w0 W bt S a bt' (install S (res,out)).2 w'/\bt.le bt'/\VR w' bt' (install S (res,out)).1 u:=by
 have hb:=i9 hC;have hg:iE w0 W bt S w w':=iE.of_below hb
 have hi:=(hI.change hg).addRoots btn out (λp s rs h=>by
   obtain⟨h1,h2⟩:=hC.tr p s rs h;refine⟨h1,λhk=>⟨?_,(h2 hk).2⟩⟩;rcases (h2 hk).1 with h|h
   ·exact .inl (aX hI.size h)
   ·exact h.elim) hC.inj (λp s rs h hk=>by
   have hge:w.heap.size<=(btn.β p).1:=by
    rcases ((hC.tr p s rs h).2 hk).1 with h|h
    ·exact h
    ·exact h.elim
   exact hI.fresh hge)
 have hle:=Bt.le_add bt btn out.length;refine⟨_,⟨hi,⟨hE.1,λt=>(hE.2 t).mono hle (hg.A hI)⟩,rfl,trivial,cK _ _,λp hp=>⟨hle.β p (by rw[hI.ng];omega),hle.κ p (by rw[hI.ng];omega)⟩,λr hr hn=> ?_⟩,hle,tf hC.ng hI.ng hv⟩;have : (if S.ng<=r/\r<S.ng+out.length then out[r-S.ng]? else S.gh r)=none:=hn
 rwa [if_neg (by omega)] at this
theorem zh[dE](hI:eh w0 W bt S w)(hE:ER w bt S a){ts:Array TypeId}{as:Array Operand}{caps:List AV}{us:List Value}(hts:ts.size=as.size)(hl:us.length=caps.length)
  (hc: ∀ (k:Nat) (c:AV) (u:Value),caps[k]? =some c->us[k]? =some u->VR w bt c u):
  (as.toList.map a.eval++us).length=(args P S ts as caps).length/\ ∀ (k:Nat) (v:AV) (u:Value),(args P S ts as caps)[k]? =some v->(as.toList.map a.eval++us)[k]? =some u->VR w { BL bt w with nb:=0,ng:=0 } v u:=by
 exact rt (ts:=ts.toList) (as:=as.toList) hI hE (yB hI) (bt':={ BL bt w with nb:=0,ng:=0 }) rfl (by simpa using hts) hl hc
theorem rD[dE](hE:ER w bt S a){o:Oper}{f:Operand}{as:Array Operand}{ts:Array TypeId}(ho:o.op= .call { callee:=.value f,args:=as,argTypes:=ts })
  {g:FuncId} {caps:List AV} (hc:callee S f=some (g,caps)) {avs:List AV} {W':Nat->Prop} {bt0:Bt} {gs:List T} {m:Nat} {res:AV} {out:List T} (hS:eV P g avs gs m res out) (hI0:eh w W' bt0 (gv gs) w)
  (hav: ∀us:List Value,us.length=caps.length->(∀ (k:Nat) (c:AV) (u:Value),caps[k]? =some c->us[k]? =some u->VR w bt c u)->(as.toList.map a.eval++us).length=avs.length/\ ∀ (k:Nat) (v:AV) (u:Value),avs[k]? =some v->(as.toList.map a.eval++us)[k]? =some u->VR w bt0 v u)
  {K:Act->World->Prop} {Q:Exit->Act->World->Prop}
  (h: ∀u w' btn,eh w W' btn (gv out) w'->m<=out.length->(∀p:dM,p.r<m->btn.β p=bt0.β p/\btn.κ p=bt0.κ p)->VR w' btn res u->K (a.put o.dst u) w'):o.wp P a w K Q:=by
 have hf:=dP hE f
 have fin: ∀us:List Value,a.eval f= .func (.func g) #[] us.toArray->us.length=caps.length->(∀ (k:Nat) (c:AV) (u:Value),caps[k]? =some c->us[k]? =some u->VR w bt c u)->o.wp P a w K Q:=by
  intro us he hl hcc;obtain⟨h1,h2⟩:=hav us hl hcc;obtain⟨g1,g2⟩:=hS w _ _ (as.toList.map a.eval++us) hI0 h1 h2
  have hrun: (execOp a.eval o).run P w= .ok (.enter g (as.toList.map a.eval++us).toArray) w:=by
   have e:as.map a.eval++us.toArray=(as.toList.map a.eval++us).toArray:=by apply Array.ext';simp
   obtain⟨dst,op,type,pos,after,guard⟩:=o;simp only at ho;subst ho;simp only[execOp,resolve,he,Deferred.ofValue,Sem.run_bind,Sem.run_pure,Result.andThen_ok,invoke,Array.empty_append];rw[e];exact g1
  unfold Oper.wp;rw[hrun,Oper.upon_enter];refine Calls.mono g2 (λe w' hh=> ?_);obtain⟨v,btn,rfl,k1,k2,k3,k4⟩:=hh;exact h v w' btn k1 k2 k3 k4
 unfold callee at hc;split at hc
 ·rename_i g' x y he;simp only[af,au] at hc;obtain⟨rfl,rfl⟩:=hc;rw[he] at hf;generalize hu:a.eval f=u at hf fin;cases hf with
  |sc hs=>simp only[gG,ak,Array.isEmpty_iff] at hs;obtain⟨rfl,rfl⟩:=hs;exact fin [] rfl rfl (λk c u h1 _=>by simp at h1)
 ·rename_i g' cs he;simp only[af,au] at hc;obtain⟨rfl,rfl⟩:=hc;rw[he] at hf;generalize hu:a.eval f=u at hf fin;cases hf with
  |fn f hl hcc=>exact fin _ rfl hl hcc
 ·cases hc
theorem nV[dE]{D:iC}(hD:fr P D)(hI:eh w0 W bt S w)(hE:ER w bt S a){o:Oper}{f:Operand}{as:Array Operand}{ts:Array TypeId}(ho:o.op= .call { callee:=.value f,args:=as,argTypes:=ts })(hts:ts.size=as.size)
  {g:FuncId} {caps:List AV} (hc:callee S f=some (g,caps)) {res:AV} {out:List T} {d:Option Tmp} (hr:D d g (args P S ts as caps) [] =some (res,out)) {K:Act->World->Prop} {Q:Exit->Act->World->Prop}
  (h: ∀u w' btn,eh w (λ_=>False) btn (gv out) w'->VR w' btn res u->K (a.put o.dst u) w'):o.wp P a w K Q:=
 rD hE ho hc (hD d g _ [] res out hr) (vl (tO.step hI λ_ h=>h.elim) (BL bt w) (λ_ h=>h)) (λ_ hl hcc=>zh hI hE hts hl hcc) λu w' btn k1 _ _ k4=>h u w' btn k1 k4
theorem wk[dE](hI:eh w0 W bt S w)(hE:ER w bt S a){res:AV}{out:List T}{u:Value}(hC:eh w (λ_=>False) btn (gv out) w')(hv:VR w' btn res u):
  ∃bt',eh w0 W bt' S w'/\ER w' bt' S a/\bt.le bt'/\bt'.β=bt.β/\bt'.κ=bt.κ/\VR w' bt' (Dt (res,out)) u:=by
 have hb:=i9 hC;have hg:iE w0 W bt S w w':=iE.of_below hb
 obtain⟨h1,hle⟩:=(hI.change hg).more (A:=λb=>bt.A b\/(w.heap.size<=b/\b<w'.heap.size)) (λb h=> .inl h) (λb h=>by
  rcases h with h|h
  ·exact aM (hI.alt b h) hb.size
  ·exact h.2) (λb h=>by
  rcases h with h|h
  ·exact .inl h
  ·have:=hI.fresh h.1;exact .inr ⟨this.1,this.2.1⟩)
 refine⟨_,h1,⟨hE.1,λt=>(hE.2 t).mono hle (hg.A hI)⟩,hle,rfl,rfl,?_⟩
 have hA: ∀p s rs,(gv out).look p= .sl s rs->0<btn.κ p->(bt.A (btn.β p).1\/(w.heap.size<=(btn.β p).1/\(btn.β p).1<w'.heap.size)):=by
  intro p s rs h hk;rcases ((hC.tr p s rs h).2 hk).1 with h'|h'
  ·exact .inr ⟨h',hC.βlt h hk⟩
  ·exact h'.elim
 have one: ∀ {v u},VR w' btn v u->VR w' { bt with A:=λb=>bt.A b\/(w.heap.size<=b/\b<w'.heap.size) } (zU out v) u:=by
  intro v u h;cases v with
  |sc v=>cases h with |sc h=>exact .sc h
  |own p sz lo len=>
   simp only[zU];split
   ·rename_i s rows hl ht;split
    ·rename_i hc;obtain⟨rfl,hle'⟩:=hc;refine .ro (uz hC hA h ?_ hle');obtain⟨r,l⟩:=p;simp only at hl ht;subst hl;simp[St.rows,St.look,gv,ht,T.go]
    ·exact .dead _
   ·exact .dead _
  | _=>exact .dead _
 have two: ∀ {v u},VR w' btn v u->VR w' { bt with A:=λb=>bt.A b\/(w.heap.size<=b/\b<w'.heap.size) } (Bq out v) u:=by
  intro v u h;cases v with
  |agg cs=>
   cases h with
   |agg hl ho hr=>refine .agg (by simpa using hl) ho (λj c u h1 h2=> ?_);rw[aw] at h1;simp only[aj] at h1;obtain⟨c',e1,rfl⟩:=h1;exact one (hr j c' u e1 h2)
  | _=>exact one h
 unfold Dt;cases res with
 |tup vs=>
  cases hv with
  |tup hl hr=>refine .tup (by simpa using hl) (λj c u h1 h2=> ?_);rw[aw] at h1;simp only[aj] at h1;obtain⟨c',e1,rfl⟩:=h1;exact two (hr j c' u e1 h2)
 | _=>exact two hv
end
end
section
open Go Go.RowKit
section
variable {P:Program} {w0 w w':World} {W:Nat->Prop} {btI bt bt':Bt} {SI S S':St} {a a':Act} {D:iC} {Q:Exit->Act->World->Prop}
structure Lv [dE] (w0:World) (W:Nat->Prop) (btI:Bt) (SI:St) (bt:Bt) (S:St) (a:Act) (w:World):Prop where
 inv:eh w0 W bt S w
 er:ER w bt S a
 defers:a.defers= []
 fz:S.fz=SI.fz
 fzng:S.fz<=S.ng
 keep: ∀p:dM,p.r<SI.fz->bt.β p=btI.β p/\bt.κ p=btI.κ p
 gone: ∀r,r<SI.fz->S.gh r=none->SI.gh r=none
theorem Lv.left[dE](h:Lv w0 W btI SI bt S a w)(g:eO w0 W bt S a bt' S' w'):Lv w0 W btI SI bt' S' a w':=
 ⟨g.inv,g.er,h.defers,g.fz.trans h.fz,by rw[g.fz];exact aX h.fzng g.ng,λp hp=>⟨((g.keep p (by rw[h.fz];exact hp)).1).trans (h.keep p hp).1,((g.keep p (by rw[h.fz];exact hp)).2).trans (h.keep p hp).2⟩,
  λr hr hn=>h.gone r hr (g.gone r (by rw[h.fz];exact hr) hn)⟩
theorem yh{d:Option Tmp}{v:AV}(h:S.put d v=some S'):S'.bx=S.bx/\S'.gh=S.gh/\S'.nb=S.nb/\S'.ng=S.ng/\S'.fz=S.fz/\S'.nt=S.nt/\S'= { S with env:=S'.env } :=by
 unfold St.put at h;split at h
 ·split at h
  ·simp only[af] at h;subst h;exact⟨rfl,rfl,rfl,rfl,rfl,rfl,rfl⟩
  ·cases h
 ·simp only[af] at h;subst h;exact⟨rfl,rfl,rfl,rfl,rfl,rfl,rfl⟩
theorem eh.env[dE](h:eh w0 W bt S w)(env:Nat->AV):eh w0 W bt { S with env:=env } w:=
 { good:=h.good,os:=h.os,tape:=h.tape,output:=h.output,size:=h.size,keep:=h.keep,nb:=h.nb,ng:=h.ng,bx:=h.bx,gh:=h.gh,tr:=h.tr,inj:=h.inj,bbinj:=h.bbinj,bbtr:=h.bbtr,alt:=h.alt,atr:=h.atr,abb:=h.abb }
theorem Lv.put[dE](h:Lv w0 W btI SI bt S a w){d:Option Tmp}{v:AV}{u:Value}(hv:VR w bt v u)(hp:S.put d v=some S'):Lv w0 W btI SI bt S' (a.put d u) w:=by obtain⟨_,e2,_,e4,e5,_,e7⟩:=yh hp;refine⟨by rw[e7];exact h.inv.env _,h.er.put hv hp,?_,e5.trans h.fz,by rw[e5,e4];exact h.fzng,h.keep,λr hr hn=>h.gone r hr (by rw[<-e2];exact hn)⟩;cases d<;>exact h.defers
theorem nI:VR w bt (.tup []) undef:=.tup (us:=[]) rfl (λ_ _ _ h=>by cases h)
theorem gP{ops:Array Oper}{o:Oper}{b:Bool}(hE:ER w bt S a)(h:gz S ops o=some b):Region.wanted o (yielded ops a.tmps)=b:=by
 unfold gz at h;unfold Region.wanted;split at h
 ·rename_i hg;simp only[af] at h;simp[hg,h]
 ·rename_i j want hg;split at h
  ·rename_i d hd;split at h
   ·rename_i b' he;simp only[af] at h;have hv:=hE.2 d;rw[he] at hv;have hu:=hv.inv_sc
    have hy:yielded ops a.tmps j=some b':=by
     unfold yielded;rw[hd];simp only[ao];cases hx:a.tmps[d]? with
     |none=>simp only[aN,hx,Option.getD_none] at hu;cases hu
     |some x=>simp only[aN,hx,aV] at hu;subst hu;rfl
    simp only[hg,hy,<-h];cases b'<;>cases want<;>rfl
   ·rename_i he;simp only[af] at h;have hv:=hE.2 d;rw[he] at hv
    have hu:a.tmps.getD d undef=undef:=by
     generalize a.tmps.getD d undef=u at hv;cases hv with
     |tup hl h=>rw[db.1 hl];rfl
    have hy:yielded ops a.tmps j=none:=by
     unfold yielded;rw[hd];simp only[ao];cases hx:a.tmps[d]? with
     |none=>rfl
     |some x=>simp only[aN,hx,aV] at hu;subst hu;rfl
    simp only[hg,hy,<-h];cases want<;>rfl
   ·cases h
  ·cases h
theorem jR[dE](hD:fr P D)(h:Lv w0 W btI SI bt S a w){o:Oper}(hok:fY P o=true)(hs:one D P S o=some S'){K:Act->World->Prop}(hK: ∀bt' a' w',Lv w0 W btI SI bt' S' a' w'->K a' w'):o.wp P a w K Q:=by
 unfold one at hs;simp only[ah] at hs;obtain⟨⟨v,S1⟩,h1,h2⟩:=hs;simp only at h2;by_cases hf:im o=true
 ·obtain⟨dst,op,type,pos,after,guard⟩:=o;unfold im at hf;split at hf
  ·rename_i f as ts hop;simp only at hop;subst hop;simp only[step,ah,aj] at h1;obtain⟨⟨g,caps⟩,hc,⟨res,out⟩,hr,hi⟩:=h1;simp only[fY,beq_iff_eq] at hok;refine nV hD h.inv h.er rfl hok hc hr (λu w' btn hC hv=> ?_);obtain⟨bt',g1,_,g2⟩:=kH h.inv h.er h.fzng hC hv;rw[hi] at g1 g2;exact hK _ _ _ ((h.left g1).put g2 h2)
  ·cases hf
 ·obtain⟨u,w',bt',g0,g1,g2⟩:=AB h.inv h.er h.fzng hok (by simpa using hf) h1;have:=hK _ _ _ ((h.left g1).put g2 h2);unfold Oper.wp;rcases g0 with g0| ⟨g0,rfl⟩
  ·rw[g0,Oper.upon_value];exact this
  ·rw[g0,Oper.upon_skip];exact this
end
end
section
open Go Go.RowKit
section
variable {P:Program} {S:St} {D:iC}
theorem oO{o:Oper}{env:Nat->AV}(hs: ∀cs b,o.op≠ .select cs b)(h: ∀x∈o.op.operands,opd { S with env:=env } x=opd S x):dL P { S with env:=env } o=dL P S o:=by
 have e1:o.op.operands.all (λx=>(iL (opd { S with env:=env } x)).isSome)=o.op.operands.all (λx=>(iL (opd S x)).isSome):=by
  rw[bJ,cd,cd];constructor
  ·grind
  ·grind
 grind [execOp_congr,dL]
theorem p9(env:Nat->AV)(szs:List Nat)(v:AV):fk { S with env:=env } szs v=fk S szs v:=by cases v<;>rfl
theorem xK(env:Nat->AV)(t:TypeId)(v:AV):load P { S with env:=env } t v=load P S t v:=by cases v<;>rfl
theorem nK{env:Nat->AV}{ts:Array TypeId}{as:Array Operand}(caps:List AV)(h: ∀x∈as,opd { S with env:=env } x=opd S x):args P { S with env:=env } ts as caps=args P S ts as caps:=by
 unfold args
 congr 1
 ·apply bA;intro k;rw[bi,bi];cases ht:ts.toList[k]? with
  |none=>rfl
  |some t=>
   cases ha:as.toList[k]? with
   |none=>rfl
   |some x=>grind [p9]
theorem lE{env:Nat->AV}{f:Operand}(h:opd { S with env:=env } f=opd S f):callee { S with env:=env } f=callee S f:=by unfold callee;rw[h]
theorem tw{o:Oper}{env:Nat->AV}(hok:fY P o=true)(h: ∀x∈o.op.operands,opd { S with env:=env } x=opd S x):dD D P { S with env:=env } o=dD D P S o:=by
 have hs: ∀cs b,o.op≠ .select cs b:=by intro cs b he;simp[fY,he] at hok
 have sc:=oO (P:=P) hs h;obtain⟨dst,op,type,pos,after,guard⟩:=o;cases op with
 |move x=>grind [dD,Op.operands]
 |assign x=>grind [dD,Op.operands]
 |pick c x y=>grind [dD,Op.operands]
 |load t x=>grind [dD,Op.operands,xK]
 |nilCheck x=>grind [dD,Op.operands]
 |fieldAddr t x k=>grind [dD,Op.operands]
 |field t x k=>grind [dD,Op.operands]
 |indexAddr t x i=>grind [dD,Op.operands]
 |build t parts=>
  simp only[dD]
  have :parts.toList.map (λx=>(x.1,opd { S with env:=env } x.2))=parts.toList.map (λx=>(x.1,opd S x.2)):=aE λx hx=>by rw[h x.2 (by simp only[Op.operands,cH];exact aG.2 ⟨x,hx,rfl⟩)]
  rw[this]
 |slice t x lo hi mx=>
  cases mx with
  |some m=>simp only[dD];exact sc
  |none=>
   have hb: ∀d (y:Option Operand),(∀z,y=some z->opd { S with env:=env } z=opd S z)->gg { S with env:=env } d y=gg S d y:=by
    intro d y hy;cases y with
    |none=>rfl
    |some z=>simp only[gg];rw[hy z rfl]
   simp_all [Op.operands,dD]
 |index t x i=>grind [dD,Op.operands]
 |extract x k=>grind [dD,Op.operands]
 |makeFunc fn first caps=>cases fn<;>grind [dD,List.map_congr_left,Op.operands]
 |unOp op t x=>grind [dD,Op.operands]
 |binOp op t x y t'=>have hx:=h x (by simp[Op.operands]);have hy:=h y (by simp[Op.operands]);cases op<;>simp only[dD]<;>first |exact sc|rw[hx,hy,sc]
 |call c=>
  obtain⟨cl,as,ts⟩:=c;cases cl with
  |builtin b=>
   cases b with
   |len=>
    simp only[dD];rw[sc];split
    ·rename_i x t e1 e2;have e1:as= #[x] :=by apply Array.ext';simpa using e1
     grind [Op.operands,Call.operands]
    ·rfl
   |cap=>
    simp only[dD];rw[sc];split
    ·rename_i x t e1 e2;have e1:as= #[x] :=by apply Array.ext';simpa using e1
     grind [Op.operands,Call.operands]
    ·rfl
   |max=>grind [List.map_congr_left,Op.operands,Call.operands,dD]
   |min=>grind [List.map_congr_left,Op.operands,Call.operands,dD]
   | _=>simp only[dD];exact sc
  |value f=>
   simp only[dD];rw[lE (h f (by simp[Op.operands,Call.operands]))]
   congr 1
   funext x
   grind [nK,Op.operands,Call.operands]
  |invoke r m=>simp only[dD];exact sc
 | _=>simp only[dD];exact sc
end
end
section
open Go Go.RowKit
section
variable {P:Program} {w0 w w':World} {W:Nat->Prop} {btI bt bt':Bt} {SI S S' SV:St} {a a':Act} {D:iC} {Q:Exit->Act->World->Prop} {ops:Array Oper}
def uW(ops:List Oper)(B:List (List Nat)):Bool:=(List.range ops.length).all λj=>(B.getD j []).all λi=>decide (i<j)&&match ops[j]? with
 |some o=>o.after.toList.any λe=>Region.binds .any e&&(e.on==i||(B.getD e.on []).contains i)
 |none=>false
def oC(all:Array Oper)(B:List (List Nat))(i j:Nat)(oi oj:Oper):Bool:=
 (i==j||((oi.dst.isNone||oi.dst != oj.dst)&&(!(dB oj&&(!dB oi||decide (i<j)))||(B.getD j []).contains i||(!dB oi&& !gr oi))))&&
 (match oi.dst with |some d=> !(oj.looksAt all).contains d||(B.getD j []).contains i||(!dB oj&&(i==j||(B.getD i []).contains j))|none=>true)
def u7(all:Array Oper):Bool:=
 let ops:=all.toList
 let B:=ef ops
 uW ops B&&(List.range ops.length).all λj=>match ops[j]? with
  |none=>false
  |some oj=>(oj.after.toList.all λe=> !Region.binds .any e||decide (e.on<j))&&(!dB oj||(oj.dst.isNone&&oj.guard.isNone))&&
   (List.range ops.length).all λi=>match ops[i]? with |none=>false|some oi=>oC all B i j oi oj
def nY(P:Program)(all:Array Oper):Bool:=u7 all&&all.toList.all (fY P)
structure A9 (P:Program) (ops:Array Oper) (B:List (List Nat)):Prop where
 lt: ∀ (j i:Nat),j<ops.size->i∈B.getD j [] ->i<j
 edge: ∀ (j i:Nat) (o:Oper),ops[j]? =some o->i∈B.getD j [] -> ∃e∈o.after,Region.binds .any e=true/\(e.on=i\/i∈B.getD e.on [])
 ok: ∀ (j:Nat) (o:Oper),ops[j]? =some o->fY P o=true
 on: ∀ (j:Nat) (o:Oper) (e:Edge),ops[j]? =some o->e∈o.after->Region.binds .any e=true->e.on<j
 st: ∀ (j:Nat) (o:Oper),ops[j]? =some o->dB o=true->o.dst=none/\o.guard=none
 dst: ∀ (i j:Nat) (oi oj:Oper) (d:Tmp),ops[i]? =some oi->ops[j]? =some oj->oi.dst=some d->oj.dst=some d->i=j
 late: ∀ (i j:Nat) (oi oj:Oper),ops[i]? =some oi->ops[j]? =some oj->i≠j->dB oj=true->(dB oi=false\/i<j)->i∈B.getD j [] \/(dB oi=false/\gr oi=false)
 look: ∀ (i j:Nat) (oi oj:Oper) (d:Tmp),ops[i]? =some oi->ops[j]? =some oj->oi.dst=some d->d∈oj.looksAt ops->i∈B.getD j [] \/(dB oj=false/\(i=j\/j∈B.getD i []))
theorem rM(h:nY P ops=true):A9 P ops (ef ops.toList):=by
 unfold nY u7 at h;simp only[ak] at h;obtain⟨⟨h1,h2⟩,hop⟩:=h
 have lst: ∀ (j:Nat) (o:Oper),ops[j]? =some o->j<ops.toList.length/\ops.toList[j]? =some o:=by intro j o ho;refine⟨?_,by simpa using ho⟩;have:=(aD.1 ho).1;simpa using this
 have h3: ∀ (j:Nat) (oj:Oper),ops[j]? =some oj->(oj.after.toList.all λe=> !Region.binds .any e||decide (e.on<j))=true/\(!dB oj||(oj.dst.isNone&&oj.guard.isNone))=true/\
   ∀ (i:Nat) (oi:Oper),ops[i]? =some oi->oC ops (ef ops.toList) i j oi oj=true:=by
  intro j oj hj;obtain⟨l1,l2⟩:=lst j oj hj;have:=ay.1 h2 j (bw.2 l1);simp only[l2,ak] at this;refine⟨this.1.1,this.1.2,λi oi hi=> ?_⟩;obtain⟨m1,m2⟩:=lst i oi hi;have:=ay.1 this.2 i (bw.2 m1);simpa only[m2] using this
 have h4: ∀ (j i:Nat),j<ops.size->i∈(ef ops.toList).getD j [] ->i<j/\ ∀o,ops[j]? =some o-> ∃e∈o.after,Region.binds .any e=true/\(e.on=i\/i∈(ef ops.toList).getD e.on []):=by intro j i hj hi;unfold uW at h1;have:=ay.1 (ay.1 h1 j (bw.2 (by simpa using hj))) i hi;simp only[ak,decide_eq_true_eq] at this;refine⟨this.1,λo ho=> ?_⟩;have h5:=this.2;rw[(lst j o ho).2] at h5;simp only[bN,ak,bq,beq_iff_eq,bg] at h5;obtain⟨e,he,hb,hc⟩:=h5;exact⟨e,by simpa using he,hb,hc⟩
 refine⟨λj i hj hi=>(h4 j i hj hi).1,λj i o ho hi=>(h4 j i (aD.1 ho).1 hi).2 o ho,λj o ho=>ay.1 hop o (aA (lst j o ho).2),λj o e ho he hb=> ?_,λj o ho hs=> ?_,λi j oi oj d hi hj hdi hdj=> ?_,λi j oi oj hi hj hne hs hor=> ?_,λi j oi oj d hi hj hd hl=> ?_⟩
 ·have:=ay.1 (h3 j o ho).1 e (by simpa using he);simpa [hb] using this
 ·have:=(h3 j o ho).2.1;simp only[hs,dg,b7,ak,cD] at this;exact this
 ·have:=(h3 j oj hj).2.2 i oi hi;unfold oC at this;simp only[ak,bq,beq_iff_eq] at this;rcases this.1 with h|h
  ·exact h
  ·have:=h.1;rw[hdi,hdj] at this;simp at this
 ·have:=(h3 j oj hj).2.2 i oi hi;unfold oC at this;simp only[ak,bq,beq_iff_eq] at this;rcases this.1 with h|h
  ·exact absurd h hne
  ·rcases h.2 with h'|h'
   ·rcases h' with h'|h'
    ·exfalso;rcases hor with hor|hor<;>simp[hs,hor] at h'
    ·exact .inl (bg.1 h')
   ·simp only[bE] at h';exact .inr h'
 ·have:=(h3 j oj hj).2.2 i oi hi;unfold oC at this;simp only[ak] at this;have h':=this.2;rw[hd] at h';simp only[bq,ak,bE,bg,beq_iff_eq] at h';rcases h' with (h'|h')|h'
  ·rw[bg.2 hl] at h';cases h'
  ·exact .inl h'
  ·exact .inr h'
end
end
section
open Go Go.RowKit
section
variable {P:Program} {w0 w:World} {W:Nat->Prop} {bt:Bt} {S:St} {a:Act}
theorem nB: ∀ {l:List Nat},BF l=true↔l.Nodup
 | [] =>by simp[BF]
 |a::l=>by unfold BF;rw[ak,nB (l:=l),List.nodup_cons];simp
theorem qJ: ∀ {l:List Nat} {r:Nat},r∈l->r<rg l
 | [],_,h=>by cases h
 |a::l,r,h=>by
  unfold rg;rcases aZ.1 h with rfl|h
  ·omega
  ·have:=qJ h;omega
theorem kU{l:List Nat}{r:Nat}:r∈fO l↔r∈l:=by grind [fO,qJ]
theorem fT(l:List Nat)(r:Nat): (fO l).contains r=l.contains r:=by simp_all [kU]
theorem jc{s:Nat}{v:AV}{x:T}{l:List Nat}(h:fQ S s v=some (x,l)):
  (l= [] /\ ∀ (w:World) (bt:Bt) (c:Value),VR w bt v c->CR x c)\/ ∃q len rows,v= .own ⟨q,[]⟩ s 0 len/\S.fz<=q/\S.look ⟨q,[]⟩= .sl s rows/\len<=rows.length/\x= .sl s (rows.take len)/\l= [q] :=by
 unfold fQ at h;split at h
 ·simp only[af,au] at h;obtain⟨rfl,rfl⟩:=h;exact .inl ⟨rfl,λw bt c hv=>CR.ofSc hv⟩
 ·split at h
  ·simp only[af,au] at h;obtain⟨rfl,rfl⟩:=h;refine .inl ⟨rfl,λw bt c hv=> ?_⟩;cases hv with
   |em a=>exact .em _ a
  ·rename_i q s' lo len;split at h
   ·rename_i hc;obtain⟨h1,rfl,rfl,h4⟩:=hc;simp only[ah] at h;obtain⟨rows,hr,h⟩:=h;split at h
    ·rename_i hle;simp only[af,au] at h;obtain⟨rfl,rfl⟩:=h;obtain⟨qr,ql⟩:=q;simp only at h1;subst h1;exact .inr ⟨qr,len,rows,rfl,h4,fw hr,hle,rfl,rfl⟩
    ·cases h
   ·cases h
  ·cases h
theorem mT: ∀ {ss:List Nat} {vs:List AV} {xs:List T} {L:List Nat},eR S ss vs=some (xs,L)->xs.length=vs.length/\ss.length=vs.length/\
  (∀ (j:Nat) (v:AV),vs[j]? =some v-> ∃s x l,ss[j]? =some s/\xs[j]? =some x/\fQ S s v=some (x,l)/\ ∀q∈l,q∈L)/\
  (L.Nodup-> ∀ (j j':Nat) (v v':AV) (s s':Nat) (x x':T) (q:Nat),vs[j]? =some v->vs[j']? =some v'->ss[j]? =some s->ss[j']? =some s'->fQ S s v=some (x,[q])->fQ S s' v'=some (x',[q])->j=j')
 | [],[],xs,L,h=>by simp_all [eR]
 |s::ss,v::vs,xs,L,h=>by
  simp only[eR,ah,aj,Prod.exists,au] at h;obtain⟨x,l,h1,xs',L',h2,rfl,rfl⟩:=h;obtain⟨e1,e2,e3,e4⟩:=mT h2
  grind
 | [],_::_,_,_,h=>by simp[eR] at h
 | _::_,[],_,_,h=>by simp[eR] at h
def fm(S:St)(ss:List Nat)(vss:List (List AV))(i j q:Nat):Prop:=∃vs v s x,vss[i]? =some vs/\vs[j]? =some v/\ss[j]? =some s/\fQ S s v=some (x,[q])
theorem mZ{ss:List Nat}: ∀ {vss:List (List AV)} {rows:List (List T)} {L:List Nat},eH S ss vss=some (rows,L)->rows.length=vss.length/\
  (∀ (i:Nat) (vs:List AV),vss[i]? =some vs-> ∃r,rows[i]? =some r/\r.length=vs.length/\ ∀ (j:Nat) (v:AV),vs[j]? =some v-> ∃s x l,ss[j]? =some s/\r[j]? =some x/\fQ S s v=some (x,l)/\ ∀q∈l,q∈L)/\
  (L.Nodup-> ∀ (i i' j j' q:Nat),fm S ss vss i j q->fm S ss vss i' j' q->i=i'/\j=j')
 | [],rows,L,h=>by simp only[eH,af,au] at h;obtain⟨rfl,rfl⟩:=h;exact⟨rfl,λi vs h=>by simp at h,λ_ i i' j j' q ⟨vs,v,s,x,h,_⟩=>by simp at h⟩
 |vs::vss,rows,L,h=>by
  simp only[eH,ah,aj,Prod.exists,au] at h;obtain⟨r,l,h1,rs,L',h2,rfl,rfl⟩:=h;obtain⟨e1,e2,e3⟩:=mZ h2;obtain⟨f1,f2,f3,f4⟩:=mT h1;refine⟨by simp[e1],λi us hi=> ?_,λhnd i i' j j' q g1 g2=> ?_⟩
  ·grind
  ·rw[List.nodup_append] at hnd;obtain⟨n1,n2,n3⟩:=hnd
   have zero: ∀ (j:Nat),fm S ss (vs::vss) 0 j q->q∈l:=by
    rintro j ⟨us,v,s,x,k1,k2,k3,k4⟩
    simp only[aJ,af] at k1;subst k1;obtain⟨s',x',l',m1,m2,m3,m4⟩:=f3 j v k2;rw[k3] at m1;simp only[af] at m1;subst m1;rw[k4] at m3;simp only[af,au] at m3;exact m4 q (by grind)
   have jd: ∀ (i j:Nat),fm S ss (vs::vss) (i+1) j q->fm S ss vss i j q:=by
    rintro i j ⟨us,v,s,x,k1,k2,k3,k4⟩
    exact⟨us,v,s,x,by simpa using k1,k2,k3,k4⟩
   have succ: ∀ (i j:Nat),fm S ss vss i j q->q∈L':=by
    rintro i j ⟨us,v,s,x,k1,k2,k3,k4⟩
    obtain⟨r',m1,m2,m3⟩:=e2 i us k1;obtain⟨s',x',l',p1,p2,p3,p4⟩:=m3 j v k2;rw[k3] at p1;simp only[af] at p1;subst p1;rw[k4] at p3;simp only[af,au] at p3;exact p4 q (by grind)
   cases i with
   |zero=>
    cases i' with
    |zero=>
     obtain⟨us,v,s,x,k1,k2,k3,k4⟩:=g1;obtain⟨us',v',s',x',k1',k2',k3',k4'⟩:=g2
     grind
    |succ i'=>grind
   |succ i=>cases i'<;>grind
theorem mR: ∀ {ss:List Nat} {vs:List AV} {xs:List T} {L:List Nat},eR S ss vs=some (xs,L)-> ∀q∈L,S.fz<=q/\ ∃v∈vs,∃s len,v= .own ⟨q,[]⟩ s 0 len
 | [],[],xs,L,h=>by simp_all [eR]
 |s::ss,v::vs,xs,L,h=>by
  simp only[eR,ah,aj,Prod.exists,au] at h;obtain⟨x,l,h1,xs',L',h2,rfl,rfl⟩:=h;intro q hq;rcases bC.1 hq with hq|hq
  ·rcases jc h1 with ⟨rfl,_⟩| ⟨q',len,rows,e1,e2,_,_,_,rfl⟩
   all_goals grind
  ·obtain⟨g1,u,g2,g3⟩:=mR h2 q hq
   grind
 | [],_::_,_,_,h=>by simp[eR] at h
 | _::_,[],_,_,h=>by simp[eR] at h
theorem jS{ss:List Nat}: ∀ {vss:List (List AV)} {rows:List (List T)} {L:List Nat},eH S ss vss=some (rows,L)-> ∀q∈L,S.fz<=q/\ ∃vs∈vss,∃v∈vs,∃s len,v= .own ⟨q,[]⟩ s 0 len
 | [],rows,L,h=>by simp_all [eH]
 |vs::vss,rows,L,h=>by
  simp only[eH,ah,aj,Prod.exists,au] at h;obtain⟨r,l,h1,rs,L',h2,rfl,rfl⟩:=h;intro q hq;rcases bC.1 hq with hq|hq
  ·obtain⟨g1,g2⟩:=mR h1 q hq;exact⟨g1,vs,aK,g2⟩
  ·obtain⟨g1,us,g2,g3⟩:=jS h2 q hq
   grind
theorem je{L:List Nat}{p:dM}{s:Nat}{rs:List (List T)}(h: (dropL S L).look p= .sl s rs):p.r∉L/\S.look p= .sl s rs:=by
 unfold St.look dropL at h;simp only at h;by_cases hp:L.contains p.r=true
 ·rw[if_pos hp] at h;cases h
 ·rw[if_neg hp] at h;exact⟨by simpa using hp,h⟩
theorem eh.dropL[dE](hI:eh w0 W bt S w)(L:List Nat):eh w0 W bt (dropL S L) w:=
 hI.less (λr t h=>by
  split at h
  ·cases h
  ·exact h)
open Classical in
noncomputable def lG(bt:Bt)(S:St)(ss:List Nat)(vss:List (List AV))(b n:Nat):Bt:={ bt with
 β:=λp=>match p.l with | [] =>(b,0)| (i,j)::l=>if h: ∃q,fm S ss vss i j q then bt.β ⟨Classical.choose h,l⟩ else (0,0)
 κ:=λp=>match p.l with | [] =>n| (i,j)::l=>if h: ∃q,fm S ss vss i j q then bt.κ ⟨Classical.choose h,l⟩ else 0 }
theorem fm.uniq{ss:List Nat}{vss:List (List AV)}{i j q q':Nat}(h:fm S ss vss i j q)(h':fm S ss vss i j q'):q=q':=by
 obtain⟨us,v,s,x,k1,k2,k3,k4⟩:=h;obtain⟨us',v',s',x',k1',k2',k3',k4'⟩:=h'
 grind
theorem lH{ss:List Nat}{vss:List (List AV)}{b n i j q:Nat}(h:fm S ss vss i j q)(r:Nat)(l:List (Nat×Nat)): (lG bt S ss vss b n).β ⟨r,(i,j)::l⟩=bt.β ⟨q,l⟩/\(lG bt S ss vss b n).κ ⟨r,(i,j)::l⟩=bt.κ ⟨q,l⟩:=by
 have hx: ∃q,fm S ss vss i j q:=⟨q,h⟩
 have e:Classical.choose hx=q:=(Classical.choose_spec hx).uniq h
 simp_all [lG]
theorem qq[dE](hI:eh w0 W bt S w)(hE:ER w bt S a)(hfz:S.fz<=S.ng){t el:TypeId}{len:Nat}{parts:Array (Nat×Operand)}{rows:List (List T)}{L:List Nat}(hel:i8 P t=some el)(h20:len*P.cellsOf el<=2 ^ 20)
  (hix:parts.toList.map (·.1)=List.range len) (hpos:0<P.cellsOf el) (hz: (lV P el).isSome=true) (hall:parts.toList.all (λx=>(opd S x.2).cells.length=P.cellsOf el&& !(opd S x.2).isDead)=true)
  (hp:eH S (gk P 9 el) (parts.toList.map λx=>(opd S x.2).cells)=some (rows,L)) (hnd:BF L=true):
  ∃u w' bt',(Instr.buildSlice t len (parts.map λx=>(x.1,a.eval x.2))).run P w= .ok u w'/\eO w0 W bt S a bt' (S.make ⟨S.ng,[.sl (P.cellsOf el) rows],fO L⟩) w'/\bt.le bt'/\VR w' bt' (.own ⟨S.ng,[]⟩ (P.cellsOf el) 0 len) u:=by
 obtain⟨cs,hrun,hcs,hcell,hone⟩:=ii (a:=a) hE hel h20 hix hpos hz hall;obtain⟨p1,p2,p3⟩:=mZ hp;have p3:=p3 (nB.1 hnd)
 have hpl:parts.toList.length=len:=by have:=congrArg List.length hix;simpa using this
 have hrl:rows.length=len:=by rw[p1,aH,hpl]
 generalize hvss: (parts.toList.map λx=>(opd S x.2).cells)=vss at*
 have hparts: ∀ (i:Nat) (vs:List AV),vss[i]? =some vs-> ∃x,parts.toList[i]? =some x/\vs=(opd S x.2).cells/\vs.length=P.cellsOf el:=by intro i vs hi;rw[<-hvss,aw] at hi;simp only[aj] at hi;obtain⟨x,hx,rfl⟩:=hi;have:=ay.1 hall x (aA hx);simp only[ak,decide_eq_true_eq] at this;exact⟨x,hx,rfl,this.1⟩
 have cellAt: ∀ (i j:Nat) (r:List T) (x:T),rows[i]? =some r->r[j]? =some x-> ∃vs v s l c,vss[i]? =some vs/\vs[j]? =some v/\(gk P 9 el)[j]? =some s/\fQ S s v=some (x,l)/\(∀q∈l,q∈L)/\r.length=P.cellsOf el/\cs[i*P.cellsOf el+j]? =some c/\VR w bt v c:=by
  intro i j r x hi hj;have hil:i<vss.length:=by rw[<-p1];exact (ai.1 hi).1
  obtain⟨r',k1,k2,k3⟩:=p2 i _ (aq hil);rw[hi] at k1;cases k1;have hjl:j<vss[i].length:=by rw[<-k2];exact (ai.1 hj).1
  obtain⟨s,x',l,m1,m2,m3,m4⟩:=k3 j _ (aq hjl);rw[hj] at m2;cases m2;obtain⟨y,hy,e1,e2⟩:=hparts i _ (aq hil);obtain⟨c,q1,q2,_⟩:=hcell i y j vss[i][j] hy (by grind);exact⟨_,_,s,l,c,aq hil,aq hjl,m1,m3,m4,by rw[k2,e2],q1,q2⟩
 have giveL: ∀i j q,fm S (gk P 9 el) vss i j q->q∈L/\ ∃s rs,S.look ⟨q,[]⟩= .sl s rs:=by
  rintro i j q ⟨vs,v,s,x,k1,k2,k3,k4⟩
  obtain⟨r',m1,m2,m3⟩:=p2 i vs k1;obtain⟨s',x',l',n1,n2,n3,n4⟩:=m3 j v k2;rw[k3] at n1;cases n1;rw[k4] at n3;simp only[af,au] at n3;refine⟨n4 q (by grind),?_⟩;rcases jc k4 with ⟨h,_⟩| ⟨q',len',rows',_,_,h3,_,_,h6⟩
  ·cases h
  ·grind
 have hIL:=hI.dropL L;have hEL:ER w bt (dropL S L) a:=⟨hE.1,hE.2⟩
 let btn:=lG bt S (gk P 9 el) vss w.heap.size len
 have below: ∀p s rs,(gv [.sl (P.cellsOf el) rows]).look p= .sl s rs->p.r=0/\((p.l= [] /\s=P.cellsOf el/\rs=rows)\/
   ∃i j l,p.l=(i,j)::l/\(((∀q,¬fm S (gk P 9 el) vss i j q)/\rs= [])\/ ∃q rs0,fm S (gk P 9 el) vss i j q/\S.look ⟨q,l⟩= .sl s rs0/\ ∃n,rs=rs0.take n)):=by
  intro p s rs h;obtain⟨h0,h1⟩:=km h;refine⟨h0,?_⟩;rcases h1 with h1| ⟨i,j,l,r,x,hl,h2,h3,h4⟩
  ·exact .inl h1
  ·obtain⟨vs,v,s',l',c,k1,k2,k3,k4,k5,k6,k7,k8⟩:=cellAt i j r x h2 h3;refine .inr ⟨i,j,l,hl,?_⟩;rcases jc k4 with ⟨e1,e2⟩| ⟨q,len',rows',e1,e2,e3,e4,e5,e6⟩
   ·left;refine⟨λq ⟨vs',v',s'',x',m1,m2,m3,m4⟩=> ?_,(e2 w bt c k8).go h4⟩
    grind
   ·right;subst e5 e6
    obtain⟨ht,hr,hgo⟩: ∃t,S.gh q=some t/\t= .sl s' rows':=by
     unfold St.look at e3;simp only at e3;split at e3
     ·rename_i t ht;exact⟨t,ht,e3⟩
     ·cases e3
    subst hgo;rcases T.go_take h4 with ⟨rfl,rfl,rfl⟩| ⟨hm,hg⟩
    ·exact⟨q,rows',⟨vs,v,s,_,k1,k2,k3,k4⟩,e3,len',rfl⟩
    ·refine⟨q,rs,⟨vs,v,s',_,k1,k2,k3,k4⟩,?_,rs.length,(List.take_length).symm⟩
     grind [St.look]
 have nested: ∀p s rs,(gv [.sl (P.cellsOf el) rows]).look p= .sl s rs->0<btn.κ p->(p=⟨0,[]⟩/\s=P.cellsOf el/\rs=rows)\/ ∃i j l q rs0 n,p=⟨0,(i,j)::l⟩/\fm S (gk P 9 el) vss i j q/\S.look ⟨q,l⟩= .sl s rs0/\rs=rs0.take n/\btn.β p=bt.β ⟨q,l⟩/\btn.κ p=bt.κ ⟨q,l⟩:=by
  intro p s rs h hk;obtain⟨pr,pl⟩:=p;obtain⟨h0,h1⟩:=below _ _ _ h;simp only at h0;subst h0;rcases h1 with ⟨h1,h2,h3⟩| ⟨i,j,l,hl,⟨h1,_⟩| ⟨q,rs0,h1,h2,n,h3⟩⟩
  ·grind
  ·grind [lG]
  ·simp only at hl;subst hl;obtain⟨e1,e2⟩:=lH (bt:=bt) (b:=w.heap.size) (n:=len) h1 0 l
   grind
 obtain⟨f1,f2,f3⟩:=hI.fresh (b:=w.heap.size) (az _);have hb:=fW w (.cells cs el)
 have hsub: ∀ (q r:Nat) (l:List (Nat×Nat)) (i j i' j':Nat),fm S (gk P 9 el) vss i j q->btn.β ((⟨r,(i,j)::l⟩:dM).sub i' j')=bt.β ((⟨q,l⟩:dM).sub i' j')/\btn.κ ((⟨r,(i,j)::l⟩:dM).sub i' j')=bt.κ ((⟨q,l⟩:dM).sub i' j'):=by intro q r l i j i' j' hq;exact lH hq r (l++ [(i',j')])
 have:=qL hIL hEL (by exact hfz) (iE.of_below hb) (sz:=P.cellsOf el) (rows:=rows) btn
  (λp s rs h=>by
    refine⟨?_,λhk=> ?_⟩
    ·obtain⟨pr,pl⟩:=p;obtain⟨h0,h1⟩:=below _ _ _ h;simp only at h0;subst h0;rcases h1 with ⟨h1,h2,h3⟩| ⟨i,j,l,hl,⟨_,h2⟩| ⟨q,rs0,h1,h2,n,h3⟩⟩
     ·simp only at h1;subst h1 h3;show rs.length<=len;omega
     ·rw[h2];exact bO _
     ·simp only at hl;subst hl;obtain⟨_,e2⟩:=lH (bt:=bt) (b:=w.heap.size) (n:=len) h1 0 l;show rs.length<=(lG bt S (gk P 9 el) vss w.heap.size len).κ _;rw[e2];have:=(hI.tr _ _ _ h2).1;rw[h3,cR];omega
    ·rcases nested p s rs h hk with ⟨rfl,rfl,rfl⟩| ⟨i,j,l,q,rs0,n,rfl,h1,h2,h3,e1,e2⟩
     ·refine⟨.inl hI.size,cs,el,iy w _,⟨by show 0+len*_<=_;rw[hcs,aP];exact az _,.inl rfl⟩,hone,λi r hi=> ?_⟩;have hil:i<vss.length:=by rw[<-p1];exact (ai.1 hi).1
      obtain⟨r',k1,k2,k3⟩:=p2 i _ (aq hil);rw[hi] at k1;cases k1;obtain⟨y,hy,e1,e2⟩:=hparts i _ (aq hil);refine⟨by rw[k2,e2],λj x hj=> ?_⟩;obtain⟨vs,v,s',l',c,k1,k2,k3,k4,k5,k6,k7,k8⟩:=cellAt i j r x hi hj;refine⟨c,(by show cs[0+_]? =_;rw[aP];exact k7),?_⟩;rcases jc k4 with ⟨e1,e2⟩| ⟨q,len',rows',rfl,e2,e3,e4,rfl,rfl⟩
      ·exact (e2 w bt c k8).hr _ _
      ·have hg:fm S (gk P 9 el) vss i j q:=⟨vs,_,s',_,k1,k2,k3,k4⟩
       obtain⟨m1,m2⟩:=lH (bt:=bt) (b:=w.heap.size) (n:=len) hg 0 [];cases k8 with
       |own hp hc hk ha=>
        rename_i ad cap;have hl: (rows'.take len').length=len':=by simp;omega
        have:=HR.sl (bt:=btn) (p:=(⟨0,[]⟩:dM).sub i j) (sz:=s') (rows:=rows'.take len') (a:=ad) (cap:=cap) (by rw[hl];exact hc) (by show cap<=(lG bt S (gk P 9 el) vss w.heap.size len).κ ⟨0,(i,j):: []⟩;rw[m2];omega) (λh=>by show ad=some ⟨((lG bt S (gk P 9 el) vss w.heap.size len).β ⟨0,(i,j):: []⟩).1,((lG bt S (gk P 9 el) vss w.heap.size len).β ⟨0,(i,j):: []⟩).2,none⟩;rw[m1,ha h,bQ];rfl)
        rw[hl] at this;exact this
     ·rw[e2] at hk;obtain⟨g1,cs0,ee,k1,k2,k3,k4⟩:=(hI.tr _ _ _ h2).2 hk;rw[e1];refine⟨g1,cs0,ee,?_,by rw[e1,e2];exact k2,k3,λi' r hi=> ?_⟩
      ·grind
      ·rw[h3,bn] at hi;split at hi
       ·obtain⟨m1,m2⟩:=k4 i' r hi;refine⟨m1,λj' x hj=> ?_⟩;obtain⟨c,m3,m4⟩:=m2 j' x hj
        exact⟨c,by rw[e1];exact m3,by
         obtain⟨z1,z2⟩:=hsub q 0 l i j i' j' h1;cases m4 with
         |sc h=>exact .sc h
         |dd u=>exact .dd _
         |sl hc hk ha=>exact .sl hc (by rw[z2];exact hk) (by rw[z1];exact ha)⟩
       ·cases hi)
  (λp q s rs s' rs' h h' hk hk' he=>by
    rcases nested p s rs h hk with ⟨rfl,rfl,rfl⟩| ⟨i,j,l,q1,rs0,n,rfl,h1,h2,h3,e1,e2⟩<;>rcases nested q s' rs' h' hk' with ⟨rfl,rfl,rfl⟩| ⟨i',j',l',q2,rs0',n',rfl,h1',h2',h3',e1',e2'⟩
    ·rfl
    ·rw[e1'] at he;rw[e2'] at hk';have:=hI.βlt h2' hk';have he':w.heap.size=(bt.β ⟨q2,l'⟩).1:=he;omega
    ·rw[e1] at he;rw[e2] at hk;have:=hI.βlt h2 hk;have he': (bt.β ⟨q1,l⟩).1=w.heap.size:=he;omega
    ·rw[e1,e1'] at he;rw[e2] at hk;rw[e2'] at hk';have:=hI.inj _ _ _ _ _ _ h2 h2' hk hk' he
     grind)
  (λp s rs h hk=>by
    rcases nested p s rs h hk with ⟨rfl,rfl,rfl⟩| ⟨i,j,l,q,rs0,n,rfl,h1,h2,h3,e1,e2⟩
    ·refine⟨f1,λq s rs hq hkq=>f2 q s rs (je hq).2 hkq,f3⟩
    ·rw[e2] at hk;rw[e1];refine⟨λn cs hn=>hI.bbtr _ _ _ _ _ hn h2 hk,λq' s' rs' hq hkq he=> ?_,hI.atr _ _ _ h2 hk⟩;obtain⟨z1,z2⟩:=je hq;have:=hI.inj _ _ _ _ _ _ z2 h2 hkq hk he
     grind)
 obtain⟨bt',g1,g2,g3,g4,g5⟩:=this
 have hmk:S.make ⟨S.ng,[.sl (P.cellsOf el) rows],fO L⟩= { dropL S L with gh:=dQ (dropL S L).gh S.ng (some (.sl (P.cellsOf el) rows)),ng:=S.ng+1 } :=by
  unfold St.make dropL;simp only[bD,bU,aP,fT]
  congr 1
  funext r
  simp only[dQ];by_cases hr:r=S.ng
  ·subst hr;simp
  ·rw[if_neg (by omega),if_neg hr]
 refine⟨_,_,bt',hrun,?_,g2,ib g3 g4 g5 (az _)⟩;rw[hmk];refine⟨g1.inv,g1.er,g1.fz,trivial,g1.ng,g1.keep,λr hr hn=> ?_⟩;have:=g1.gone r hr hn;unfold dropL at this;simp only at this;split at this
 ·rename_i hc;have:=(jS hp r (by simpa using hc)).1;have hr':r<S.fz:=hr;omega
 ·exact this
end
end
section
open Go Go.RowKit
section
variable {P:Program} {w0 w wa w':World} {W:Nat->Prop} {btI bt bt0 bt1 bt':Bt} {SI S S0 S1 S':St} {a a':Act} {D:iC} {Q:Exit->Act->World->Prop}
theorem l9(S:St):dropL S [] =S:=by unfold dropL;simp
theorem vY(S:St)(q:Nat):dropL S [q] = { S with gh:=dQ S.gh q none } :=by
 unfold dropL
 congr 1
 funext r
 simp_all [dQ]
theorem oS{sz:Nat}{fl:Bool}{av:AV}{more:List (List T)}{L:List Nat}(h:eN S sz fl av=some (more,L)):source S sz fl av=some (more,dropL S L):=by
 unfold eN at h;split at h
 ·simp only[af,au] at h;obtain⟨rfl,rfl⟩:=h;rw[l9];rfl
 ·split at h
  ·rename_i hc;simp only[af,au] at h;obtain⟨rfl,rfl⟩:=h;rw[l9];simp only[source];rw[if_pos hc]
  ·cases h
 ·rename_i p s lo len;split at h
  ·rename_i hs;simp only[ah] at h;obtain⟨rows,hr,h⟩:=h;simp only[source];rw[if_pos hs,hr];simp only[ao];split at h
   ·rename_i hc;simp only[af,au] at h;obtain⟨rfl,rfl⟩:=h;rw[if_pos hc,vY]
   ·rename_i hc;rw[if_neg hc];split at h
    ·rename_i hc';simp only[af,au] at h;obtain⟨rfl,rfl⟩:=h;rw[if_pos hc',l9]
    ·cases h
  ·cases h
 ·cases h
theorem pi[dE](hI:eh w0 W bt S w)(hE:ER w bt S a)(hfz:S.fz<=S.ng){t ty el:TypeId}(hel:i8 P t=some el){bav xav:AV}{bv xv:Value}(hb:VR w bt bav bv)(hx:VR w bt xav xv){rows more:List (List T)}{cons:List Nat}
  {fl:Bool} {L:List Nat} (hs:eN S (P.cellsOf el) fl xav=some (more,L)) (h:gD (dropL S L) (P.cellsOf el) bav=some (rows,cons)) (hby: (rows.length+more.length)*P.bytesOf el<=2 ^ 40) (hn:rows.length+more.length<=2 ^ 40) (hpos:0<P.cellsOf el) (hz: (mL P el).isSome=true):
  ∃u w' bt',(Builtin.append_ #[t,t] ty #[bv,xv]).run P w= .ok u w'/\eO w0 W bt S a bt' (S.make ⟨S.ng,[.sl (P.cellsOf el) (rows++more)],fO (L++cons)⟩) w'/\bt.le bt'/\VR w' bt' (.own ⟨S.ng,[]⟩ (P.cellsOf el) 0 (rows.length+more.length)) u:=by
 obtain⟨zr,hz⟩:=aY.1 hz;obtain⟨zs,h1,h2,_,_⟩:=kA hz;obtain⟨i,zv,hi,hzv,rfl,hall⟩:=fS h1;have hsz:P.cellsOf el=i.size:=by simp[Program.cellsOf,hi]
 have hbz:P.bytesOf el=i.bytes:=by simp[Program.bytesOf,hi]
 obtain⟨src,news,hsrc⟩:=lT hI hpos hx (oS hs);have hID:eh w0 W bt (dropL S L) w:=hI.dropL L;have hone: ∀u∈zv.cells.toList,u.oneCell'=true:=λu hu=>ay.1 hall u hu
 have go: ∀ {ab:Option Addr} {cap:Nat} {bp:Option dM} {olds:List Value} {S1:St},De w bt (dropL S L) S1 (P.cellsOf el) rows bv ab cap bp olds->
   S.make ⟨S.ng,[.sl (P.cellsOf el) (rows++more)],fO (L++cons)⟩= { S1 with gh:=dQ S1.gh S.ng (some (.sl (P.cellsOf el) (rows++more))),ng:=S.ng+1 } -> ∃u w' bt',(Builtin.append_ #[t,t] ty #[bv,xv]).run P w= .ok u w'/\eO w0 W bt S a bt' (S.make ⟨S.ng,[.sl (P.cellsOf el) (rows++more)],fO (L++cons)⟩) w'/\bt.le bt'/\VR w' bt' (.own ⟨S.ng,[]⟩ (P.cellsOf el) 0 (rows.length+more.length)) u:=by
  intro ab cap bp olds S1 hbas hSe
  obtain⟨u,w',b,cap',hr,hap⟩:=nJ (P:=P) (w:=w) (t:=t) (ty:=ty) (e:=el) (i:=i) (z:=zv) (ab:=ab) (len:=rows.length) (cap:=cap) (m:=more.length) (olds:=olds) (news:=news) (x:=xv) (eY hel) hi hzv (by rw[<-hsz,<-h2];simp) hone (by omega) hbas.le (by rw[<-hsz];exact hbas.len) (by rw[<-hsz];exact hsrc.len) (by rw[<-hsz];exact hbas.cur)
   (by
     rcases hsrc.val with ⟨h,h'⟩|h
     all_goals grind) hsrc.one hn (by rw[<-hbz];exact hby)
  rw[<-hsz] at hap;obtain⟨bt',g1,g2,g3⟩:=mO hI hE hfz hsrc hbas hap;rw[hSe];refine⟨u,w',bt',?_,g1,g2,g3⟩;rw[hbas.val];exact hr
 cases hb with
 |em ab=>
  simp only[gD,af,au] at h;obtain⟨rfl,rfl⟩:=h;refine go (ab:=ab) (cap:=0) (bp:=none) (olds:=[]) (S1:=dropL S L) ⟨rfl,az _,λh=>absurd h (by omega),by simp,λi r hi=>by simp at hi,λh=>absurd h (by omega),rfl,λp hp=>(nomatch hp),λ_=>rfl⟩ ?_;unfold St.make dropL;simp only[bD,bU,aP,fT,bP]
  congr 1
  funext r
  simp only[dQ]
  grind
 |own hp hcap hk ha=>
  rename_i q s' lo' len ad cap;simp only[gD] at h;split at h
  ·rename_i hc;obtain⟨rfl,rfl,hql,hfz'⟩:=hc;simp only[ah] at h;obtain⟨rows0,hrows,h⟩:=h;split at h
   ·cases h
   ·rename_i hlen;simp only[af,au] at h;obtain⟨rfl,rfl⟩:=h;have hlook:=fw hrows;have htl: (rows0.take len).length=len:=by simp;omega
    have hlr:rows0.length<=bt.κ q:=(hID.tr _ _ _ hlook).1
    obtain⟨olds,hol,holds,hcur⟩: ∃olds:List Value,olds.length=len*P.cellsOf el/\(∀ (i:Nat) (r:List T),(rows0.take len)[i]? =some r->r.length=P.cellsOf el/\ ∀ (j:Nat) (y:T),r[j]? =some y-> ∃c,olds[i*P.cellsOf el+j]? =some c/\yW bt (some q) i j y c)/\
      (0<cap-> ∃g O cur e',ad=some ⟨g,O,none⟩/\w.heap[g]? =some (.cells cur e' (0,0))/\O+cap*P.cellsOf el<=cur.size/\(∀ (k:Nat) (u:Value),cur[k]? =some u->u.oneCell'=true)/\ ∀ (k:Nat) (u:Value),olds[k]? =some u->cur[O+k]? =some u):=by
     rcases bo cap with h0|h0
     ·simp_all
     ·obtain⟨olds,g1,g2,g3,g4⟩:=iZ hID (lo:=0) (len:=len) hlook (by omega) (by omega);obtain⟨_,arr,e,k1,k2,k3,k4⟩:=(hID.tr _ _ _ hlook).2 (by omega);refine⟨olds,g1,λi r hi=> ?_,λ_=>⟨(bt.β q).1,(bt.β q).2,arr,e,by rw[ha h0,bQ];rfl,k1,aX (du (bz _ (by omega)) _) k2.1,k3,λk u hk'=> ?_⟩⟩
      ·rw[cE] at g4;obtain⟨m1,m2⟩:=g4 i r hi;refine⟨m1,λj y hy=> ?_⟩;obtain⟨c,m3,m4⟩:=m2 j y hy;rw[aP] at m4;exact⟨c,m3,m4⟩
      ·have:=g3 k u hk';rw[Go.Proofs.YtkghndikalnipaaGreat.En.add_lit,gq k1,bQ,bI] at this;exact this
    refine go (ab:=ad) (cap:=cap) (bp:=some q) (olds:=olds) (S1:={ dropL S L with gh:=dQ (dropL S L).gh q.r none })
     ⟨by rw[htl],by rw[htl];exact hcap,λh0=>⟨q,rfl,by rw[ha h0,bQ];rfl,by omega⟩,by rw[htl];exact hol,holds,hcur,by simp[hql],λp hp=>by grind,λh=>by cases h⟩ ?_
    unfold St.make dropL;simp only[bD,bU,aP,fT]
    congr 1
    funext r
    simp only[dQ]
    grind
  ·cases h
 | _=>simp[gD] at h
theorem xS(S:St)(t:T):S.make ⟨S.ng,[t],[]⟩= { S with gh:=dQ S.gh S.ng (some t),ng:=S.ng+1 } :=by
 unfold St.make;simp only
 congr 1
 funext r
 simp only[dQ,cy];split
 ·rename_i h;have :r=S.ng:=by omega
  subst this;rw[if_pos rfl];simp
 ·rename_i h;rw[if_neg (show ¬r=S.ng by omega)];rfl
theorem na[dE](hD:fr P D)(hI:eh w0 W bt S w)(hE:ER w bt S a)(hfz:S.fz<=S.ng){o:Oper}(hok:fY P o=true){v:AV}{adds:List T}{cons:List Nat}(hs:ed D P S o=some (v,adds,cons)){K:Act->World->Prop}
  (hK: ∀bt1 u w',eO w0 W bt S a bt1 (S.make ⟨S.ng,adds,cons⟩) w'->bt.le bt1->VR w' bt1 (shift S.ng v) u->K (a.put o.dst u) w'):o.wp P a w K Q:=by
 obtain⟨dst,op,type,pos,after,guard⟩:=o;cases op with
 |buildSlice t len parts=>
  simp only[ed,ah] at hs;obtain⟨el,hel,hs⟩:=hs;split at hs
  ·rename_i hc;obtain⟨h1,h2,h3,h4,h5⟩:=hc;simp only[ah,Prod.exists] at hs;obtain⟨rows,L,hp,hs⟩:=hs;split at hs
   ·rename_i hnd;simp only[af,au] at hs;obtain⟨rfl,rfl,rfl⟩:=hs;obtain⟨u,w',bt',g1,g2,g3,g4⟩:=qq hI hE hfz hel h1 h2 h3 h4 h5 hp hnd;unfold Oper.wp;have hr: (execOp a.eval ⟨dst,.buildSlice t len parts,type,pos,after,guard⟩).run P w= .ok (.value u) w':=by simp[execOp,g1]
    rw[hr,Oper.upon_value];refine hK bt' u w' g2 g3 ?_
    simp_all [shift,ff,fp]
   ·cases hs
  ·cases hs
 |call c=>
  obtain⟨cl,as,ts⟩:=c;cases cl with
  |invoke r m=>simp[ed] at hs
  |value f=>
   simp only[ed,ah,aj,au] at hs;obtain⟨⟨g,caps⟩,hc,⟨res,out⟩,hr,rfl,rfl,rfl⟩:=hs;simp only[fY,beq_iff_eq] at hok;refine nV hD hI hE rfl hok hc hr (λu w' btn hC hv=> ?_);obtain⟨bt',g1,g2,g3⟩:=kH hI hE hfz hC hv;refine hK bt' u w' ?_ g2 g3
   have e: (S.make ⟨S.ng,out,[]⟩)=(install S (res,out)).2:=by
    unfold St.make install;simp only
    congr 1
   rw[e];exact g1
  |builtin b=>
   cases b with
   |append=>
    simp only[ed] at hs;split at hs
    ·rename_i s x t t' e1 e2;have e1:as= #[s,x] :=by apply Array.ext';simpa using e1
     have e2:ts= #[t,t'] :=by apply Array.ext';simpa using e2
     subst e1 e2;split at hs
     ·rename_i htt;subst htt;simp only[ah] at hs;obtain⟨el,hel,⟨more,L⟩,h1,⟨rows,cs⟩,h2,hs⟩:=hs;simp only at h1 h2 hs;split at hs
      ·rename_i hc;obtain⟨k1,k2,k3,k4⟩:=hc;simp only[af,au] at hs;obtain⟨rfl,rfl,rfl⟩:=hs;obtain⟨u,w',bt',g1,g2,g3,g4⟩:=pi (ty:=type) hI hE hfz hel (dP hE s) (dP hE x) h1 h2 k1 k2 k3 k4;unfold Oper.wp;have hr: (execOp a.eval ⟨dst,.call { callee:=.builtin .append,args:=#[s,x],argTypes:=#[t,t] },type,pos,after,guard⟩).run P w= .ok (.value u) w':=by simp[execOp,resolve,invoke,builtin,g1]
       rw[hr,Oper.upon_value];refine hK bt' u w' g2 g3 ?_
       simp_all [shift,ff,fp]
      ·cases hs
     ·cases hs
    ·cases hs
   | _=>simp[ed] at hs
 |makeSlice t l c=>
  simp only[ed,ah] at hs;obtain⟨el,hel,n,hn,m,hm,z,hz,h⟩:=hs;split at h
  ·rename_i hc;obtain⟨h0,rfl,h2,h3⟩:=hc;simp only[af,au] at h;obtain⟨rfl,rfl,rfl⟩:=h;obtain⟨kl,hl⟩:=ia hn (dP hE l);obtain⟨kc,hc⟩:=ia hm (dP hE c);obtain⟨u,w',bt',g1,g2,g3,g4⟩:=jw (kl:=kl) (kc:=kc) hI hE hfz hel hz h0 h2 h3;unfold Oper.wp;have hr: (execOp a.eval ⟨dst,.makeSlice t l c,type,pos,after,guard⟩).run P w= .ok (.value u) w':=by simp[execOp,hl,hc,g1]
   rw[hr,Oper.upon_value];refine hK bt' u w' (by rw[xS];exact g2) g3 ?_;simp only[shift,ff,fp,aP];exact g4
  ·cases h
 | _=>simp[ed] at hs
theorem VR.two{bt2:Bt}(hnb:bt2.nb=bt1.nb)(hbb:bt2.bb=bt1.bb)(hA:bt2.A=bt1.A)(hng:bt0.ng<=bt2.ng)(hp: ∀p:dM,p.r<bt0.ng->0<bt1.κ p->bt2.β p=bt1.β p/\bt2.κ p=bt1.κ p){v:AV}{c0:Value}(h0:VR wa bt0 v c0): ∀ {c:Value},VR w' bt1 v c->VR w' bt2 v c:=by
 induction h0 with
 |sc h=>intro c h1;cases h1 with |sc h=>exact .sc h
 |em a=>intro c h1;cases h1 with |em a=>exact .em a
 |ro h=>intro c h1;cases h1 with |ro h=>exact .ro (by rw[hA];exact h)
 |own q1 q2 q3 q4=>
  intro c h1;cases h1 with
  |own hp' hc hk ha=>
   rename_i p sz lo len _ _ ad cap;rcases bo (bt1.κ p) with h0|h0
   ·exact .own (aM q1 hng) hc (by omega) (λh=>absurd h (by omega))
   ·obtain⟨e1,e2⟩:=hp p q1 h0;exact .own (aM q1 hng) hc (by rw[e2];exact hk) (by rw[e1];exact ha)
 |pro cs hs hb hr ht=>intro c h1;cases h1 with |pro cs hs hb hr ht=>exact .pro cs hs (by rw[hA];exact hb) hr (λj x hx=>by rw[hA];exact ht j x hx)
 |ptrB j hn=>
  intro c h1;cases h1 with
  |ptrB j hn=>rw[<-hbb];exact .ptrB j (by rw[hnb];exact hn)
 |ptrT sz i j q1 q2=>
  intro c h1;cases h1 with
  |ptrT sz i j hp' hk=>rename_i p;obtain⟨e1,e2⟩:=hp p q1 (by omega);rw[<-e1];exact .ptrT sz i j (aM q1 hng) (by rw[e2];exact hk)
 |fn f hl h ih=>
  intro c h1;rename_i caps us0;cases h1 with
  |fn f hl' h'=>
   rename_i us;refine .fn f hl' (λk c u k1 k2=> ?_)
   grind
 |agg hl ho h ih=>
  intro c h1;rename_i cs us0;cases h1 with
  |agg hl' ho' h'=>
   refine .agg hl' ho' (λk c u k1 k2=> ?_)
   grind
 |tup hl h ih=>
  intro c h1;rename_i cs us0;cases h1 with
  |tup hl' h'=>
   refine .tup hl' (λk c u k1 k2=> ?_)
   grind
 |dead u=>intro c _;exact .dead c
def Bt.moved(bt:Bt)(N b k:Nat):Bt:={ bt with
 β:=λp=>if b<=p.r/\p.r<b+k then bt.β ⟨N+(p.r-b),p.l⟩ else bt.β p
 κ:=λp=>if b<=p.r/\p.r<b+k then bt.κ ⟨N+(p.r-b),p.l⟩ else bt.κ p
 ng:=N }
def St.moved(S:St)(N b k:Nat):St:={ S with gh:=λr=>if b<=r/\r<b+k then S.gh (N+(r-b)) else if r<N then S.gh r else none,ng:=N }
theorem eh.moved[dE](hI0:eh w0 W bt0 S0 wa)(hle:bt0.le bt1)(hI1:eh w0 W bt1 S1 w'){N b k:Nat}(hbx:S1.bx=S0.bx)(hN0:S0.ng=N)(hN1:S1.ng=N+k)(hb:b+k<=N)(hκ: ∀p:dM,b<=p.r->p.r<b+k->bt0.κ p=0):
  eh w0 W (bt1.moved N b k) (S1.moved N b k) w'/\ ∀ {v:AV} {c0 c:Value},VR wa bt0 v c0->VR w' bt1 v c->VR w' (bt1.moved N b k) v c:=by
 have hng0:bt0.ng=N:=hI0.ng.trans hN0
 have two: ∀ {v:AV} {c0 c:Value},VR wa bt0 v c0->VR w' bt1 v c->VR w' (bt1.moved N b k) v c:=by
  intro v c0 c h0 h1;refine VR.two (bt1:=bt1) (bt2:=bt1.moved N b k) rfl rfl rfl (by rw[hng0];exact az N) (λp hp hk=> ?_) h0 h1
  have hn: ¬ (b<=p.r/\p.r<b+k):=λh=>by have:=hle.κ p hp;rw[hκ p h.1 h.2] at this;omega
  simp only[Bt.moved];rw[if_neg hn,if_neg hn];exact⟨rfl,rfl⟩
 refine⟨?_,two⟩
 have look: ∀p s rs,(S1.moved N b k).look p= .sl s rs->p.r<N/\ ∃q:dM,q.l=p.l/\S1.look q= .sl s rs/\(bt1.moved N b k).β p=bt1.β q/\(bt1.moved N b k).κ p=bt1.κ q/\(∀i j,(bt1.moved N b k).β (p.sub i j)=bt1.β (q.sub i j)/\(bt1.moved N b k).κ (p.sub i j)=bt1.κ (q.sub i j))/\
   ((b<=p.r/\p.r<b+k/\q.r=N+(p.r-b))\/(¬ (b<=p.r/\p.r<b+k)/\q.r=p.r)):=by
  intro p s rs h;unfold St.look St.moved at h;simp only at h;by_cases hr:b<=p.r/\p.r<b+k
  ·rw[if_pos hr] at h;refine⟨by omega,⟨N+(p.r-b),p.l⟩,rfl,h,by simp only[Bt.moved];rw[if_pos hr],by simp only[Bt.moved];rw[if_pos hr],λi j=>⟨?_,?_⟩,.inl ⟨hr.1,hr.2,rfl⟩⟩
   all_goals simp_all [Bt.moved,dM.sub]
  ·rw[if_neg hr] at h;by_cases hlt:p.r<N
   ·rw[if_pos hlt] at h;refine⟨hlt,p,rfl,h,by simp only[Bt.moved];rw[if_neg hr],by simp only[Bt.moved];rw[if_neg hr],λi j=>⟨?_,?_⟩,.inr ⟨hr,rfl⟩⟩
    all_goals simp_all [Bt.moved,dM.sub,if_neg]
   ·rw[if_neg hlt] at h;cases h
 exact { good:=hI1.good,os:=hI1.os,tape:=hI1.tape,output:=hI1.output,size:=hI1.size,keep:=hI1.keep,nb:=hI1.nb,ng:=rfl
         bx:=λn cells hn=>by
          obtain⟨h1,h2,cs,e,h3,h4,h5⟩:=hI1.bx n cells hn;refine⟨h1,h2,cs,e,h3,h4,λj v hj=> ?_⟩;obtain⟨c,k1,k2,k3⟩:=h5 j v hj;have hn':S0.bx n=some cells:=by rw[<-hbx];exact hn
          obtain⟨_,_,cs0,e0,m3,m4,m5⟩:=hI0.bx n cells hn'
          grind
         gh:=λr t h=>by
          show r<N;have h': (if b<=r/\r<b+k then S1.gh (N+(r-b)) else if r<N then S1.gh r else none)=some t:=h
          grind
         tr:=λp s rs h=>by
          obtain⟨_,q,_,hq,e1,e2,e3,_⟩:=look p s rs h;obtain⟨k1,k2⟩:=hI1.tr _ _ _ hq;rw[e1,e2];refine⟨k1,λhk=>⟨(k2 hk).1,?_⟩⟩;obtain⟨_,cs,e,g1,g2,g3,g4⟩:=k2 hk;refine⟨cs,e,by rw[e1];exact g1,by rw[e1,e2];exact g2,g3,λi r hi=> ?_⟩;obtain⟨m1,m2⟩:=g4 i r hi;refine⟨m1,λj x hj=> ?_⟩;obtain⟨c,m3,m4⟩:=m2 j x hj;refine⟨c,by rw[e1];exact m3,?_⟩;cases m4 with
          |sc h=>exact .sc h
          |dd u=>exact .dd _
          |sl q1 q2 q3=>exact .sl q1 (by rw[(e3 i j).2];exact q2) (by rw[(e3 i j).1];exact q3)
         inj:=λp q s rs s' rs' h h' hk hk' he=>by
          obtain⟨l1,p1,a1,b1,c1,d1,_,r1⟩:=look p s rs h;obtain⟨l2,p2,a2,b2,c2,d2,_,r2⟩:=look q s' rs' h';rw[d1] at hk;rw[d2] at hk';rw[c1,c2] at he;have:=hI1.inj _ _ _ _ _ _ b1 b2 hk hk' he;subst this;obtain⟨pr,pl⟩:=p;obtain⟨qr,ql⟩:=q
          grind
         bbinj:=hI1.bbinj
         bbtr:=λn c p s rs h h' hk=>by obtain⟨_,q,_,hq,e1,e2,_,_⟩:=look p s rs h';rw[e2] at hk;rw[e1];exact hI1.bbtr _ _ _ _ _ h hq hk
         alt:=hI1.alt
         atr:=λp s rs h hk=>by obtain⟨_,q,_,hq,e1,e2,_,_⟩:=look p s rs h;rw[e2] at hk;rw[e1];exact hI1.atr _ _ _ hq hk
         abb:=hI1.abb }
end
end
section
open Go Go.RowKit
section
variable {P:Program} {S SV:St} {D:iC}
def gf(S S':St)(v:AV):Prop:=∀r∈gy v,S'.gh r=S.gh r
theorem fK{S S':St}{p:dM}{sz:Nat}(h:S'.gh p.r=S.gh p.r):S'.rows p sz=S.rows p sz:=by unfold St.rows St.look;rw[h]
theorem uk{g:Nat->Option T}{n:Nat}{t:TypeId}{v:AV}(h:gf S { S with gh:=g,ng:=n } v):load P { S with gh:=g,ng:=n } t v=load P S t v:=by
 cases v with
 |ptrT p sz i j=>have:=fK (S:=S) (S':={ S with gh:=g,ng:=n }) (p:=p) (sz:=sz) (h p.r (by simp[gy]));simp only[load,dR,this]
 | _=>rfl
theorem ut{g:Nat->Option T}{n sz:Nat}{v:AV}(h:gf S { S with gh:=g,ng:=n } v):T.ofAV { S with gh:=g,ng:=n } sz v=T.ofAV S sz v:=by
 cases v with
 |own p s lo len=>have:=fK (S:=S) (S':={ S with gh:=g,ng:=n }) (p:=p) (sz:=s) (h p.r (by simp[gy]));simp only[T.ofAV,this]
 | _=>rfl
theorem fu{p:Nat->Bool}: ∀ {cs:List AV} {c:AV},ju p cs=true->c∈cs->fj p c=true
 | [],_,_,h=>by cases h
 |d::cs,c,h,hm=>by
  unfold ju at h;simp only[ak] at h;rcases aZ.1 hm with rfl|hm
  ·exact h.1
  ·exact fu h.2 hm
theorem nT{p:Nat->Bool}: ∀ {cs:List AV},(∀c∈cs,fj p c=true)->ju p cs=true
 | [],_=>rfl
 |c::cs,h=>by unfold ju;rw[h c aK,nT λx hx=>h x (aI _ hx)];rfl
theorem hO{q:Nat->Bool}{g:Nat->Option T}{n sz:Nat}{v:AV}(hp:fj q v=true)(h:gf S { S with gh:=g,ng:=n } v)(hb: ∀k,q k=true-> ∀cs,S.bx k=some cs-> ∀c∈cs,gf S { S with gh:=g,ng:=n } c):eC { S with gh:=g,ng:=n } sz v=eC S sz v:=by
 cases v with
 |own p s lo len=>have:=fK (S:=S) (S':={ S with gh:=g,ng:=n }) (p:=p) (sz:=s) (h p.r (by simp[gy]));simp only[eC,this]
 |ptrT p s i j=>have:=fK (S:=S) (S':={ S with gh:=g,ng:=n }) (p:=p) (sz:=s) (h p.r (by simp[gy]));simp only[eC,this]
 |ptrB b j=>
  simp only[eC];cases hbx:S.bx b with
  |none=>rfl
  |some cs=>
   simp only
   congr 1
   exact aE λc hc=>ut (hb b hp cs hbx c (bF hc))
 | _=>rfl
theorem mA{v:AV}{cs:List AV}(hv:v= .agg cs\/ ∃f,v= .fn f cs){S':St}(h:gf S S' v): ∀c∈cs,(∀p s lo len,c= .own p s lo len->S'.gh p.r=S.gh p.r)/\(∀p s i j,c= .ptrT p s i j->S'.gh p.r=S.gh p.r):=by
 intro c hc;refine⟨λp s lo len he=>h p.r ?_,λp s i j he=>h p.r ?_⟩
 ·subst he;rcases hv with rfl| ⟨f,rfl⟩<;>(grind [gy])
 ·subst he;rcases hv with rfl| ⟨f,rfl⟩<;>(grind [gy])
theorem iT{q:Nat->Bool}{g:Nat->Option T}{n sz:Nat}{c:AV}(hp:fj q c=true)(h: (∀p s lo len,c= .own p s lo len->g p.r=S.gh p.r)/\(∀p s i j,c= .ptrT p s i j->g p.r=S.gh p.r))(hb: ∀k,q k=true-> ∀cs,S.bx k=some cs-> ∀c∈cs,gf S { S with gh:=g,ng:=n } c):eC { S with gh:=g,ng:=n } sz c=eC S sz c:=by
 cases c with
 |own p s lo len=>exact hO hp (λr hr=>by simp_all [gy]) hb
 |ptrT p s i j=>exact hO hp (λr hr=>by simp_all [gy]) hb
 |ptrB b j=>exact hO hp (λr hr=>by simp[gy] at hr) hb
 | _=>rfl
theorem sU{q:Nat->Bool}{g:Nat->Option T}{n:Nat}{szs:List Nat}{v:AV}(hp:fj q v=true)(h:gf S { S with gh:=g,ng:=n } v)(hb: ∀k,q k=true-> ∀cs,S.bx k=some cs-> ∀c∈cs,gf S { S with gh:=g,ng:=n } c):fk { S with gh:=g,ng:=n } szs v=fk S szs v:=by
 cases v with
 |agg cs=>
  have hc:=mA (.inl rfl) h;simp only[fk];split
  ·congr 1
   apply bA;intro k;rw[bi,bi];cases hs:szs[k]? with
   |none=>rfl
   |some s=>
    cases hx:cs[k]? with
    |none=>rfl
    |some c=>simp only;rw[iT (fu hp (aA hx)) (hc c (aA hx)) hb]
  ·rfl
 |fn f caps=>
  have hc:=mA (.inr ⟨f,rfl⟩) h;simp only[fk]
  congr 1
  exact aE λc hcm=>iT (fu hp hcm) (hc c hcm) hb
 |em=>rfl
 | _=>exact hO (sz:=szs.headD 0) hp h hb
theorem iw(g:Nat->Option T)(n:Nat)(x:Operand):opd { S with gh:=g,ng:=n } x=opd S x:=by cases x<;>rfl
theorem uC(g:Nat->Option T)(n:Nat)(o:Oper):dL P { S with gh:=g,ng:=n } o=dL P S o:=by unfold dL;simp only[iw]
theorem zp(g:Nat->Option T)(n:Nat)(d:Int)(x:Option Operand):gg { S with gh:=g,ng:=n } d x=gg S d x:=by cases x<;>simp only[gg,iw]
theorem tu{g:Nat->Option T}{n:Nat}{o:Oper}(hn:eA o=false)(h: ∀x∈o.op.operands,gf S { S with gh:=g,ng:=n } (opd S x)):dD D P { S with gh:=g,ng:=n } o=dD D P S o:=by
 have sc:=uC (P:=P) (S:=S) g n o;obtain⟨dst,op,type,pos,after,guard⟩:=o;cases op with
 |load t x=>grind [dD,iw,uk,Op.operands]
 |makeFunc fn first caps=>cases fn<;>grind [List.map_congr_left,iw,dD]
 |unOp op t x=>cases op<;>simp only[dD,iw,sc]
 |binOp op t x y t'=>cases op<;>simp only[dD,iw,sc]
 |slice t x lo hi mx=>cases mx<;>simp only[dD,iw,zp,sc]
 |call c=>
  obtain⟨cl,as,ts⟩:=c;have e:as.toList.map (opd { S with gh:=g,ng:=n })=as.toList.map (opd S):=aE λx _=>iw g n x;cases cl with
  |builtin b=>cases b<;>first | (simp only[dD];rw[e,sc];done)| (simp only[dD,iw,sc];done)| (simp only[dD];exact sc)
  |value f=>simp[eA] at hn
  |invoke r m=>simp only[dD];exact sc
 | _=>first | (simp only[dD,iw,sc];done)| (simp only[dD];exact sc)
theorem pD{g:Nat->Option T}{n sz:Nat}{fl:Bool}{v:AV}(h:gf S { S with gh:=g,ng:=n } v):eN { S with gh:=g,ng:=n } sz fl v=eN S sz fl v:=by
 cases v with
 |own p s lo len=>have:=fK (S:=S) (S':={ S with gh:=g,ng:=n }) (p:=p) (sz:=sz) (h p.r (by simp[gy]));simp only[eN,this]
 | _=>rfl
theorem rv{g:Nat->Option T}{n sz:Nat}{L:List Nat}{v:AV}(h:gf S { S with gh:=g,ng:=n } v):gD (dropL { S with gh:=g,ng:=n } L) sz v=gD (dropL S L) sz v:=by
 cases v with
 |own p s lo len=>
  have : (dropL { S with gh:=g,ng:=n } L).rows p sz=(dropL S L).rows p sz:=fK (by unfold dropL;have:=h p.r (by simp[gy]);simp only at this ⊢;rw[this])
  simp only[gD,this];rfl
 | _=>rfl
theorem oM{v c:AV}(hc:c∈v.cells){q:Nat}(h: (∃p s lo len,c= .own p s lo len/\p.r=q)\/ ∃p s i j,c= .ptrT p s i j/\p.r=q):q∈gy v:=by
 cases v with
 |agg cs=>
  simp only[AV.cells] at hc;simp only[gy]
  grind
 | _=>simp_all [AV.cells,gy]
theorem qs{q:Nat->Bool}{f:Operand}{g:FuncId}{caps:List AV}(hc:callee S f=some (g,caps))(h:fj q (opd S f)=true): ∀c∈caps,fj q c=true:=by
 unfold callee at hc;split at hc
 ·grind
 ·rename_i g' cs he;simp only[af,au] at hc;obtain⟨rfl,rfl⟩:=hc;rw[he] at h
  exactλc hc=>fu h hc
 ·cases hc
theorem rE{f:Operand}{g:FuncId}{caps:List AV}(hc:callee S f=some (g,caps)){S':St}(h:gf S S' (opd S f)): ∀c∈caps,(∀p s lo len,c= .own p s lo len->S'.gh p.r=S.gh p.r)/\(∀p s i j,c= .ptrT p s i j->S'.gh p.r=S.gh p.r):=by
 unfold callee at hc;split at hc
 ·grind
 ·rename_i g' cs he;simp only[af,au] at hc;obtain⟨rfl,rfl⟩:=hc;exact mA (.inr ⟨g',he⟩) h
 ·cases hc
theorem rc{sz:Nat}{fl:Bool}{v:AV}{rows:List (List T)}{L:List Nat}(h:eN S sz fl v=some (rows,L)): ∀r∈L,r∈gy v:=by
 unfold eN at h;split at h
 ·grind
 ·grind
 ·split at h
  ·simp only[ah] at h;obtain⟨rs,_,h⟩:=h;split at h
   all_goals simp_all [gy]
  ·cases h
 ·cases h
theorem tU{sz:Nat}{v:AV}{rows:List (List T)}{cons:List Nat}(h:gD S sz v=some (rows,cons)): ∀r∈cons,r∈gy v:=by
 unfold gD at h;split at h
 ·grind
 ·split at h
  ·simp only[ah] at h;obtain⟨rs,_,h⟩:=h
   simp_all [gy]
  ·cases h
 ·cases h
theorem wB{g:Nat->Option T}{n:Nat}{ss:List Nat}{l:List (Nat×Operand)}(h: ∀x∈l,gf S { S with gh:=g,ng:=n } (opd S x.2)):eH { S with gh:=g,ng:=n } ss (l.map λx=>(opd S x.2).cells)=eH S ss (l.map λx=>(opd S x.2).cells):=by
 have fB: ∀ (v:AV),gf S { S with gh:=g,ng:=n } v-> ∀ss,eR { S with gh:=g,ng:=n } ss v.cells=eR S ss v.cells:=by
  intro v hv ss
  have one: ∀c∈v.cells,∀s,fQ { S with gh:=g,ng:=n } s c=fQ S s c:=by
   intro c hc s;unfold fQ;cases c with
   |own q s' lo len=>have:=fK (S:=S) (S':={ S with gh:=g,ng:=n }) (p:=q) (sz:=s') (hv q.r (oM hc (.inl ⟨q,s',lo,len,rfl,rfl⟩)));simp only[this]
   | _=>rfl
  generalize v.cells=vs at one
  induction vs generalizing ss with
  |nil=>cases ss<;>rfl
  |cons c vs ih=>
   cases ss with
   |nil=>rfl
   |cons s ss=>grind [eR]
 induction l with
 |nil=>rfl
 |cons x l ih=>grind [eH]
theorem tj{q:Nat->Bool}{g:Nat->Option T}{n:Nat}{o:Oper}(hp:im o=true-> ∀x∈o.op.operands,fj q (opd S x)=true)(h: ∀x∈o.op.operands,gf S { S with gh:=g,ng:=n } (opd S x))(hb: ∀k,q k=true-> ∀cs,S.bx k=some cs-> ∀c∈cs,gf S { S with gh:=g,ng:=n } c):ed D P { S with gh:=g,ng:=n } o=ed D P S o:=by
 obtain⟨dst,op,type,pos,after,guard⟩:=o;cases op with
 |buildSlice t len parts=>
  have hp: ∀ss,eH { S with gh:=g,ng:=n } ss (parts.toList.map λx=>(opd S x.2).cells)=eH S ss (parts.toList.map λx=>(opd S x.2).cells):=λss=>wB (λx hx=>h x.2 (by simp only[Op.operands,cH];exact aG.2 ⟨x,hx,rfl⟩))
  simp only[ed,iw,hp]
 |call c=>
  obtain⟨cl,as,ts⟩:=c;cases cl with
  |invoke r m=>rfl
  |value f=>
   simp only[ed];have hc:callee { S with gh:=g,ng:=n } f=callee S f:=by unfold callee;rw[iw]
   rw[hc];cases hcs:callee S f with
   |none=>rfl
   |some x=>
    obtain⟨g',caps⟩:=x;simp only[ao]
    have ha:args P { S with gh:=g,ng:=n } ts as caps=args P S ts as caps:=by
     unfold args
     congr 1
     ·apply bA;intro k;rw[bi,bi];cases ht:ts.toList[k]? with
      |none=>rfl
      |some t=>
       cases hx:as.toList[k]? with
       |none=>rfl
       |some x=>simp only;rw[iw,sU (hp rfl x (by grind [Op.operands,Call.operands])) (h x (by grind [Op.operands,Call.operands])) hb]
     ·refine aE λc hcm=> ?_;exact iT (sz:=0) (qs hcs (hp rfl f (by simp[Op.operands,Call.operands])) c hcm) (rE hcs (h f (by simp[Op.operands,Call.operands])) c hcm) hb
    rw[ha]
  |builtin b=>
   cases b with
   |append=>
    simp only[ed];split
    ·rename_i s x t t' e1 e2;have e1:as= #[s,x] :=by apply Array.ext';simpa using e1
     grind [iw,pD,Op.operands,Call.operands,rv]
    ·rfl
   | _=>rfl
 |makeSlice t l c=>simp only[ed,iw]
 | _=>rfl
theorem uI{o:Oper}{v:AV}{adds:List T}{cons:List Nat}(h:ed D P S o=some (v,adds,cons)): ∀r∈cons,∃x∈o.op.operands,r∈gy (opd S x):=by
 obtain⟨dst,op,type,pos,after,guard⟩:=o;cases op with
 |buildSlice t len parts=>
  simp only[ed,ah] at h;obtain⟨el,_,h⟩:=h;split at h
  ·simp only[ah,Prod.exists] at h;obtain⟨rows,L,hp,h⟩:=h;split at h
   ·simp only[af,au] at h;obtain⟨_,_,rfl⟩:=h;intro r hr;obtain⟨_,vs,hvs,v,hv,s,len',rfl⟩:=jS hp r (kU.1 hr);obtain⟨y,hy,rfl⟩:=aG.1 hvs;refine⟨y.2,?_,oM hv (.inl ⟨_,_,_,_,rfl,rfl⟩)⟩;simp only[Op.operands,cH];exact aG.2 ⟨y,hy,rfl⟩
   ·cases h
  ·cases h
 |call c=>
  obtain⟨cl,as,ts⟩:=c;cases cl with
  |invoke r m=>simp[ed] at h
  |value f=>
   simp only[ed,ah,aj,au] at h
   grind
  |builtin b=>
   cases b with
   |append=>
    simp only[ed] at h;split at h
    ·rename_i s x t t' e1 e2;have e1:as= #[s,x] :=by apply Array.ext';simpa using e1
     subst e1;split at h
     ·simp only[ah] at h;obtain⟨el,_,⟨more,L⟩,h1,⟨rows,cs⟩,h2,h⟩:=h;simp only at h h1 h2;split at h
      ·simp only[af,au] at h;obtain⟨_,_,rfl⟩:=h;intro r hr;rcases bC.1 (kU.1 hr) with hr|hr
       all_goals grind [Op.operands,Call.operands,rc,tU]
      ·cases h
     ·cases h
    ·cases h
   | _=>simp[ed] at h
 |makeSlice t l c=>
  simp only[ed,ah] at h
  grind
 | _=>simp[ed] at h
end
end
section
open Go Go.RowKit
section
variable {P:Program} {S SV:St} {D:iC}
def A3(g:Nat->Option T)(m:eP):Nat->Option T:=λr=>if m.b<=r/\r<m.b+m.adds.length then m.adds[r-m.b]? else if m.cons.contains r then none else g r
def jQ: (Nat->Option T)->List eP->Nat->Option T
 |g,[] =>g
 |g,m::ms=>jQ (A3 g m) ms
theorem nA(g:Nat->Option T)(b:Nat):A3 g ⟨b,[],[]⟩=g:=by
 funext r
 unfold A3;simp only[bU,bI];rw[if_neg (by omega)];simp
def Dh(D:iC)(P:Program)(all:Array Oper)(l:List Oper)(S SV:St)(ms:List eP)(k:Nat)(o:Oper):Prop:=
 ∃env b m,ms[k]? =some m/\(∀ (t:Nat) (j:Nat) (oj:Oper),j<k->l[j]? =some oj->dB oj=false->oj.dst=some t->env t=SV.env t)/\
  (∀t,(∀ (j:Nat) (oj:Oper),j<k->l[j]? =some oj->dB oj=false->oj.dst≠some t)->env t=S.env t)/\gz { S with env:=env } all o=some b/\(∀d,o.dst=some d->d<S.nt)/\
  (b=true->eA o=true-> ∃v,ed D P { S with env:=env,gh:=jQ S.gh (ms.take k),ng:=m.b } o=some (v,m.adds,m.cons)/\ ∀d,o.dst=some d->SV.env d=shift m.b v)/\
  (b=true->eA o=false->dY o=false-> ∃v,dD D P { S with env:=env,gh:=jQ S.gh (ms.take k),ng:=m.b } o=some v/\m.adds= [] /\m.cons= [] /\ ∀d,o.dst=some d->SV.env d=v)/\
  (b=false->m.adds= [] /\m.cons= [] /\ ∀d,o.dst=some d->SV.env d= .tup [])/\
  (dY o=true->b=true/\m.adds= [] /\m.cons= [] /\ ∀d,o.dst=some d->SV.env d= .ptrB (S.nb-1-ey (l.drop (k+1))) 0)
abbrev Cc(D:iC)(P:Program)(all:Array Oper)(l:List Oper)(S SV:St)(ms:List eP):Prop:=
 ms.length=l.length/\SV= { S with env:=SV.env,gh:=jQ S.gh ms,ng:=SV.ng } /\S.ng<=SV.ng/\(∀t,(∀o∈l,dB o=false->o.dst≠some t)->SV.env t=S.env t)/\
  (∀ (k:Nat) (m:eP),ms[k]? =some m->S.ng<=m.b/\m.b+m.adds.length<=SV.ng/\ ∀ (j:Nat) (m':eP),j<k->ms[j]? =some m'->m'.b+m'.adds.length<=m.b)/\
  (∀ (k:Nat) (o:Oper) (m:eP),l[k]? =some o->ms[k]? =some m->dB o=true->m.adds= [] /\m.cons= [])/\
  ∀ (k:Nat) (o:Oper),l[k]? =some o->dB o=false->Dh D P all l S SV ms k o
theorem v6{all:Array Oper}: ∀ (l:List Oper) (S SV:St) (ms:List eP),l.Pairwise (λx y=> ∀d,x.dst=some d->y.dst≠some d)->po D P all l S=some (SV,ms)->Cc D P all l S SV ms:=by
 intro l
 induction l with
 |nil=>intro S SV ms _ h;simp only[po,af,au] at h;obtain⟨rfl,rfl⟩:=h;exact⟨rfl,rfl,az _,λ_ _=>rfl,λk m hk=>by simp at hk,λk o m hk=>by simp at hk,λk o hk=>by simp at hk⟩
 |cons o l ih=>
  intro S SV ms hp h;obtain⟨hp1,hp2⟩:=List.pairwise_cons.1 hp
  have way: ∀ (S1:St) (m:eP) (ms':List eP),ms=m::ms'->m.b=S.ng->po D P all l S1=some (SV,ms')->S1= { S with env:=S1.env,gh:=A3 S.gh m,ng:=S.ng+m.adds.length } ->
    (dB o=true->m.adds= [] /\m.cons= [] /\S1.env=S.env)->
    (dB o=false-> ∃b v,gz S all o=some b/\S1.env=(match o.dst with |some d=>dQ S.env d v|none=>S.env)/\(∀d,o.dst=some d->d<S.nt)/\
      (b=true->eA o=true-> ∃v0,ed D P S o=some (v0,m.adds,m.cons)/\v=shift m.b v0)/\(b=true->eA o=false->dY o=false->dD D P S o=some v/\m.adds= [] /\m.cons= [])/\(b=false->m.adds= [] /\m.cons= [] /\v= .tup [])/\(dY o=true->b=true/\m.adds= [] /\m.cons= [] /\v= .ptrB (S.nb-1-ey l) 0))->
    Cc D P all (o::l) S SV ms:=by
   intro S1 m ms' hms hmb he hS1 hst hns;obtain⟨e1,e2,e3,e4,e5,e6,e7⟩:=ih S1 SV ms' hp2 he;subst hms;have hng1:S1.ng=S.ng+m.adds.length:=by rw[hS1]
   have hgh1:S1.gh=A3 S.gh m:=by rw[hS1]
   have hnt1:S1.nt=S.nt:=by rw[hS1]
   have hnb1:S1.nb=S.nb:=by rw[hS1]
   have hform: ∀ (env:Nat->AV) (g:Nat->Option T) (n:Nat),({ S1 with env:=env,gh:=g,ng:=n }:St)= { S with env:=env,gh:=g,ng:=n } :=by intro env g n;rw[hS1]
   have hform2: ∀ (env:Nat->AV),gz ({ S1 with env:=env }:St) all=gz ({ S with env:=env }:St) all:=by
    intro env
    funext o
    rw[hS1];rfl
   have h1other: ∀t,(dB o=false->o.dst≠some t)->S1.env t=S.env t:=by
    intro t ht;cases hso:dB o with
    |true=>rw[(hst hso).2.2]
    |false=>
     obtain⟨b,v,_,h2,_⟩:=hns hso;rw[h2];cases hd:o.dst with
     |none=>rfl
     |some d=>simp only[dQ];rw[if_neg];intro he;exact ht hso (by rw[hd,he])
   refine⟨by simp[e1],?_,by omega,λt ht=> ?_,λk m' hk=> ?_,λk o' m' hk hm hs=> ?_,λk o' hk hs=> ?_⟩
   ·have :jQ S.gh (m::ms')=jQ S1.gh ms':=by rw[hgh1];rfl
    rw[this,e2];exact hform _ _ _
   ·rw[e4 t (λo' ho'=>ht o' (aI _ ho')),h1other t (ht o aK)]
   ·cases k with
    |zero=>simp only[aJ,af] at hk;subst hk;exact⟨by omega,by omega,λj m' hj=>by omega⟩
    |succ k=>
     obtain⟨q1,q2,q3⟩:=e5 k m' (by simpa using hk);refine⟨by omega,q2,λj m'' hj hjm=> ?_⟩;cases j with
     |zero=>simp only[aJ,af] at hjm;subst hjm;omega
     |succ j=>exact q3 j m'' (by omega) (by simpa using hjm)
   ·cases k with
    |zero=>simp only[aJ,af] at hk hm;subst hk hm;exact⟨(hst hs).1,(hst hs).2.1⟩
    |succ k=>exact e6 k o' m' (by simpa using hk) (by simpa using hm) hs
   ·cases k with
    |zero=>
     simp only[aJ,af] at hk;subst hk;obtain⟨b,v,h1,h2,h3,h4,h5,h6,h7⟩:=hns hs
     have hown: ∀d,o.dst=some d->SV.env d=v:=by intro d hd;rw[e4 d (λo' ho' _=>hp1 o' ho' d hd),h2,hd];simp[dQ]
     have hS: ({ S with env:=S.env,gh:=jQ S.gh ((m::ms').take 0),ng:=m.b }:St)=S:=by rw[hmb];rfl
     refine⟨S.env,b,m,rfl,λt j oj hj=>by omega,λ_ _=>rfl,h1,h3,λhb hn=> ?_,λhb hn hx=> ?_,λhb=> ?_,λhx=> ?_⟩
     ·obtain⟨v0,g1,g2⟩:=h4 hb hn;exact⟨v0,by rw[hS];exact g1,λd hd=>by rw[hown d hd,g2]⟩
     ·obtain⟨g1,g2,g3⟩:=h5 hb hn hx;exact⟨v,by rw[hS];exact g1,g2,g3,hown⟩
     ·obtain⟨g1,g2,g3⟩:=h6 hb;exact⟨g1,g2,λd hd=>by rw[hown d hd,g3]⟩
     ·obtain⟨g1,g2,g3,g4⟩:=h7 hx;exact⟨g1,g2,g3,λd hd=>by rw[hown d hd,g4];rfl⟩
    |succ k=>
     obtain⟨env,b,m',g0,g1,g2,g3,g4,g5,g6,g7,g8⟩:=e7 k o' (by simpa using hk) hs;have htk:jQ S.gh ((m::ms').take (k+1))=jQ S1.gh (ms'.take k):=by rw[hgh1];rfl
     rw[hform2] at g3;simp only[hform] at g5 g6;refine⟨env,b,m',by simpa using g0,λt j oj hj hjj hs' hd=> ?_,λt ht=> ?_,g3,λd hd=>by rw[<-hnt1];exact g4 d hd,λhb hn=>by rw[htk];exact g5 hb hn,λhb hn hx=>by rw[htk];exact g6 hb hn hx,g7,λhx=>by rw[<-hnb1];exact g8 hx⟩
     ·cases j with
      |zero=>simp only[aJ,af] at hjj;subst hjj;obtain⟨b',v,_,h2,_⟩:=hns hs';rw[g2 t (λ_ o'' _ ho'' _=>hp1 o'' (aA ho'') t hd),e4 t (λo'' ho'' _=>hp1 o'' ho'' t hd)]
      |succ j=>exact g1 t j oj (by omega) (by simpa using hjj) hs' hd
     ·rw[g2 t (λj o'' hj ho'' hs=>ht (j+1) o'' (by omega) (by simpa using ho'') hs),h1other t (λhs=>ht 0 o (by omega) rfl hs)]
  have put: ∀ {S0 S1:St} {v:AV},S0.put o.dst v=some S1->S1= { S0 with env:=S1.env } /\S1.env=(match o.dst with |some d=>dQ S0.env d v|none=>S0.env)/\(∀d,o.dst=some d->d<S0.nt):=by
   intro S0 S1 v hput;cases hd:o.dst with
   |none=>rw[hd] at hput;simp only[St.put,af] at hput;subst hput;exact⟨rfl,rfl,λd hd=>by cases hd⟩
   |some d=>
    rw[hd] at hput;simp only[St.put] at hput;split at hput
    ·simp only[af] at hput;subst hput;exact⟨rfl,rfl,λd' hd'=>by cases hd';assumption⟩
    ·cases hput
  simp only[po] at h;split at h
  ·rename_i hst;simp only[aj,Prod.exists,au] at h;obtain⟨SV',ms',h1,rfl,rfl⟩:=h;exact way S ⟨S.ng,[],[]⟩ ms' rfl rfl h1 (by rw[nA];rfl) (λ_=>⟨rfl,rfl,rfl⟩) (λhs=>by rw[hst] at hs;cases hs)
  ·rename_i hst;have hst:dB o=false:=by simpa using hst
   split at h
   ·rename_i hbo;split at h
    ·rename_i hg;have hg':o.guard=none:=by simpa using hg
     simp only[ah,aj,Prod.exists,au] at h;obtain⟨S1,h1,SV',ms',h2,rfl,rfl⟩:=h;obtain⟨p1,p2,p3⟩:=put h1
     have hnn:eA o=false:=by
      unfold dY at hbo;split at hbo
      ·rename_i t ht;unfold eA;rw[ht]
      ·cases hbo
     exact way S1 ⟨S.ng,[],[]⟩ ms' rfl rfl h2 (by rw[nA];exact p1) (λhs=>by rw[hst] at hs;cases hs) (λ_=>⟨true,_,by unfold gz;rw[hg'],p2,p3,λ_ h=>(by rw[hnn] at h;cases h),λ_ _ h=>(by rw[hbo] at h;cases h),λh=>(nomatch h),λ_=>⟨rfl,rfl,rfl,rfl⟩⟩)
    ·cases h
   rename_i hbo;have hbo:dY o=false:=by simpa using hbo
   simp only[ah] at h;obtain⟨b,hb,h⟩:=h;cases b with
   |false=>simp only[aQ,if_false,ah,aj,Prod.exists,au] at h;obtain⟨S1,h1,SV',ms',h2,rfl,rfl⟩:=h;obtain⟨p1,p2,p3⟩:=put h1;exact way S1 ⟨S.ng,[],[]⟩ ms' rfl rfl h2 (by rw[nA];exact p1) (λhs=>by rw[hst] at hs;cases hs) (λ_=>⟨false,.tup [],hb,p2,p3,λh=>(nomatch h),λh=>(nomatch h),λ_=>⟨rfl,rfl,rfl⟩,λh=>(by rw[hbo] at h;cases h)⟩)
   |true=>
    simp only[if_true] at h;split at h
    ·rename_i hn;simp only[ah,aj,Prod.exists,au] at h;obtain⟨v,adds,cons,h0,S1,h1,SV',ms',h2,rfl,rfl⟩:=h;obtain⟨p1,p2,p3⟩:=put h1;exact way S1 ⟨S.ng,adds,cons⟩ ms' rfl rfl h2 p1 (λhs=>by rw[hst] at hs;cases hs) (λ_=>⟨true,_,hb,p2,p3,λ_ _=>⟨v,h0,rfl⟩,λ_ h=>(by rw[hn] at h;cases h),λh=>(nomatch h),λh=>(by rw[hbo] at h;cases h)⟩)
    ·rename_i hn;have hn:eA o=false:=by simpa using hn
     simp only[ah,aj,Prod.exists,au] at h;obtain⟨S1,⟨v,h0,h1⟩,SV',ms',h2,rfl,rfl⟩:=h;obtain⟨p1,p2,p3⟩:=put h1;exact way S1 ⟨S.ng,[],[]⟩ ms' rfl rfl h2 (by rw[nA];exact p1) (λhs=>by rw[hst] at hs;cases hs) (λ_=>⟨true,v,hb,p2,p3,λ_ h=>(by rw[hn] at h;cases h),λ_ _ _=>⟨h0,rfl,rfl⟩,λh=>(nomatch h),λh=>(by rw[hbo] at h;cases h)⟩)
end
end
section
open Go Go.RowKit
section
variable {P:Program} {w0 w w':World} {W:Nat->Prop} {btI bt bt':Bt} {SI S S' SV:St} {a a':Act} {D:iC} {Q:Exit->Act->World->Prop} {ops:Array Oper}
theorem mF[dE]{o:Oper}{v:AV}(hI:eh w0 W bt S w)(hE:ER w bt S a)(hok:fY P o=true)(hf:im o=false)(h:dD D P S o=some v): ∃u,(execOp a.eval o).run P w= .ok (.value u) w/\VR w bt v u:=by
 by_cases hp:jl o=true
 all_goals grind [tA,iA,im,dD,jl,fY]
theorem wz[dE](hD:fr P D)(h:Lv w0 W btI SI bt S a w){o:Oper}(hok:fY P o=true){v:AV}(hs:dD D P S o=some v){K:Act->World->Prop}
  (hK: ∀bt' u w',Lv w0 W btI SI bt' S a w'->VR w' bt' v u->K (a.put o.dst u) w'):o.wp P a w K Q:=by
 by_cases hf:im o=true
 ·obtain⟨dst,op,type,pos,after,guard⟩:=o;unfold im at hf;split at hf
  ·rename_i f as ts hop;simp only at hop;subst hop;simp only[dD,ah,aj] at hs;obtain⟨⟨g,caps⟩,hc,⟨res,out⟩,hr,hi⟩:=hs;simp only[fY,beq_iff_eq] at hok;refine nV hD h.inv h.er rfl hok hc hr (λu w' btn hC hv=> ?_);obtain⟨bt',g1,g2,g3,g4,g5,g6⟩:=wk h.inv h.er hC hv;rw[hi] at g6;exact hK bt' u w' ⟨g1,g2,h.defers,h.fz,h.fzng,λp hp=>by rw[g4,g5];exact h.keep p hp,h.gone⟩ g6
  ·cases hf
 ·obtain⟨u,g0,g1⟩:=mF h.inv h.er hok (by simpa using hf) hs
  grind [Oper.wp,Oper.upon_value]
def done(ops:Array Oper)(L:Array Bool)(t:Nat):Bool:=(List.range ops.size).any λi=>L.getD i false&&(((ops[i]?).bind (·.dst))==some t)
def eB(ops:Array Oper)(S SV:St)(L:Array Bool)(t:Nat):AV:=if done ops L t then SV.env t else S.env t
theorem fi{L:Array Bool}{t:Nat}:done ops L t=true↔ ∃i o,ops[i]? =some o/\L.getD i false=true/\o.dst=some t:=by
 unfold done
 grind
theorem jK{L:Array Bool}{i j:Nat}(hi:i<L.size): (L.setIfInBounds i true).getD j false=if j=i then true else L.getD j false:=by
 simp only[aN,bf]
 grind
theorem ij{L:Array Bool}{i:Nat}{o:Oper}(hi:i<L.size)(ho:ops[i]? =some o)(t:Nat):eB ops S SV (L.setIfInBounds i true) t=if o.dst=some t then SV.env t else eB ops S SV L t:=by
 unfold eB;by_cases hd:o.dst=some t
 ·rw[if_pos hd,if_pos];exact fi.2 ⟨i,o,ho,by rw[jK hi,if_pos rfl],hd⟩
 ·rw[if_neg hd]
  have :done ops (L.setIfInBounds i true) t=done ops L t:=by
   rw[bJ,fi,fi];constructor
   ·grind [jK]
   ·rintro⟨j,oj,h1,h2,h3⟩
    refine⟨j,oj,h1,?_,h3⟩;rw[jK hi];split
    ·rfl
    ·exact h2
  rw[this]
theorem Lv.drawn[dE](h:Lv w0 W btI SI bt S a w)(n:Nat):Lv w0 W btI SI bt S a { w with drawn:=n } :=
 ⟨h.inv.change ⟨rfl,rfl,rfl,az _,λ_ _=> .inl rfl⟩,⟨h.er.1,λt=>(h.er.2 t).mono (Bt.le.refl _) (λ_ _=>rfl)⟩,h.defers,h.fz,h.fzng,h.keep,h.gone⟩
def fh(ms:List eP)(L:Array Bool)(r:Nat):Bool:=(List.range ms.length).any λj=>L.getD j false&&((ms[j]?).map λm=>m.cons.contains r).getD false
def nj(S:St)(ms:List eP)(L:Array Bool)(r:Nat):Option T:=if r<S.ng then (if fh ms L r then none else S.gh r) else match gO ms r with
 |some c=>if L.getD c false&& !fh ms L r then (ms[c]?).bind λm=>m.adds[r-m.b]? else none
 |none=>none
theorem fe{ms:List eP}{L:Array Bool}{r:Nat}:fh ms L r=true↔ ∃j m,ms[j]? =some m/\L.getD j false=true/\r∈m.cons:=by
 unfold fh
 grind
theorem kV{ms:List eP}{r j:Nat}{m:eP}(h1:ms[j]? =some m)(h2:r∈m.cons):j∈iU ms r:=by grind [iU]
theorem wx{ms:List eP}{r j:Nat}(h:j∈iU ms r): ∃m,ms[j]? =some m/\r∈m.cons:=by grind [iU]
theorem eX{ms:List eP}(hd: ∀ (k j:Nat) (m m':eP),ms[k]? =some m->j<k->ms[j]? =some m'->m'.b+m'.adds.length<=m.b){r c:Nat}:gO ms r=some c↔ ∃m,ms[c]? =some m/\m.b<=r/\r<m.b+m.adds.length:=by
 unfold gO;rw[List.findIdx?_eq_some_iff_getElem]
 grind
theorem xV{S:St}{ms:List eP}(hgh: ∀r t,S.gh r=some t->r<S.ng)(hb: ∀ (k:Nat) (m:eP),ms[k]? =some m->S.ng<=m.b)(hd: ∀ (k j:Nat) (m m':eP),ms[k]? =some m->j<k->ms[j]? =some m'->m'.b+m'.adds.length<=m.b): ∀ (k:Nat),k<=ms.length-> ∀r,
  (r<S.ng->((∀j m,ms[j]? =some m->j<k->r∉m.cons)->jQ S.gh (ms.take k) r=S.gh r)/\ ∀j m,ms[j]? =some m->j<k->r∈m.cons->jQ S.gh (ms.take k) r=none)/\(S.ng<=r->gO ms r=none->jQ S.gh (ms.take k) r=none)/\
  ∀c,S.ng<=r->gO ms r=some c->(k<=c->jQ S.gh (ms.take k) r=none)/\(c<k->(∀j m,ms[j]? =some m->c<j->j<k->r∉m.cons)->jQ S.gh (ms.take k) r=(ms[c]?).bind λm=>m.adds[r-m.b]?)/\
   (∀j m,ms[j]? =some m->c<j->j<k->r∈m.cons->jQ S.gh (ms.take k) r=none):=by
 intro k
 induction k with
 |zero=>
  intro _ r
  have h0:S.ng<=r->S.gh r=none:=λh=>by cases hx:S.gh r<;>grind
  exact⟨λ_=>⟨λ_=>rfl,λj m _ hj=>by omega⟩,λh _=>h0 h,λc h _=>⟨λ_=>h0 h,λhc=>by omega,λj m _ _ hj=>by omega⟩⟩
 |succ k ih=>
  intro hk r;obtain⟨i1,i2,i3⟩:=ih (by omega) r;have hkm:ms[k]? =some (ms[k]'(by omega)):=aq _
  have step:jQ S.gh (ms.take (k+1))=A3 (jQ S.gh (ms.take k)) (ms[k]'(by omega)):=by
   have app: ∀ (l:List eP) (g:Nat->Option T) (m:eP),jQ g (l++ [m])=A3 (jQ g l) m:=by
    intro l
    induction l with
    |nil=>intro g m;rfl
    |cons x l ih=>intro g m;exact ih _ m
   rw[List.take_succ_eq_append_getElem (by omega),app]
  generalize hm:ms[k]'(by omega)=m at*;rw[step];unfold A3;refine⟨λh=>⟨λhno=> ?_,λj m' hj h1 h3=> ?_⟩,λh hn=> ?_,λc h hmk=>⟨λhkc=> ?_,λhck hno=> ?_,λj m' hj h1 h2 h3=> ?_⟩⟩
  ·grind
  ·grind
  ·rw[if_neg]
   ·grind
   grind [eX]
  ·rw[if_neg]
   ·grind
   grind [eX]
  ·by_cases hkc:k=c
   ·subst hkc;obtain⟨m',q1,q2⟩:=(eX hd).1 hmk
    grind
   ·rw[if_neg]
    ·rw[if_neg]
     ·exact (i3 c h hmk).2.1 (by omega) (λj m' hj h1 h2=>hno j m' hj h1 (by omega))
     grind
    ·intro hr;rw[(eX hd).2 ⟨m,hkm,hr⟩] at hmk
     grind
  ·rw[if_neg]
   ·by_cases hjk:j=k
    ·grind
    ·split
     all_goals grind
   ·intro hr;rw[(eX hd).2 ⟨m,hkm,hr⟩] at hmk
    grind
theorem Aw{v:AV}{u:Value}(h:VR w bt v u): ∀r∈gy v,r<bt.ng:=by
 have one: ∀ {c:AV} {u:Value},VR w bt c u->(∀p s lo len,c= .own p s lo len->p.r<bt.ng)/\(∀p s i j,c= .ptrT p s i j->p.r<bt.ng):=by
  intro c u h;refine⟨λp s lo len he=> ?_,λp s i j he=> ?_⟩
  ·subst he;cases h with |own hp _ _ _=>exact hp
  ·subst he;cases h with |ptrT _ _ _ hp _=>exact hp
 have cells: ∀ {cs:List AV} {us:List Value},us.length=cs.length->(∀ (k:Nat) (c:AV) (u:Value),cs[k]? =some c->us[k]? =some u->VR w bt c u)-> ∀r,r∈cs.flatMap (λ| .own p _ _ _=> [p.r] | .ptrT p _ _ _=> [p.r] | .agg _=> [] | .fn _ _=> [] | .tup _=> [] | _=> [])->r<bt.ng:=by
  intro cs us hl hr r hm;obtain⟨c,hc,hrc⟩:=List.mem_flatMap.1 hm;obtain⟨k,hk,hkc⟩:=aU hc;have:=one (hr k c _ (by grind) (aq (by omega)));cases c with
  |own p s lo len=>grind
  |ptrT p s i j=>grind
  | _=>simp at hrc
 intro r hr;cases h<;>grind [gy]
theorem nX{env:Nat->AV}{bx:Nat->Option (List AV)}: ∀ (ss:List Nat) (vs:List AV),eR { S with env:=env,bx:=bx } ss vs=eR S ss vs
 |s::ss,v::vs=>by
  have e:fQ { S with env:=env,bx:=bx } s v=fQ S s v:=by unfold fQ;cases v<;>rfl
  unfold eR;rw[e,nX ss vs]
 | [],[] =>rfl
 | [],_::_=>rfl
 | _::_,[] =>rfl
theorem kY{env:Nat->AV}{bx:Nat->Option (List AV)}(ss:List Nat): ∀ (vss:List (List AV)),eH { S with env:=env,bx:=bx } ss vss=eH S ss vss
 | [] =>rfl
 |vs::vss=>by unfold eH;rw[nX,kY ss vss]
theorem uv{env:Nat->AV}(ss:List Nat)(vss:List (List AV)):eH { S with env:=env } ss vss=eH S ss vss:=kY (bx:=S.bx) ss vss
theorem m9{o:Oper}{env:Nat->AV}(h: ∀x∈o.op.operands,opd { S with env:=env } x=opd S x):ed D P { S with env:=env } o=ed D P S o:=by
 obtain⟨dst,op,type,pos,after,guard⟩:=o;cases op with
 |buildSlice t len parts=>
  have hp: ∀x∈parts.toList,opd { S with env:=env } x.2=opd S x.2:=λx hx=>h x.2 (by simp only[Op.operands,cH];exact aG.2 ⟨x,hx,rfl⟩);have e1:parts.toList.map (λx=>(opd { S with env:=env } x.2).cells)=parts.toList.map (λx=>(opd S x.2).cells):=aE λx hx=>by rw[hp x hx]
  have e3: ∀ss vss,eH { S with env:=env } ss vss=eH S ss vss:=uv
  have e2: ∀n,parts.toList.all (λx=>(opd { S with env:=env } x.2).cells.length=n&& !(opd { S with env:=env } x.2).isDead)=parts.toList.all (λx=>(opd S x.2).cells.length=n&& !(opd S x.2).isDead):=by
   intro n;rw[bJ,ay,ay];constructor
   ·intro g x hx;rw[<-hp x hx];exact g x hx
   ·intro g x hx;rw[hp x hx];exact g x hx
  simp only[ed,e1,e2,e3]
 |call c=>
  obtain⟨cl,as,ts⟩:=c;cases cl with
  |invoke r m=>rfl
  |value f=>
   simp only[ed];rw[lE (h f (by simp[Op.operands,Call.operands]))]
   congr 1
   funext x
   grind [nK,Op.operands,Call.operands]
  |builtin b=>
   cases b with
   |append=>
    simp only[ed];split
    ·rename_i s x t t' e1 e2;have e1:as= #[s,x] :=by apply Array.ext';simpa using e1
     subst e1;rw[h x (by simp[Op.operands,Call.operands]),h s (by simp[Op.operands,Call.operands])];have e3: ∀sz fl v,eN { S with env:=env } sz fl v=eN S sz fl v:=λsz fl v=>by cases v<;>rfl
     have e4: ∀L sz v,gD (dropL { S with env:=env } L) sz v=gD (dropL S L) sz v:=λL sz v=>by cases v<;>rfl
     simp only[e3,e4]
    ·rfl
   | _=>rfl
 |makeSlice t l c=>simp only[ed,h l (by simp[Op.operands]),h c (by simp[Op.operands])]
 | _=>rfl
def Bt.widen(bt:Bt)(n N:Nat):Bt:={ bt with κ:=λp=>if p.r<n then bt.κ p else 0,ng:=N }
theorem Lv.widen[dE](h:Lv w0 W btI SI bt S a w){N:Nat}(hN:S.ng<=N):Lv w0 W btI SI (bt.widen S.ng N) { S with ng:=N } a w:=by
 have hng:=h.inv.ng;have hle:bt.le (bt.widen S.ng N):=⟨az _,by show bt.ng<=N;omega,λ_ h=>h,λ_ _=>rfl,λp hp=>by simp only[Bt.widen];rw[if_pos (by omega)],λ_ _=>rfl⟩
 have lk: ∀p s rs,({ S with ng:=N }:St).look p= .sl s rs->S.look p= .sl s rs/\p.r<bt.ng:=λp s rs hp=>⟨hp,h.inv.look_lt (S:=S) hp⟩
 have eκ: ∀p:dM,p.r<bt.ng->(bt.widen S.ng N).κ p=bt.κ p:=λp hp=>hle.κ p hp
 exact⟨{ good:=h.inv.good,os:=h.inv.os,tape:=h.inv.tape,output:=h.inv.output,size:=h.inv.size,keep:=h.inv.keep,nb:=h.inv.nb,ng:=rfl
         bx:=λn cells hn=>by obtain⟨h1,h2,h3⟩:=h.inv.bx n cells hn;exact⟨h1,h2,h3.mono hle (by rw[h.inv.nb];exact h1) (λ_ _=>rfl) rfl⟩
         gh:=λr t hr=>aM (h.inv.gh r t hr) hN
         tr:=λp s rs hp=>by obtain⟨h0,hlt⟩:=lk p s rs hp;obtain⟨h1,h2⟩:=h.inv.tr p s rs h0;rw[eκ p hlt];exact⟨h1,λhk=>⟨(h2 hk).1,(h2 hk).2.mono hle hlt rfl⟩⟩
         inj:=λp q s rs s' rs' h1 h2 hk hk' he=>by obtain⟨a1,a2⟩:=lk p s rs h1;obtain⟨b1,b2⟩:=lk q s' rs' h2;rw[eκ p a2] at hk;rw[eκ q b2] at hk';exact h.inv.inj _ _ _ _ _ _ a1 b1 hk hk' he
         bbinj:=h.inv.bbinj
         bbtr:=λn c p s rs h1 h2 hk=>by obtain⟨a1,a2⟩:=lk p s rs h2;rw[eκ p a2] at hk;exact h.inv.bbtr _ _ _ _ _ h1 a1 hk
         alt:=h.inv.alt
         atr:=λp s rs h1 hk=>by obtain⟨a1,a2⟩:=lk p s rs h1;rw[eκ p a2] at hk;exact h.inv.atr _ _ _ a1 hk
         abb:=h.inv.abb },⟨h.er.1,λt=>(h.er.2 t).mono hle (λ_ _=>rfl)⟩,h.defers,h.fz,aX h.fzng hN,λp hp=>⟨(h.keep p hp).1,by rw[eκ p (by have:=h.fz;have:=h.fzng;omega)];exact (h.keep p hp).2⟩,h.gone⟩
end
end
end Go.Proofs.YtkghndikalnipaaGreat.En
