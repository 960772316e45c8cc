import Derived.Test.YtkghndikalnipabGreatZX2
set_option linter.unusedSimpArgs false
set_option linter.unusedVariables false
namespace Go.Proofs.YtkghndikalnipabGreat.En
section
open Go Go.RowKit
section
variable {P:Program} {w0 w w':World} {W:Nat->Prop} {bt:Bt} {S:St} {a:Act} {A:Nat->Prop}
theorem tU[dp](hI:dP w0 W bt S w){A:Nat->Prop}(hA: ∀p s rs,S.look p= .sl s rs->0<bt.κ p->A (bt.β p).1): ∀ (n:Nat) (p:dA) (t:T) (u:Value),SizeOf.sizeOf t<=n->HR bt p t u->u.oneCell'=true->(∀s rs,t= .sl s rs->S.look p= .sl s rs)->RO w A t u:=by
 intro n
 induction n with
 |zero=>intro p t u hn;cases t<;>simp at hn
 |succ n ih=>
  intro p t u hn h ho hl;cases h with
  |sc h=>exact .sc h
  |dd=>exact .dd ho
  |sl hc hk ha=>
   rename_i sz rows ad cap;rcases bh rows.length with h0|h0
   ·have :rows= [] :=aX h0;subst this;exact .em _ _ _
   ·have hlook:=hl _ _ rfl;obtain⟨_,arr,e,g1,g2,g3,g4⟩:=(hI.tr _ _ _ hlook).2 (by omega);rw[ha (by omega)]
    have each: ∀ (i:Nat) (r:List T) (j:Nat) (x:T),rows[i]? =some r->r[j]? =some x-> ∃c,arr[(bt.β p).2+(i*sz+j)]? =some c/\HR bt (p.sub i j) x c:=by intro i r j x hi hj;exact (g4 i r hi).2 j x hj
    refine .sl (λi j=>(arr[(bt.β p).2+(i*sz+j)]?).getD undef) hc rfl (hA _ _ _ hlook (by omega)) (λi r hi=>(g4 i r hi).1) (λi r j x hi hj=> ?_) (λi r j x hi hj=> ?_)
    ·obtain⟨c,k1,_⟩:=each i r j x hi hj;rw[add_lit,fI g1,k1];rfl
    ·obtain⟨c,k1,k2⟩:=each i r j x hi hj;rw[k1];refine ih (p.sub i j) x c ?_ k2 (g3 _ _ k1) (λs rs hx=> ?_)
     ·have h1:SizeOf.sizeOf x<SizeOf.sizeOf r:=List.sizeOf_lt_of_mem (aw hj);have h2:SizeOf.sizeOf r<SizeOf.sizeOf rows:=List.sizeOf_lt_of_mem (aw hi);simp at hn;omega
     ·unfold St.look at hlook ⊢;split at hlook
      ·rename_i t ht;show (match S.gh p.r with |some t=>t.go (p.l++ [(i,j)])|none=> .dd)=_
       grind [T.go_append,T.go,T.cell]
      ·cases hlook
theorem sE[dp](hI:dP w0 W bt S w){A:Nat->Prop}(hA: ∀p s rs,S.look p= .sl s rs->0<bt.κ p->A (bt.β p).1){p:dA}{s lo len:Nat}{rows:List (List T)}{u:Value}(h:VR w bt (.own p s lo len) u)(hr:S.rows p s=some rows)(hle:lo+len<=rows.length):
  RO w A (.sl s ((rows.drop lo).take len)) u:=by
 have hlook:=eS hr;cases h with
 |own hp hc hk ha=>
  rename_i ad cap;have hlen: ((rows.drop lo).take len).length=len:=by simp;omega
  rcases bh len with h0|h0
  ·subst h0;simp only[da];exact .em _ _ _
  ·obtain⟨_,arr,e,g1,g2,g3,g4⟩:=(hI.tr _ _ _ hlook).2 (by omega);rw[ha (by omega)]
   have sub: ∀ (i:Nat) (r:List T),((rows.drop lo).take len)[i]? =some r->rows[lo+i]? =some r:=by
    intro i r hi;rw[bg] at hi;split at hi
    ·rwa [bc] at hi
    ·cases hi
   have eU:RO w A (.sl s ((rows.drop lo).take len)) (.slice (some ⟨(bt.β p).1,(bt.β p).2+lo*s,none⟩) ((rows.drop lo).take len).length cap):=by
    refine .sl (λi j=>(arr[(bt.β p).2+((lo+i)*s+j)]?).getD undef) (by omega) rfl (hA _ _ _ hlook (by omega)) (λi r hi=>(g4 _ r (sub i r hi)).1) (λi r j x hi hj=> ?_) (λi r j x hi hj=> ?_)
    ·obtain⟨c,k1,_⟩:=(g4 _ r (sub i r hi)).2 j x hj;rw[add_lit,fI g1,show (bt.β p).2+lo*s+(i*s+j)=(bt.β p).2+((lo+i)*s+j) by rw[bz];omega,k1];rfl
    ·obtain⟨c,k1,k2⟩:=(g4 _ r (sub i r hi)).2 j x hj;rw[k1];refine tU hI hA _ (p.sub (lo+i) j) x c (au _) k2 (g3 _ _ k1) (λs' rs hx=> ?_);unfold St.look at hlook ⊢;split at hlook
     ·rename_i t ht;show (match S.gh p.r with |some t=>t.go (p.l++ [(lo+i,j)])|none=> .dd)=_
      grind [T.go_append,T.go,T.cell]
     ·cases hlook
   rw[hlen] at eU;exact eU
structure lM (bt:Bt) (S:St) (A:Nat->Prop):Prop where
 h1: ∀b,bt.A b->A b
 h2: ∀p s rs,S.look p= .sl s rs->0<bt.κ p->A (bt.β p).1
 h3: ∀n cs,S.bx n=some cs->A (bt.bb n)
theorem lM.le(h:lM bt S A):bt.le { bt with A:=A } :=⟨au _,au _,h.h1,λ_ _=>rfl,λ_ _=>rfl,λ_ _=>rfl⟩
theorem vX[dp](hI:dP w0 W bt S w)(hA:lM bt S A){v:AV}{u:Value}(sz:Nat)(h:VR w bt v u)(ho:u.oneCell'=true):RO w A (T.ofAV S sz v) u:=by
 cases v with
 |sc v=>cases h with |sc h=>exact .sc h
 |em=>cases h with |em a=>exact .em _ _ _
 |ro s rows=>cases h with |ro h=>exact h.mono (hA.h1) (λ_ _=>rfl)
 |own p s lo len=>
  simp only[T.ofAV];split
  ·split
   ·exact sE hI hA.h2 h ‹_› ‹_›
   ·exact .dd ho
  ·exact .dd ho
 | _=>exact .dd ho
theorem iL[dp](hI:dP w0 W bt S w)(hA:lM bt S A){v:AV}{u:Value}(sz:Nat)(h:VR w bt v u):VR w { bt with A:=A } (dU S sz v) u:=by
 cases v with
 |sc v=>exact h.mono hA.le (λ_ _=>rfl)
 |em=>cases h with |em a=>exact .ro (.em _ _ _)
 |ro s rows=>exact h.mono hA.le (λ_ _=>rfl)
 |pro cells=>exact h.mono hA.le (λ_ _=>rfl)
 |own p s lo len=>
  simp only[dU];split
  ·split
   ·exact .ro (sE hI hA.h2 h ‹_› ‹_›)
   ·exact .dead _
  ·exact .dead _
 |ptrB b j=>
  simp only[dU];split
  ·rename_i cs hb;cases h with
   |ptrB j hn=>
    obtain⟨_,_,arr,e,g1,g2,g3⟩:=hI.bx _ _ hb;refine .pro (λk=>(arr[j+k]?).getD undef) rfl (hA.h3 _ _ hb) (λk x hk=> ?_) (λk x hk=> ?_)
    ·rw[ap] at hk;simp only[ai] at hk;obtain⟨v,hv,rfl⟩:=hk;rw[bc] at hv;obtain⟨c,k1,k2,k3⟩:=g3 _ _ hv;rw[add_lit,fI g1,k1];rfl
    ·rw[ap] at hk;simp only[ai] at hk;obtain⟨v,hv,rfl⟩:=hk
     grind [vX]
  ·exact .dead _
 |ptrT p s i j=>
  simp only[dU];split
  ·rename_i rows hr;have hlook:=eS hr;cases h with
   |ptrT s i j hp hk=>
    obtain⟨_,arr,e,g1,g2,g3,g4⟩:=(hI.tr _ _ _ hlook).2 (by omega)
    have each: ∀ (k:Nat) (x:T),((rows.getD i []).drop j)[k]? =some x-> ∃r c,rows[i]? =some r/\r[j+k]? =some x/\arr[(bt.β p).2+(i*s+j)+k]? =some c/\HR bt (p.sub i (j+k)) x c:=by
     intro k x hx;rw[bc] at hx;cases hr':rows[i]? with
     |none=>simp[hr'] at hx
     |some r=>grind
    refine .pro (λk=>(arr[(bt.β p).2+(i*s+j)+k]?).getD undef) rfl (hA.h2 _ _ _ hlook (by omega)) (λk x hx=> ?_) (λk x hx=> ?_)
    ·obtain⟨r,c,k0,k1,k2,k3⟩:=each k x hx;rw[add_lit,fI g1,k2];rfl
    ·obtain⟨r,c,k0,k1,k2,k3⟩:=each k x hx;rw[k2];refine tU hI hA.h2 _ (p.sub i (j+k)) x c (au _) k3 (g3 _ _ k2) (λs' rs hxx=> ?_);unfold St.look at hlook ⊢;split at hlook
     ·rename_i t ht;show (match S.gh p.r with |some t=>t.go (p.l++ [(i,j+k)])|none=> .dd)=_
      grind [T.go_append,T.go,T.cell]
     ·cases hlook
  ·exact .dead _
 | _=>exact .dead _
theorem uO[dp](hI:dP w0 W bt S w)(hA:lM bt S A){v:AV}{u:Value}(szs:List Nat)(h:VR w bt v u):VR w { bt with A:=A } (eJ S szs v) u:=by
 cases v with
 |agg cs=>
  simp only[eJ];split
  ·rename_i hl;cases h with
   |agg hl' ho hr=>
    rename_i us;refine .agg (by simp[hl,hl']) ho (λk c u h1 h2=> ?_)
    grind [iL]
  ·exact .dead _
 |fn f caps=>
  cases h with
  |fn f hl hr=>rename_i us;refine .fn f (by simp[hl]) (λk c u h1 h2=> ?_);rw[ap] at h1;simp only[ai] at h1;obtain⟨c',e1,rfl⟩:=h1;exact iL hI hA 0 (hr k c' u e1 h2)
 |em=>cases h with |em a=>exact .em a
 | _=>exact iL hI hA (szs.headD 0) h
def zN(bt:Bt)(w:World):Bt:={ bt with A:=λb=>b<w.heap.size }
theorem wy[dp](hI:dP w0 W bt S w):lM bt S (λb=>b<w.heap.size):=⟨hI.alt,λ_ _ _ h hk=>hI.βlt h hk,λ_ _ h=>hI.bblt h⟩
def ew[dp](P:Program)(f:FuncId)(args:List AV)(gs:List T)(m:Nat)(res:AV)(out:List T):Prop:=
 ∀ (w:World) (W:Nat->Prop) (bt0:Bt) (vals:List Value),dP w W bt0 (fL gs) w->vals.length=args.length->(∀ (k:Nat) (v:AV) (u:Value),args[k]? =some v->vals[k]? =some u->VR w bt0 v u)->
   (callFunc f vals.toArray).run P w= .ok (.enter f vals.toArray) w/\
   Calls P f vals.toArray w λe w'=> ∃v btn,e= .returned v/\dP w W btn (fL out) w'/\m<=out.length/\(∀p:dA,p.r<m->btn.β p=bt0.β p/\btn.κ p=bt0.κ p)/\VR w' btn res v
abbrev gy[dp](P:Program)(f:FuncId)(args:List AV)(gs:List T)(res:AV)(out:List T):Prop:=ew P f args gs gs.length res out
def eO[dp](P:Program)(D:gR):Prop:=∀d f args gs res out,D d f args gs=some (res,out)->gy P f args gs res out
theorem fh(p:dA)(s:Nat)(rs:List (List T)): (fL []).look p≠ .sl s rs:=by simp[St.look,fL]
theorem tG[dp]{w:World}(hg:rL w λ_=>False)(bt:Bt)(hA: ∀b,bt.A b->b<w.heap.size):dP w (λ_=>False) { bt with nb:=0,ng:=0 } (fL []) w:=
 { good:=hg,os:=rfl,tape:=rfl,output:=rfl,size:=au _,keep:=λ_ _ _=>rfl,nb:=rfl,ng:=rfl
   bx:=λn cells h=>by cases h
   gh:=λr t h=>by simp[fL] at h
   tr:=λp s rs h=>absurd h (fh p s rs)
   inj:=λp q s rs s' rs' h=>absurd h (fh p s rs)
   bbinj:=λn m cs cs' h=>by cases h
   bbtr:=λn cs p s rs h=>by cases h
   alt:=hA
   atr:=λp s rs h=>absurd h (fh p s rs)
   abb:=λn cs h=>by cases h }
def AV.ro0:AV->Bool
 | .sc _| .em| .ro _ _| .pro _| .dead=>true
 | _=>false
def AV.readOnly:AV->Bool
 | .agg cs=>cs.all AV.ro0
 | .fn _ cs=>cs.all AV.ro0
 |v=>v.ro0
theorem VR.readOnly0{bt':Bt}(hA:bt'.A=bt.A){v:AV}{u:Value}(h:VR w bt v u)(hr:v.ro0=true):VR w bt' v u:=by
 cases h with
 |sc h=>exact .sc h
 |em a=>exact .em a
 |ro h=>exact .ro (by rw[hA];exact h)
 |pro cs hs hb hc ht=>exact .pro cs hs (by rw[hA];exact hb) hc (λj x hx=>by rw[hA];exact ht j x hx)
 |dead u=>exact .dead u
 | _=>simp[AV.ro0] at hr
theorem VR.readOnly{bt':Bt}(hA:bt'.A=bt.A){v:AV}{u:Value}(h:VR w bt v u)(hr:v.readOnly=true):VR w bt' v u:=by
 cases v with
 |agg cs=>
  cases h with
  |agg hl ho hc=>exact .agg hl ho (λk c u h1 h2=>(hc k c u h1 h2).readOnly0 hA (ar.1 hr c (aw h1)))
 |fn f cs=>
  cases h with
  |fn f hl hc=>exact .fn f hl (λk c u h1 h2=>(hc k c u h1 h2).readOnly0 hA (ar.1 hr c (aw h1)))
 | _=>exact h.readOnly0 hA hr
theorem jD(S:St)(sz:Nat)(v:AV): (dU S sz v).ro0=true:=by cases v<;>simp only[dU]<;>(try split)<;>(try split)<;>rfl
theorem pH{v:AV}(h:v.ro0=true):v.readOnly=true:=by cases v<;>first |exact h|simp[AV.ro0] at h
theorem wi(S:St)(szs:List Nat)(v:AV): (eJ S szs v).readOnly=true:=by
 have one: ∀ {v:AV},v.ro0=true->v.readOnly=true:=by intro v h;cases v<;>first |exact h|simp[AV.ro0] at h
 cases v with
 |agg cs=>
  simp only[eJ];split
  ·refine ar.2 (λc hc=> ?_);obtain⟨k,hk,rfl⟩:=aO hc
   grind [jD]
  ·rfl
 |fn f caps=>simp only[eJ];refine ar.2 (λc hc=> ?_);obtain⟨d,_,rfl⟩:=aB.1 hc;exact jD _ _ _
 |em=>rfl
 | _=>grind [eJ,jD]
def iT(P:Program)(S:St)(ts:List TypeId)(as:List Operand)(caps:List AV):List AV:=
 List.zipWith (λt a=>eJ S (fE P 9 t) (opd S a)) ts as++caps.map (dU S 0)
theorem pV[dp](hI:dP w0 W bt S w)(hE:ER w bt S a)(hA:lM bt S A){bt':Bt}(hA':bt'.A=A){ts:List TypeId}{as:List Operand}{caps:List AV}{us:List Value}(hts:ts.length=as.length)(hl:us.length=caps.length)
  (hc: ∀ (k:Nat) (c:AV) (u:Value),caps[k]? =some c->us[k]? =some u->VR w bt c u):
  (as.map a.eval++us).length=(iT P S ts as caps).length/\ ∀ (k:Nat) (v:AV) (u:Value),(iT P S ts as caps)[k]? =some v->(as.map a.eval++us)[k]? =some u->VR w bt' v u:=by
 have l1: (List.zipWith (λt x=>eJ S (fE P 9 t) (opd S x)) ts as).length=as.length:=by simp[hts]
 refine⟨by simp[iT,hts,hl],λk v u h1 h2=> ?_⟩;unfold iT at h1;by_cases hk:k<as.length
 ·rw[aQ (by omega)] at h1;rw[aQ (by simpa using hk),ap] at h2;rw[be] at h1;split at h1
  ·rename_i t x e1 e2;simp only[ae] at h1;rw[e2] at h2;simp only[aA,ae] at h2;subst h1 h2;exact VR.readOnly (bt:={ bt with A:=A }) hA' (uO hI hA _ (dB hE x)) (wi _ _ _)
  ·cases h1
 ·rw[aY (by omega),l1,ap] at h1;rw[aY (by simp;omega)] at h2;simp only[aD] at h2;simp only[ai] at h1;obtain⟨c,e1,rfl⟩:=h1;exact VR.readOnly (bt:={ bt with A:=A }) hA' (iL hI hA 0 (hc _ c u e1 h2)) (pH (jD _ _ _))
end
end
section
open Go Go.RowKit
section
variable {P:Program} {w0 w w':World} {W:Nat->Prop} {bt btn:Bt} {S:St} {a:Act}
theorem iw[dp]{out:List T}(hC:dP w (λ_=>False) btn (fL out) w'):Below w.heap.size w w':=
 ⟨hC.os,hC.tape,hC.output,hC.size,λk hk=>hC.keep k hk (λh=>h)⟩
theorem rp{k n:Nat}(hng:btn.ng=k)(hn:bt.ng=n){v:AV}{u:Value}(h:VR w' btn v u):VR w' (bt.add btn k) (shift n v) u:=by
 have one: ∀ {v u},VR w' btn v u->VR w' (bt.add btn k) (eM n v) u:=by
  intro v u h;cases h with
  |sc h=>exact .sc h
  |own hp hc hk ha=>
   rename_i p sz lo len ad cap;have e1: (bt.add btn k).κ ⟨p.r+n,p.l⟩=btn.κ p:=by simp only[Bt.add,hn];rw[if_pos (by omega),bI]
   have e2: (bt.add btn k).β ⟨p.r+n,p.l⟩=btn.β p:=by simp only[Bt.add,hn];rw[if_pos (by omega),bI]
   exact .own (by show p.r+n<bt.ng+k;omega) hc (by rw[e1];exact hk) (by rw[e2];exact ha)
  |ptrT sz i j hp hk=>
   rename_i p;have e1: (bt.add btn k).κ ⟨p.r+n,p.l⟩=btn.κ p:=by simp only[Bt.add,hn];rw[if_pos (by omega),bI]
   have e2: (bt.add btn k).β ⟨p.r+n,p.l⟩=btn.β p:=by simp only[Bt.add,hn];rw[if_pos (by omega),bI]
   rw[<-e2];exact .ptrT sz i j (by show p.r+n<bt.ng+k;omega) (by rw[e1];exact hk)
  | _=>exact .dead _
 have two: ∀ {v u},VR w' btn v u->VR w' (bt.add btn k) (eE n v) u:=by
  intro v u h;cases v with
  |agg cs=>
   cases h with
   |agg hl ho hr=>refine .agg (by simpa using hl) ho (λj c u h1 h2=> ?_);rw[ap] at h1;simp only[ai] at h1;obtain⟨c',e1,rfl⟩:=h1;exact one (hr j c' u e1 h2)
  | _=>exact one h
 cases v with
 |tup vs=>
  cases h with
  |tup hl hr=>refine .tup (by simpa using hl) (λj c u h1 h2=> ?_);rw[ap] at h1;simp only[ai] at h1;obtain⟨c',e1,rfl⟩:=h1;exact two (hr j c' u e1 h2)
 | _=>exact two h
theorem jR[dp](hI:dP w0 W bt S w)(hE:ER w bt S a)(hfz:S.fz<=S.ng){res:AV}{out:List T}{u:Value}(hC:dP w (λ_=>False) btn (fL out) w')(hv:VR w' btn res u):
  ∃bt',ei w0 W bt S a bt' (gW S (res,out)).2 w'/\bt.le bt'/\VR w' bt' (gW S (res,out)).1 u:=by
 have hb:=iw hC;have hg:gT w0 W bt S w w':=gT.of_below hb
 have hi:=(hI.change hg).addRoots btn out (λp s rs h=>by
   obtain⟨h1,h2⟩:=hC.tr p s rs h;refine⟨h1,λhk=>⟨?_,(h2 hk).2⟩⟩;rcases (h2 hk).1 with h|h
   ·exact .inl (aR hI.size h)
   ·exact h.elim) hC.inj (λp s rs h hk=>by
   have hge:w.heap.size<=(btn.β p).1:=by
    rcases ((hC.tr p s rs h).2 hk).1 with h|h
    ·exact h
    ·exact h.elim
   exact hI.fresh hge)
 have hle:=Bt.le_add bt btn out.length;refine⟨_,⟨hi,⟨hE.1,λt=>(hE.2 t).mono hle (hg.A hI)⟩,rfl,trivial,cz _ _,λp hp=>⟨hle.β p (by rw[hI.ng];omega),hle.κ p (by rw[hI.ng];omega)⟩,λr hr hn=> ?_⟩,hle,rp hC.ng hI.ng hv⟩;have : (if S.ng<=r/\r<S.ng+out.length then out[r-S.ng]? else S.gh r)=none:=hn
 rwa [if_neg (by omega)] at this
theorem w7[dp](hI:dP w0 W bt S w)(hE:ER w bt S a){ts:Array TypeId}{as:Array Operand}{caps:List AV}{us:List Value}(hts:ts.size=as.size)(hl:us.length=caps.length)
  (hc: ∀ (k:Nat) (c:AV) (u:Value),caps[k]? =some c->us[k]? =some u->VR w bt c u):
  (as.toList.map a.eval++us).length=(args P S ts as caps).length/\ ∀ (k:Nat) (v:AV) (u:Value),(args P S ts as caps)[k]? =some v->(as.toList.map a.eval++us)[k]? =some u->VR w { zN bt w with nb:=0,ng:=0 } v u:=by
 exact pV (ts:=ts.toList) (as:=as.toList) hI hE (wy hI) (bt':={ zN bt w with nb:=0,ng:=0 }) rfl (by simpa using hts) hl hc
theorem qd[dp](hE:ER w bt S a){o:Oper}{f:Operand}{as:Array Operand}{ts:Array TypeId}(ho:o.op= .call { callee:=.value f,args:=as,argTypes:=ts })
  {g:FuncId} {caps:List AV} (hc:callee S f=some (g,caps)) {avs:List AV} {W':Nat->Prop} {bt0:Bt} {gs:List T} {m:Nat} {res:AV} {out:List T} (hS:ew P g avs gs m res out) (hI0:dP w W' bt0 (fL gs) w)
  (hav: ∀us:List Value,us.length=caps.length->(∀ (k:Nat) (c:AV) (u:Value),caps[k]? =some c->us[k]? =some u->VR w bt c u)->(as.toList.map a.eval++us).length=avs.length/\ ∀ (k:Nat) (v:AV) (u:Value),avs[k]? =some v->(as.toList.map a.eval++us)[k]? =some u->VR w bt0 v u)
  {K:Act->World->Prop} {Q:Exit->Act->World->Prop}
  (h: ∀u w' btn,dP w W' btn (fL out) w'->m<=out.length->(∀p:dA,p.r<m->btn.β p=bt0.β p/\btn.κ p=bt0.κ p)->VR w' btn res u->K (a.put o.dst u) w'):o.wp P a w K Q:=by
 have hf:=dB hE f
 have fin: ∀us:List Value,a.eval f= .func (.func g) #[] us.toArray->us.length=caps.length->(∀ (k:Nat) (c:AV) (u:Value),caps[k]? =some c->us[k]? =some u->VR w bt c u)->o.wp P a w K Q:=by
  intro us he hl hcc;obtain⟨h1,h2⟩:=hav us hl hcc;obtain⟨g1,g2⟩:=hS w _ _ (as.toList.map a.eval++us) hI0 h1 h2
  have hrun: (execOp a.eval o).run P w= .ok (.enter g (as.toList.map a.eval++us).toArray) w:=by
   have e:as.map a.eval++us.toArray=(as.toList.map a.eval++us).toArray:=by apply Array.ext';simp
   obtain⟨dst,op,type,pos,after,guard⟩:=o;simp only at ho;subst ho;simp only[execOp,resolve,he,Deferred.ofValue,Sem.run_bind,Sem.run_pure,Result.andThen_ok,invoke,Array.empty_append];rw[e];exact g1
  unfold Oper.wp;rw[hrun,Oper.upon_enter];refine Calls.mono g2 (λe w' hh=> ?_);obtain⟨v,btn,rfl,k1,k2,k3,k4⟩:=hh;exact h v w' btn k1 k2 k3 k4
 unfold callee at hc;split at hc
 ·rename_i g' x y he;simp only[ae,ao] at hc;obtain⟨rfl,rfl⟩:=hc;rw[he] at hf;generalize hu:a.eval f=u at hf fin;cases hf with
  |sc hs=>simp only[fS,aj,Array.isEmpty_iff] at hs;obtain⟨rfl,rfl⟩:=hs;exact fin [] rfl rfl (λk c u h1 _=>by simp at h1)
 ·rename_i g' cs he;simp only[ae,ao] at hc;obtain⟨rfl,rfl⟩:=hc;rw[he] at hf;generalize hu:a.eval f=u at hf fin;cases hf with
  |fn f hl hcc=>exact fin _ rfl hl hcc
 ·cases hc
theorem mL[dp]{D:gR}(hD:eO P D)(hI:dP w0 W bt S w)(hE:ER w bt S a){o:Oper}{f:Operand}{as:Array Operand}{ts:Array TypeId}(ho:o.op= .call { callee:=.value f,args:=as,argTypes:=ts })(hts:ts.size=as.size)
  {g:FuncId} {caps:List AV} (hc:callee S f=some (g,caps)) {res:AV} {out:List T} {d:Option Tmp} (hr:D d g (args P S ts as caps) [] =some (res,out)) {K:Act->World->Prop} {Q:Exit->Act->World->Prop}
  (h: ∀u w' btn,dP w (λ_=>False) btn (fL out) w'->VR w' btn res u->K (a.put o.dst u) w'):o.wp P a w K Q:=
 qd hE ho hc (hD d g _ [] res out hr) (tG (rL.step hI λ_ h=>h.elim) (zN bt w) (λ_ h=>h)) (λ_ hl hcc=>w7 hI hE hts hl hcc) λu w' btn k1 _ _ k4=>h u w' btn k1 k4
theorem uB[dp](hI:dP w0 W bt S w)(hE:ER w bt S a){res:AV}{out:List T}{u:Value}(hC:dP w (λ_=>False) btn (fL out) w')(hv:VR w' btn res u):
  ∃bt',dP w0 W bt' S w'/\ER w' bt' S a/\bt.le bt'/\bt'.β=bt.β/\bt'.κ=bt.κ/\VR w' bt' (Bx (res,out)) u:=by
 have hb:=iw hC;have hg:gT w0 W bt S w w':=gT.of_below hb
 obtain⟨h1,hle⟩:=(hI.change hg).more (A:=λb=>bt.A b\/(w.heap.size<=b/\b<w'.heap.size)) (λb h=> .inl h) (λb h=>by
  rcases h with h|h
  ·exact aI (hI.alt b h) hb.size
  ·exact h.2) (λb h=>by
  rcases h with h|h
  ·exact .inl h
  ·have:=hI.fresh h.1;exact .inr ⟨this.1,this.2.1⟩)
 refine⟨_,h1,⟨hE.1,λt=>(hE.2 t).mono hle (hg.A hI)⟩,hle,rfl,rfl,?_⟩
 have hA: ∀p s rs,(fL out).look p= .sl s rs->0<btn.κ p->(bt.A (btn.β p).1\/(w.heap.size<=(btn.β p).1/\(btn.β p).1<w'.heap.size)):=by
  intro p s rs h hk;rcases ((hC.tr p s rs h).2 hk).1 with h'|h'
  ·exact .inr ⟨h',hC.βlt h hk⟩
  ·exact h'.elim
 have one: ∀ {v u},VR w' btn v u->VR w' { bt with A:=λb=>bt.A b\/(w.heap.size<=b/\b<w'.heap.size) } (xK out v) u:=by
  intro v u h;cases v with
  |sc v=>cases h with |sc h=>exact .sc h
  |own p sz lo len=>
   simp only[xK];split
   ·rename_i s rows hl ht;split
    ·rename_i hc;obtain⟨rfl,hle'⟩:=hc;refine .ro (sE hC hA h ?_ hle');obtain⟨r,l⟩:=p;simp only at hl ht;subst hl;simp[St.rows,St.look,fL,ht,T.go]
    ·exact .dead _
   ·exact .dead _
  | _=>exact .dead _
 have two: ∀ {v u},VR w' btn v u->VR w' { bt with A:=λb=>bt.A b\/(w.heap.size<=b/\b<w'.heap.size) } (zt out v) u:=by
  intro v u h;cases v with
  |agg cs=>
   cases h with
   |agg hl ho hr=>refine .agg (by simpa using hl) ho (λj c u h1 h2=> ?_);rw[ap] at h1;simp only[ai] at h1;obtain⟨c',e1,rfl⟩:=h1;exact one (hr j c' u e1 h2)
  | _=>exact one h
 unfold Bx;cases res with
 |tup vs=>
  cases hv with
  |tup hl hr=>refine .tup (by simpa using hl) (λj c u h1 h2=> ?_);rw[ap] at h1;simp only[ai] at h1;obtain⟨c',e1,rfl⟩:=h1;exact two (hr j c' u e1 h2)
 | _=>exact two hv
end
end
section
open Go Go.RowKit
section
variable {P:Program} {w0 w w':World} {W:Nat->Prop} {btI bt bt':Bt} {SI S S':St} {a a':Act} {D:gR} {Q:Exit->Act->World->Prop}
structure Lv [dp] (w0:World) (W:Nat->Prop) (btI:Bt) (SI:St) (bt:Bt) (S:St) (a:Act) (w:World):Prop where
 inv:dP w0 W bt S w
 er:ER w bt S a
 defers:a.defers= []
 fz:S.fz=SI.fz
 fzng:S.fz<=S.ng
 keep: ∀p:dA,p.r<SI.fz->bt.β p=btI.β p/\bt.κ p=btI.κ p
 gone: ∀r,r<SI.fz->S.gh r=none->SI.gh r=none
theorem Lv.left[dp](h:Lv w0 W btI SI bt S a w)(g:ei w0 W bt S a bt' S' w'):Lv w0 W btI SI bt' S' a w':=
 ⟨g.inv,g.er,h.defers,g.fz.trans h.fz,by rw[g.fz];exact aR h.fzng g.ng,λp hp=>⟨((g.keep p (by rw[h.fz];exact hp)).1).trans (h.keep p hp).1,((g.keep p (by rw[h.fz];exact hp)).2).trans (h.keep p hp).2⟩,
  λr hr hn=>h.gone r hr (g.gone r (by rw[h.fz];exact hr) hn)⟩
theorem wd{d:Option Tmp}{v:AV}(h:S.put d v=some S'):S'.bx=S.bx/\S'.gh=S.gh/\S'.nb=S.nb/\S'.ng=S.ng/\S'.fz=S.fz/\S'.nt=S.nt/\S'= { S with env:=S'.env } :=by
 unfold St.put at h;split at h
 ·split at h
  ·simp only[ae] at h;subst h;exact⟨rfl,rfl,rfl,rfl,rfl,rfl,rfl⟩
  ·cases h
 ·simp only[ae] at h;subst h;exact⟨rfl,rfl,rfl,rfl,rfl,rfl,rfl⟩
theorem dP.env[dp](h:dP w0 W bt S w)(env:Nat->AV):dP w0 W bt { S with env:=env } w:=
 { good:=h.good,os:=h.os,tape:=h.tape,output:=h.output,size:=h.size,keep:=h.keep,nb:=h.nb,ng:=h.ng,bx:=h.bx,gh:=h.gh,tr:=h.tr,inj:=h.inj,bbinj:=h.bbinj,bbtr:=h.bbtr,alt:=h.alt,atr:=h.atr,abb:=h.abb }
theorem Lv.put[dp](h:Lv w0 W btI SI bt S a w){d:Option Tmp}{v:AV}{u:Value}(hv:VR w bt v u)(hp:S.put d v=some S'):Lv w0 W btI SI bt S' (a.put d u) w:=by obtain⟨_,e2,_,e4,e5,_,e7⟩:=wd hp;refine⟨by rw[e7];exact h.inv.env _,h.er.put hv hp,?_,e5.trans h.fz,by rw[e5,e4];exact h.fzng,h.keep,λr hr hn=>h.gone r hr (by rw[<-e2];exact hn)⟩;cases d<;>exact h.defers
theorem my:VR w bt (.tup []) undef:=.tup (us:=[]) rfl (λ_ _ _ h=>by cases h)
theorem ga{ops:Array Oper}{o:Oper}{b:Bool}(hE:ER w bt S a)(h:fP S ops o=some b):Region.wanted o (yielded ops a.tmps)=b:=by
 unfold fP at h;unfold Region.wanted;split at h
 ·rename_i hg;simp only[ae] at h;simp[hg,h]
 ·rename_i j want hg;split at h
  ·rename_i d hd;split at h
   ·rename_i b' he;simp only[ae] at h;have hv:=hE.2 d;rw[he] at hv;have hu:=hv.inv_sc
    have hy:yielded ops a.tmps j=some b':=by
     unfold yielded;rw[hd];simp only[al];cases hx:a.tmps[d]? with
     |none=>simp only[aJ,hx,Option.getD_none] at hu;cases hu
     |some x=>simp only[aJ,hx,aP] at hu;subst hu;rfl
    simp only[hg,hy,<-h];cases b'<;>cases want<;>rfl
   ·rename_i he;simp only[ae] at h;have hv:=hE.2 d;rw[he] at hv
    have hu:a.tmps.getD d undef=undef:=by
     generalize a.tmps.getD d undef=u at hv;cases hv with
     |tup hl h=>rw[cP.1 hl];rfl
    have hy:yielded ops a.tmps j=none:=by
     unfold yielded;rw[hd];simp only[al];cases hx:a.tmps[d]? with
     |none=>rfl
     |some x=>simp only[aJ,hx,aP] at hu;subst hu;rfl
    simp only[hg,hy,<-h];cases want<;>rfl
   ·cases h
  ·cases h
theorem jj[dp](hD:eO P D)(h:Lv w0 W btI SI bt S a w){o:Oper}(hok:fw P o=true)(hs:one D P S o=some S'){K:Act->World->Prop}(hK: ∀bt' a' w',Lv w0 W btI SI bt' S' a' w'->K a' w'):o.wp P a w K Q:=by
 unfold one at hs;simp only[af] at hs;obtain⟨⟨v,S1⟩,h1,h2⟩:=hs;simp only at h2;by_cases hf:gD o=true
 ·obtain⟨dst,op,type,pos,after,guard⟩:=o;unfold gD at hf;split at hf
  ·rename_i f as ts hop;simp only at hop;subst hop;simp only[step,af,ai] at h1;obtain⟨⟨g,caps⟩,hc,⟨res,out⟩,hr,hi⟩:=h1;simp only[fw,beq_iff_eq] at hok;refine mL hD h.inv h.er rfl hok hc hr (λu w' btn hC hv=> ?_);obtain⟨bt',g1,_,g2⟩:=jR h.inv h.er h.fzng hC hv;rw[hi] at g1 g2;exact hK _ _ _ ((h.left g1).put g2 h2)
  ·cases hf
 ·obtain⟨u,w',bt',g0,g1,g2⟩:=yu h.inv h.er h.fzng hok (by simpa using hf) h1;have:=hK _ _ _ ((h.left g1).put g2 h2);unfold Oper.wp;rcases g0 with g0| ⟨g0,rfl⟩
  ·rw[g0,Oper.upon_value];exact this
  ·rw[g0,Oper.upon_skip];exact this
end
end
section
open Go Go.RowKit
section
variable {P:Program} {S:St} {D:gR}
theorem nA{o:Oper}{env:Nat->AV}(hs: ∀cs b,o.op≠ .select cs b)(h: ∀x∈o.op.operands,opd { S with env:=env } x=opd S x):dy P { S with env:=env } o=dy P S o:=by
 have e1:o.op.operands.all (λx=>(hQ (opd { S with env:=env } x)).isSome)=o.op.operands.all (λx=>(hQ (opd S x)).isSome):=by
  rw[bF,bZ,bZ];constructor
  ·grind
  ·grind
 grind [execOp_congr,dy]
theorem oI(env:Nat->AV)(szs:List Nat)(v:AV):eJ { S with env:=env } szs v=eJ S szs v:=by cases v<;>rfl
theorem vL(env:Nat->AV)(t:TypeId)(v:AV):load P { S with env:=env } t v=load P S t v:=by cases v<;>rfl
theorem mA{env:Nat->AV}{ts:Array TypeId}{as:Array Operand}(caps:List AV)(h: ∀x∈as,opd { S with env:=env } x=opd S x):args P { S with env:=env } ts as caps=args P S ts as caps:=by
 unfold args
 congr 1
 ·apply bu;intro k;rw[be,be];cases ht:ts.toList[k]? with
  |none=>rfl
  |some t=>
   cases ha:as.toList[k]? with
   |none=>rfl
   |some x=>grind [oI]
theorem kD{env:Nat->AV}{f:Operand}(h:opd { S with env:=env } f=opd S f):callee { S with env:=env } f=callee S f:=by unfold callee;rw[h]
theorem rv{o:Oper}{env:Nat->AV}(hok:fw P o=true)(h: ∀x∈o.op.operands,opd { S with env:=env } x=opd S x):dk D P { S with env:=env } o=dk D P S o:=by
 have hs: ∀cs b,o.op≠ .select cs b:=by intro cs b he;simp[fw,he] at hok
 have sc:=nA (P:=P) hs h;obtain⟨dst,op,type,pos,after,guard⟩:=o;cases op with
 |move x=>grind [dk,Op.operands]
 |assign x=>grind [dk,Op.operands]
 |pick c x y=>grind [dk,Op.operands]
 |load t x=>grind [dk,Op.operands,vL]
 |nilCheck x=>grind [dk,Op.operands]
 |fieldAddr t x k=>grind [dk,Op.operands]
 |field t x k=>grind [dk,Op.operands]
 |indexAddr t x i=>grind [dk,Op.operands]
 |build t parts=>
  simp only[dk]
  have :parts.toList.map (λx=>(x.1,opd { S with env:=env } x.2))=parts.toList.map (λx=>(x.1,opd S x.2)):=az λx hx=>by rw[h x.2 (by simp only[Op.operands,cx];exact aB.2 ⟨x,hx,rfl⟩)]
  rw[this]
 |slice t x lo hi mx=>
  cases mx with
  |some m=>simp only[dk];exact sc
  |none=>
   have hb: ∀d (y:Option Operand),(∀z,y=some z->opd { S with env:=env } z=opd S z)->fC { S with env:=env } d y=fC S d y:=by
    intro d y hy;cases y with
    |none=>rfl
    |some z=>simp only[fC];rw[hy z rfl]
   simp_all [Op.operands,dk]
 |index t x i=>grind [dk,Op.operands]
 |extract x k=>grind [dk,Op.operands]
 |makeFunc fn first caps=>cases fn<;>grind [dk,List.map_congr_left,Op.operands]
 |unOp op t x=>grind [dk,Op.operands]
 |binOp op t x y t'=>have hx:=h x (by simp[Op.operands]);have hy:=h y (by simp[Op.operands]);cases op<;>simp only[dk]<;>first |exact sc|rw[hx,hy,sc]
 |call c=>
  obtain⟨cl,as,ts⟩:=c;cases cl with
  |builtin b=>
   cases b with
   |len=>
    simp only[dk];rw[sc];split
    ·rename_i x t e1 e2;have e1:as= #[x] :=by apply Array.ext';simpa using e1
     grind [Op.operands,Call.operands]
    ·rfl
   |cap=>
    simp only[dk];rw[sc];split
    ·rename_i x t e1 e2;have e1:as= #[x] :=by apply Array.ext';simpa using e1
     grind [Op.operands,Call.operands]
    ·rfl
   |max=>grind [List.map_congr_left,Op.operands,Call.operands,dk]
   |min=>grind [List.map_congr_left,Op.operands,Call.operands,dk]
   | _=>simp only[dk];exact sc
  |value f=>
   simp only[dk];rw[kD (h f (by simp[Op.operands,Call.operands]))]
   congr 1
   funext x
   grind [mA,Op.operands,Call.operands]
  |invoke r m=>simp only[dk];exact sc
 | _=>simp only[dk];exact sc
end
end
section
open Go Go.RowKit
section
variable {P:Program} {w0 w w':World} {W:Nat->Prop} {btI bt bt':Bt} {SI S S' SV:St} {a a':Act} {D:gR} {Q:Exit->Act->World->Prop} {ops:Array Oper}
def tc(ops:List Oper)(B:List (List Nat)):Bool:=(List.range ops.length).all λj=>(B.getD j []).all λi=>decide (i<j)&&match ops[j]? with
 |some o=>o.after.toList.any λe=>Region.binds .any e&&(e.on==i||(B.getD e.on []).contains i)
 |none=>false
def nk(all:Array Oper)(B:List (List Nat))(i j:Nat)(oi oj:Oper):Bool:=
 (i==j||((oi.dst.isNone||oi.dst != oj.dst)&&(!(dh oj&&(!dh oi||decide (i<j)))||(B.getD j []).contains i||(!dh oi&& !fJ oi))))&&
 (match oi.dst with |some d=> !(oj.looksAt all).contains d||(B.getD j []).contains i||(!dh oj&&(i==j||(B.getD i []).contains j))|none=>true)
def tg(all:Array Oper):Bool:=
 let ops:=all.toList
 let B:=dM ops
 tc ops B&&(List.range ops.length).all λj=>match ops[j]? with
  |none=>false
  |some oj=>(oj.after.toList.all λe=> !Region.binds .any e||decide (e.on<j))&&(!dh oj||(oj.dst.isNone&&oj.guard.isNone))&&
   (List.range ops.length).all λi=>match ops[i]? with |none=>false|some oi=>nk all B i j oi oj
def mO(P:Program)(all:Array Oper):Bool:=tg all&&all.toList.all (fw P)
structure yZ (P:Program) (ops:Array Oper) (B:List (List Nat)):Prop where
 lt: ∀ (j i:Nat),j<ops.size->i∈B.getD j [] ->i<j
 edge: ∀ (j i:Nat) (o:Oper),ops[j]? =some o->i∈B.getD j [] -> ∃e∈o.after,Region.binds .any e=true/\(e.on=i\/i∈B.getD e.on [])
 ok: ∀ (j:Nat) (o:Oper),ops[j]? =some o->fw P o=true
 on: ∀ (j:Nat) (o:Oper) (e:Edge),ops[j]? =some o->e∈o.after->Region.binds .any e=true->e.on<j
 st: ∀ (j:Nat) (o:Oper),ops[j]? =some o->dh o=true->o.dst=none/\o.guard=none
 dst: ∀ (i j:Nat) (oi oj:Oper) (d:Tmp),ops[i]? =some oi->ops[j]? =some oj->oi.dst=some d->oj.dst=some d->i=j
 late: ∀ (i j:Nat) (oi oj:Oper),ops[i]? =some oi->ops[j]? =some oj->i≠j->dh oj=true->(dh oi=false\/i<j)->i∈B.getD j [] \/(dh oi=false/\fJ oi=false)
 look: ∀ (i j:Nat) (oi oj:Oper) (d:Tmp),ops[i]? =some oi->ops[j]? =some oj->oi.dst=some d->d∈oj.looksAt ops->i∈B.getD j [] \/(dh oj=false/\(i=j\/j∈B.getD i []))
theorem qn(h:mO P ops=true):yZ P ops (dM ops.toList):=by
 unfold mO tg at h;simp only[aj] at h;obtain⟨⟨h1,h2⟩,hop⟩:=h
 have lst: ∀ (j:Nat) (o:Oper),ops[j]? =some o->j<ops.toList.length/\ops.toList[j]? =some o:=by intro j o ho;refine⟨?_,by simpa using ho⟩;have:=(ay.1 ho).1;simpa using this
 have h3: ∀ (j:Nat) (oj:Oper),ops[j]? =some oj->(oj.after.toList.all λe=> !Region.binds .any e||decide (e.on<j))=true/\(!dh oj||(oj.dst.isNone&&oj.guard.isNone))=true/\
   ∀ (i:Nat) (oi:Oper),ops[i]? =some oi->nk ops (dM ops.toList) i j oi oj=true:=by
  intro j oj hj;obtain⟨l1,l2⟩:=lst j oj hj;have:=ar.1 h2 j (bn.2 l1);simp only[l2,aj] at this;refine⟨this.1.1,this.1.2,λi oi hi=> ?_⟩;obtain⟨m1,m2⟩:=lst i oi hi;have:=ar.1 this.2 i (bn.2 m1);simpa only[m2] using this
 have h4: ∀ (j i:Nat),j<ops.size->i∈(dM ops.toList).getD j [] ->i<j/\ ∀o,ops[j]? =some o-> ∃e∈o.after,Region.binds .any e=true/\(e.on=i\/i∈(dM ops.toList).getD e.on []):=by intro j i hj hi;unfold tc at h1;have:=ar.1 (ar.1 h1 j (bn.2 (by simpa using hj))) i hi;simp only[aj,decide_eq_true_eq] at this;refine⟨this.1,λo ho=> ?_⟩;have h5:=this.2;rw[(lst j o ho).2] at h5;simp only[bJ,aj,bi,beq_iff_eq,ba] at h5;obtain⟨e,he,hb,hc⟩:=h5;exact⟨e,by simpa using he,hb,hc⟩
 refine⟨λj i hj hi=>(h4 j i hj hi).1,λj i o ho hi=>(h4 j i (ay.1 ho).1 hi).2 o ho,λj o ho=>ar.1 hop o (aw (lst j o ho).2),λj o e ho he hb=> ?_,λj o ho hs=> ?_,λi j oi oj d hi hj hdi hdj=> ?_,λi j oi oj hi hj hne hs hor=> ?_,λi j oi oj d hi hj hd hl=> ?_⟩
 ·have:=ar.1 (h3 j o ho).1 e (by simpa using he);simpa [hb] using this
 ·have:=(h3 j o ho).2.1;simp only[hs,cS,bV,aj,cr] at this;exact this
 ·have:=(h3 j oj hj).2.2 i oi hi;unfold nk at this;simp only[aj,bi,beq_iff_eq] at this;rcases this.1 with h|h
  ·exact h
  ·have:=h.1;rw[hdi,hdj] at this;simp at this
 ·have:=(h3 j oj hj).2.2 i oi hi;unfold nk at this;simp only[aj,bi,beq_iff_eq] at this;rcases this.1 with h|h
  ·exact absurd h hne
  ·rcases h.2 with h'|h'
   ·rcases h' with h'|h'
    ·exfalso;rcases hor with hor|hor<;>simp[hs,hor] at h'
    ·exact .inl (ba.1 h')
   ·simp only[bB] at h';exact .inr h'
 ·have:=(h3 j oj hj).2.2 i oi hi;unfold nk at this;simp only[aj] at this;have h':=this.2;rw[hd] at h';simp only[bi,aj,bB,ba,beq_iff_eq] at h';rcases h' with (h'|h')|h'
  ·rw[ba.2 hl] at h';cases h'
  ·exact .inl h'
  ·exact .inr h'
end
end
section
open Go Go.RowKit
section
variable {P:Program} {w0 w:World} {W:Nat->Prop} {bt:Bt} {S:St} {a:Act}
theorem mm: ∀ {l:List Nat},zH l=true↔l.Nodup
 | [] =>by simp[zH]
 |a::l=>by unfold zH;rw[aj,mm (l:=l),List.nodup_cons];simp
theorem pj: ∀ {l:List Nat} {r:Nat},r∈l->r<pN l
 | [],_,h=>by cases h
 |a::l,r,h=>by
  unfold pN;rcases aU.1 h with rfl|h
  ·omega
  ·have:=pj h;omega
theorem ka{l:List Nat}{r:Nat}:r∈fj l↔r∈l:=by grind [fj,pj]
theorem fq(l:List Nat)(r:Nat): (fj l).contains r=l.contains r:=by simp_all [ka]
theorem iz{s:Nat}{v:AV}{x:T}{l:List Nat}(h:fm S s v=some (x,l)):
  (l= [] /\ ∀ (w:World) (bt:Bt) (c:Value),VR w bt v c->CR x c)\/ ∃q len rows,v= .own ⟨q,[]⟩ s 0 len/\S.fz<=q/\S.look ⟨q,[]⟩= .sl s rows/\len<=rows.length/\x= .sl s (rows.take len)/\l= [q] :=by
 unfold fm at h;split at h
 ·simp only[ae,ao] at h;obtain⟨rfl,rfl⟩:=h;exact .inl ⟨rfl,λw bt c hv=>CR.ofSc hv⟩
 ·split at h
  ·simp only[ae,ao] at h;obtain⟨rfl,rfl⟩:=h;refine .inl ⟨rfl,λw bt c hv=> ?_⟩;cases hv with
   |em a=>exact .em _ a
  ·rename_i q s' lo len;split at h
   ·rename_i hc;obtain⟨h1,rfl,rfl,h4⟩:=hc;simp only[af] at h;obtain⟨rows,hr,h⟩:=h;split at h
    ·rename_i hle;simp only[ae,ao] at h;obtain⟨rfl,rfl⟩:=h;obtain⟨qr,ql⟩:=q;simp only at h1;subst h1;exact .inr ⟨qr,len,rows,rfl,h4,eS hr,hle,rfl,rfl⟩
    ·cases h
   ·cases h
  ·cases h
theorem lR: ∀ {ss:List Nat} {vs:List AV} {xs:List T} {L:List Nat},ek S ss vs=some (xs,L)->xs.length=vs.length/\ss.length=vs.length/\
  (∀ (j:Nat) (v:AV),vs[j]? =some v-> ∃s x l,ss[j]? =some s/\xs[j]? =some x/\fm S s v=some (x,l)/\ ∀q∈l,q∈L)/\
  (L.Nodup-> ∀ (j j':Nat) (v v':AV) (s s':Nat) (x x':T) (q:Nat),vs[j]? =some v->vs[j']? =some v'->ss[j]? =some s->ss[j']? =some s'->fm S s v=some (x,[q])->fm S s' v'=some (x',[q])->j=j')
 | [],[],xs,L,h=>by simp_all [ek]
 |s::ss,v::vs,xs,L,h=>by
  simp only[ek,af,ai,Prod.exists,ao] at h;obtain⟨x,l,h1,xs',L',h2,rfl,rfl⟩:=h;obtain⟨e1,e2,e3,e4⟩:=lR h2
  grind
 | [],_::_,_,_,h=>by simp[ek] at h
 | _::_,[],_,_,h=>by simp[ek] at h
def eK(S:St)(ss:List Nat)(vss:List (List AV))(i j q:Nat):Prop:=∃vs v s x,vss[i]? =some vs/\vs[j]? =some v/\ss[j]? =some s/\fm S s v=some (x,[q])
theorem lW{ss:List Nat}: ∀ {vss:List (List AV)} {rows:List (List T)} {L:List Nat},dZ S ss vss=some (rows,L)->rows.length=vss.length/\
  (∀ (i:Nat) (vs:List AV),vss[i]? =some vs-> ∃r,rows[i]? =some r/\r.length=vs.length/\ ∀ (j:Nat) (v:AV),vs[j]? =some v-> ∃s x l,ss[j]? =some s/\r[j]? =some x/\fm S s v=some (x,l)/\ ∀q∈l,q∈L)/\
  (L.Nodup-> ∀ (i i' j j' q:Nat),eK S ss vss i j q->eK S ss vss i' j' q->i=i'/\j=j')
 | [],rows,L,h=>by simp only[dZ,ae,ao] at h;obtain⟨rfl,rfl⟩:=h;exact⟨rfl,λi vs h=>by simp at h,λ_ i i' j j' q ⟨vs,v,s,x,h,_⟩=>by simp at h⟩
 |vs::vss,rows,L,h=>by
  simp only[dZ,af,ai,Prod.exists,ao] at h;obtain⟨r,l,h1,rs,L',h2,rfl,rfl⟩:=h;obtain⟨e1,e2,e3⟩:=lW h2;obtain⟨f1,f2,f3,f4⟩:=lR h1;refine⟨by simp[e1],λi us hi=> ?_,λhnd i i' j j' q g1 g2=> ?_⟩
  ·grind
  ·rw[List.nodup_append] at hnd;obtain⟨n1,n2,n3⟩:=hnd
   have zero: ∀ (j:Nat),eK S ss (vs::vss) 0 j q->q∈l:=by
    rintro j ⟨us,v,s,x,k1,k2,k3,k4⟩
    simp only[aG,ae] at k1;subst k1;obtain⟨s',x',l',m1,m2,m3,m4⟩:=f3 j v k2;rw[k3] at m1;simp only[ae] at m1;subst m1;rw[k4] at m3;simp only[ae,ao] at m3;exact m4 q (by grind)
   have iA: ∀ (i j:Nat),eK S ss (vs::vss) (i+1) j q->eK S ss vss i j q:=by
    rintro i j ⟨us,v,s,x,k1,k2,k3,k4⟩
    exact⟨us,v,s,x,by simpa using k1,k2,k3,k4⟩
   have succ: ∀ (i j:Nat),eK S ss vss i j q->q∈L':=by
    rintro i j ⟨us,v,s,x,k1,k2,k3,k4⟩
    obtain⟨r',m1,m2,m3⟩:=e2 i us k1;obtain⟨s',x',l',p1,p2,p3,p4⟩:=m3 j v k2;rw[k3] at p1;simp only[ae] at p1;subst p1;rw[k4] at p3;simp only[ae,ao] at p3;exact p4 q (by grind)
   cases i with
   |zero=>
    cases i' with
    |zero=>
     obtain⟨us,v,s,x,k1,k2,k3,k4⟩:=g1;obtain⟨us',v',s',x',k1',k2',k3',k4'⟩:=g2
     grind
    |succ i'=>grind
   |succ i=>cases i'<;>grind
theorem lQ: ∀ {ss:List Nat} {vs:List AV} {xs:List T} {L:List Nat},ek S ss vs=some (xs,L)-> ∀q∈L,S.fz<=q/\ ∃v∈vs,∃s len,v= .own ⟨q,[]⟩ s 0 len
 | [],[],xs,L,h=>by simp_all [ek]
 |s::ss,v::vs,xs,L,h=>by
  simp only[ek,af,ai,Prod.exists,ao] at h;obtain⟨x,l,h1,xs',L',h2,rfl,rfl⟩:=h;intro q hq;rcases bq.1 hq with hq|hq
  ·rcases iz h1 with ⟨rfl,_⟩| ⟨q',len,rows,e1,e2,_,_,_,rfl⟩
   all_goals grind
  ·obtain⟨g1,u,g2,g3⟩:=lQ h2 q hq
   grind
 | [],_::_,_,_,h=>by simp[ek] at h
 | _::_,[],_,_,h=>by simp[ek] at h
theorem jk{ss:List Nat}: ∀ {vss:List (List AV)} {rows:List (List T)} {L:List Nat},dZ S ss vss=some (rows,L)-> ∀q∈L,S.fz<=q/\ ∃vs∈vss,∃v∈vs,∃s len,v= .own ⟨q,[]⟩ s 0 len
 | [],rows,L,h=>by simp_all [dZ]
 |vs::vss,rows,L,h=>by
  simp only[dZ,af,ai,Prod.exists,ao] at h;obtain⟨r,l,h1,rs,L',h2,rfl,rfl⟩:=h;intro q hq;rcases bq.1 hq with hq|hq
  ·obtain⟨g1,g2⟩:=lQ h1 q hq;exact⟨g1,vs,aF,g2⟩
  ·obtain⟨g1,us,g2,g3⟩:=jk h2 q hq
   grind
theorem iB{L:List Nat}{p:dA}{s:Nat}{rs:List (List T)}(h: (dropL S L).look p= .sl s rs):p.r∉L/\S.look p= .sl s rs:=by
 unfold St.look dropL at h;simp only at h;by_cases hp:L.contains p.r=true
 ·rw[if_pos hp] at h;cases h
 ·rw[if_neg hp] at h;exact⟨by simpa using hp,h⟩
theorem dP.dropL[dp](hI:dP w0 W bt S w)(L:List Nat):dP w0 W bt (dropL S L) w:=
 hI.less (λr t h=>by
  split at h
  ·cases h
  ·exact h)
open Classical in
noncomputable def kF(bt:Bt)(S:St)(ss:List Nat)(vss:List (List AV))(b n:Nat):Bt:={ bt with
 β:=λp=>match p.l with | [] =>(b,0)| (i,j)::l=>if h: ∃q,eK S ss vss i j q then bt.β ⟨Classical.choose h,l⟩ else (0,0)
 κ:=λp=>match p.l with | [] =>n| (i,j)::l=>if h: ∃q,eK S ss vss i j q then bt.κ ⟨Classical.choose h,l⟩ else 0 }
theorem eK.uniq{ss:List Nat}{vss:List (List AV)}{i j q q':Nat}(h:eK S ss vss i j q)(h':eK S ss vss i j q'):q=q':=by
 obtain⟨us,v,s,x,k1,k2,k3,k4⟩:=h;obtain⟨us',v',s',x',k1',k2',k3',k4'⟩:=h'
 grind
theorem kG{ss:List Nat}{vss:List (List AV)}{b n i j q:Nat}(h:eK S ss vss i j q)(r:Nat)(l:List (Nat×Nat)): (kF bt S ss vss b n).β ⟨r,(i,j)::l⟩=bt.β ⟨q,l⟩/\(kF bt S ss vss b n).κ ⟨r,(i,j)::l⟩=bt.κ ⟨q,l⟩:=by
 have hx: ∃q,eK S ss vss i j q:=⟨q,h⟩
 have e:Classical.choose hx=q:=(Classical.choose_spec hx).uniq h
 simp_all [kF]
theorem oZ[dp](hI:dP w0 W bt S w)(hE:ER w bt S a)(hfz:S.fz<=S.ng){t el:TypeId}{len:Nat}{parts:Array (Nat×Operand)}{rows:List (List T)}{L:List Nat}(hel:iv P t=some el)(h20:len*P.cellsOf el<=2 ^ 20)
  (hix:parts.toList.map (·.1)=List.range len) (hpos:0<P.cellsOf el) (hz: (kT P el).isSome=true) (hall:parts.toList.all (λx=>(opd S x.2).cells.length=P.cellsOf el&& !(opd S x.2).isDead)=true)
  (hp:dZ S (fE P 9 el) (parts.toList.map λx=>(opd S x.2).cells)=some (rows,L)) (hnd:zH L=true):
  ∃u w' bt',(Instr.buildSlice t len (parts.map λx=>(x.1,a.eval x.2))).run P w= .ok u w'/\ei w0 W bt S a bt' (S.make ⟨S.ng,[.sl (P.cellsOf el) rows],fj L⟩) w'/\bt.le bt'/\VR w' bt' (.own ⟨S.ng,[]⟩ (P.cellsOf el) 0 len) u:=by
 obtain⟨cs,hrun,hcs,hcell,hone⟩:=gz (a:=a) hE hel h20 hix hpos hz hall;obtain⟨p1,p2,p3⟩:=lW hp;have p3:=p3 (mm.1 hnd)
 have hpl:parts.toList.length=len:=by have:=congrArg List.length hix;simpa using this
 have hrl:rows.length=len:=by rw[p1,aD,hpl]
 generalize hvss: (parts.toList.map λx=>(opd S x.2).cells)=vss at*
 have hparts: ∀ (i:Nat) (vs:List AV),vss[i]? =some vs-> ∃x,parts.toList[i]? =some x/\vs=(opd S x.2).cells/\vs.length=P.cellsOf el:=by intro i vs hi;rw[<-hvss,ap] at hi;simp only[ai] at hi;obtain⟨x,hx,rfl⟩:=hi;have:=ar.1 hall x (aw hx);simp only[aj,decide_eq_true_eq] at this;exact⟨x,hx,rfl,this.1⟩
 have cellAt: ∀ (i j:Nat) (r:List T) (x:T),rows[i]? =some r->r[j]? =some x-> ∃vs v s l c,vss[i]? =some vs/\vs[j]? =some v/\(fE P 9 el)[j]? =some s/\fm S s v=some (x,l)/\(∀q∈l,q∈L)/\r.length=P.cellsOf el/\cs[i*P.cellsOf el+j]? =some c/\VR w bt v c:=by
  intro i j r x hi hj;have hil:i<vss.length:=by rw[<-p1];exact (ah.1 hi).1
  obtain⟨r',k1,k2,k3⟩:=p2 i _ (an hil);rw[hi] at k1;cases k1;have hjl:j<vss[i].length:=by rw[<-k2];exact (ah.1 hj).1
  obtain⟨s,x',l,m1,m2,m3,m4⟩:=k3 j _ (an hjl);rw[hj] at m2;cases m2;obtain⟨y,hy,e1,e2⟩:=hparts i _ (an hil);obtain⟨c,q1,q2,_⟩:=hcell i y j vss[i][j] hy (by grind);exact⟨_,_,s,l,c,an hil,an hjl,m1,m3,m4,by rw[k2,e2],q1,q2⟩
 have giveL: ∀i j q,eK S (fE P 9 el) vss i j q->q∈L/\ ∃s rs,S.look ⟨q,[]⟩= .sl s rs:=by
  rintro i j q ⟨vs,v,s,x,k1,k2,k3,k4⟩
  obtain⟨r',m1,m2,m3⟩:=p2 i vs k1;obtain⟨s',x',l',n1,n2,n3,n4⟩:=m3 j v k2;rw[k3] at n1;cases n1;rw[k4] at n3;simp only[ae,ao] at n3;refine⟨n4 q (by grind),?_⟩;rcases iz k4 with ⟨h,_⟩| ⟨q',len',rows',_,_,h3,_,_,h6⟩
  ·cases h
  ·grind
 have hIL:=hI.dropL L;have hEL:ER w bt (dropL S L) a:=⟨hE.1,hE.2⟩
 let btn:=kF bt S (fE P 9 el) vss w.heap.size len
 have below: ∀p s rs,(fL [.sl (P.cellsOf el) rows]).look p= .sl s rs->p.r=0/\((p.l= [] /\s=P.cellsOf el/\rs=rows)\/
   ∃i j l,p.l=(i,j)::l/\(((∀q,¬eK S (fE P 9 el) vss i j q)/\rs= [])\/ ∃q rs0,eK S (fE P 9 el) vss i j q/\S.look ⟨q,l⟩= .sl s rs0/\ ∃n,rs=rs0.take n)):=by
  intro p s rs h;obtain⟨h0,h1⟩:=jC h;refine⟨h0,?_⟩;rcases h1 with h1| ⟨i,j,l,r,x,hl,h2,h3,h4⟩
  ·exact .inl h1
  ·obtain⟨vs,v,s',l',c,k1,k2,k3,k4,k5,k6,k7,k8⟩:=cellAt i j r x h2 h3;refine .inr ⟨i,j,l,hl,?_⟩;rcases iz k4 with ⟨e1,e2⟩| ⟨q,len',rows',e1,e2,e3,e4,e5,e6⟩
   ·left;refine⟨λq ⟨vs',v',s'',x',m1,m2,m3,m4⟩=> ?_,(e2 w bt c k8).go h4⟩
    grind
   ·right;subst e5 e6
    obtain⟨ht,hr,hgo⟩: ∃t,S.gh q=some t/\t= .sl s' rows':=by
     unfold St.look at e3;simp only at e3;split at e3
     ·rename_i t ht;exact⟨t,ht,e3⟩
     ·cases e3
    subst hgo;rcases T.go_take h4 with ⟨rfl,rfl,rfl⟩| ⟨hm,hg⟩
    ·exact⟨q,rows',⟨vs,v,s,_,k1,k2,k3,k4⟩,e3,len',rfl⟩
    ·refine⟨q,rs,⟨vs,v,s',_,k1,k2,k3,k4⟩,?_,rs.length,(List.take_length).symm⟩
     grind [St.look]
 have nested: ∀p s rs,(fL [.sl (P.cellsOf el) rows]).look p= .sl s rs->0<btn.κ p->(p=⟨0,[]⟩/\s=P.cellsOf el/\rs=rows)\/ ∃i j l q rs0 n,p=⟨0,(i,j)::l⟩/\eK S (fE P 9 el) vss i j q/\S.look ⟨q,l⟩= .sl s rs0/\rs=rs0.take n/\btn.β p=bt.β ⟨q,l⟩/\btn.κ p=bt.κ ⟨q,l⟩:=by
  intro p s rs h hk;obtain⟨pr,pl⟩:=p;obtain⟨h0,h1⟩:=below _ _ _ h;simp only at h0;subst h0;rcases h1 with ⟨h1,h2,h3⟩| ⟨i,j,l,hl,⟨h1,_⟩| ⟨q,rs0,h1,h2,n,h3⟩⟩
  ·grind
  ·grind [kF]
  ·simp only at hl;subst hl;obtain⟨e1,e2⟩:=kG (bt:=bt) (b:=w.heap.size) (n:=len) h1 0 l
   grind
 obtain⟨f1,f2,f3⟩:=hI.fresh (b:=w.heap.size) (au _);have hb:=fu w (.cells cs el)
 have hsub: ∀ (q r:Nat) (l:List (Nat×Nat)) (i j i' j':Nat),eK S (fE P 9 el) vss i j q->btn.β ((⟨r,(i,j)::l⟩:dA).sub i' j')=bt.β ((⟨q,l⟩:dA).sub i' j')/\btn.κ ((⟨r,(i,j)::l⟩:dA).sub i' j')=bt.κ ((⟨q,l⟩:dA).sub i' j'):=by intro q r l i j i' j' hq;exact kG hq r (l++ [(i',j')])
 have:=pm hIL hEL (by exact hfz) (gT.of_below hb) (sz:=P.cellsOf el) (rows:=rows) btn
  (λp s rs h=>by
    refine⟨?_,λhk=> ?_⟩
    ·obtain⟨pr,pl⟩:=p;obtain⟨h0,h1⟩:=below _ _ _ h;simp only at h0;subst h0;rcases h1 with ⟨h1,h2,h3⟩| ⟨i,j,l,hl,⟨_,h2⟩| ⟨q,rs0,h1,h2,n,h3⟩⟩
     ·simp only at h1;subst h1 h3;show rs.length<=len;omega
     ·rw[h2];exact bL _
     ·simp only at hl;subst hl;obtain⟨_,e2⟩:=kG (bt:=bt) (b:=w.heap.size) (n:=len) h1 0 l;show rs.length<=(kF bt S (fE P 9 el) vss w.heap.size len).κ _;rw[e2];have:=(hI.tr _ _ _ h2).1;rw[h3,cH];omega
    ·rcases nested p s rs h hk with ⟨rfl,rfl,rfl⟩| ⟨i,j,l,q,rs0,n,rfl,h1,h2,h3,e1,e2⟩
     ·refine⟨.inl hI.size,cs,el,gM w _,⟨by show 0+len*_<=_;rw[hcs,aL];exact au _,.inl rfl⟩,hone,λi r hi=> ?_⟩;have hil:i<vss.length:=by rw[<-p1];exact (ah.1 hi).1
      obtain⟨r',k1,k2,k3⟩:=p2 i _ (an hil);rw[hi] at k1;cases k1;obtain⟨y,hy,e1,e2⟩:=hparts i _ (an hil);refine⟨by rw[k2,e2],λj x hj=> ?_⟩;obtain⟨vs,v,s',l',c,k1,k2,k3,k4,k5,k6,k7,k8⟩:=cellAt i j r x hi hj;refine⟨c,(by show cs[0+_]? =_;rw[aL];exact k7),?_⟩;rcases iz k4 with ⟨e1,e2⟩| ⟨q,len',rows',rfl,e2,e3,e4,rfl,rfl⟩
      ·exact (e2 w bt c k8).hr _ _
      ·have hg:eK S (fE P 9 el) vss i j q:=⟨vs,_,s',_,k1,k2,k3,k4⟩
       obtain⟨m1,m2⟩:=kG (bt:=bt) (b:=w.heap.size) (n:=len) hg 0 [];cases k8 with
       |own hp hc hk ha=>
        rename_i ad cap;have hl: (rows'.take len').length=len':=by simp;omega
        have:=HR.sl (bt:=btn) (p:=(⟨0,[]⟩:dA).sub i j) (sz:=s') (rows:=rows'.take len') (a:=ad) (cap:=cap) (by rw[hl];exact hc) (by show cap<=(kF bt S (fE P 9 el) vss w.heap.size len).κ ⟨0,(i,j):: []⟩;rw[m2];omega) (λh=>by show ad=some ⟨((kF bt S (fE P 9 el) vss w.heap.size len).β ⟨0,(i,j):: []⟩).1,((kF bt S (fE P 9 el) vss w.heap.size len).β ⟨0,(i,j):: []⟩).2,none⟩;rw[m1,ha h,bN];rfl)
        rw[hl] at this;exact this
     ·rw[e2] at hk;obtain⟨g1,cs0,ee,k1,k2,k3,k4⟩:=(hI.tr _ _ _ h2).2 hk;rw[e1];refine⟨g1,cs0,ee,?_,by rw[e1,e2];exact k2,k3,λi' r hi=> ?_⟩
      ·grind
      ·rw[h3,bg] at hi;split at hi
       ·obtain⟨m1,m2⟩:=k4 i' r hi;refine⟨m1,λj' x hj=> ?_⟩;obtain⟨c,m3,m4⟩:=m2 j' x hj
        exact⟨c,by rw[e1];exact m3,by
         obtain⟨z1,z2⟩:=hsub q 0 l i j i' j' h1;cases m4 with
         |sc h=>exact .sc h
         |dd u=>exact .dd _
         |sl hc hk ha=>exact .sl hc (by rw[z2];exact hk) (by rw[z1];exact ha)⟩
       ·cases hi)
  (λp q s rs s' rs' h h' hk hk' he=>by
    rcases nested p s rs h hk with ⟨rfl,rfl,rfl⟩| ⟨i,j,l,q1,rs0,n,rfl,h1,h2,h3,e1,e2⟩<;>rcases nested q s' rs' h' hk' with ⟨rfl,rfl,rfl⟩| ⟨i',j',l',q2,rs0',n',rfl,h1',h2',h3',e1',e2'⟩
    ·rfl
    ·rw[e1'] at he;rw[e2'] at hk';have:=hI.βlt h2' hk';have he':w.heap.size=(bt.β ⟨q2,l'⟩).1:=he;omega
    ·rw[e1] at he;rw[e2] at hk;have:=hI.βlt h2 hk;have he': (bt.β ⟨q1,l⟩).1=w.heap.size:=he;omega
    ·rw[e1,e1'] at he;rw[e2] at hk;rw[e2'] at hk';have:=hI.inj _ _ _ _ _ _ h2 h2' hk hk' he
     grind)
  (λp s rs h hk=>by
    rcases nested p s rs h hk with ⟨rfl,rfl,rfl⟩| ⟨i,j,l,q,rs0,n,rfl,h1,h2,h3,e1,e2⟩
    ·refine⟨f1,λq s rs hq hkq=>f2 q s rs (iB hq).2 hkq,f3⟩
    ·rw[e2] at hk;rw[e1];refine⟨λn cs hn=>hI.bbtr _ _ _ _ _ hn h2 hk,λq' s' rs' hq hkq he=> ?_,hI.atr _ _ _ h2 hk⟩;obtain⟨z1,z2⟩:=iB hq;have:=hI.inj _ _ _ _ _ _ z2 h2 hkq hk he
     grind)
 obtain⟨bt',g1,g2,g3,g4,g5⟩:=this
 have hmk:S.make ⟨S.ng,[.sl (P.cellsOf el) rows],fj L⟩= { dropL S L with gh:=dC (dropL S L).gh S.ng (some (.sl (P.cellsOf el) rows)),ng:=S.ng+1 } :=by
  unfold St.make dropL;simp only[bA,bQ,aL,fq]
  congr 1
  funext r
  simp only[dC];by_cases hr:r=S.ng
  ·subst hr;simp
  ·rw[if_neg (by omega),if_neg hr]
 refine⟨_,_,bt',hrun,?_,g2,gv g3 g4 g5 (au _)⟩;rw[hmk];refine⟨g1.inv,g1.er,g1.fz,trivial,g1.ng,g1.keep,λr hr hn=> ?_⟩;have:=g1.gone r hr hn;unfold dropL at this;simp only at this;split at this
 ·rename_i hc;have:=(jk hp r (by simpa using hc)).1;have hr':r<S.fz:=hr;omega
 ·exact this
end
end
section
open Go Go.RowKit
section
variable {P:Program} {w0 w wa w':World} {W:Nat->Prop} {btI bt bt0 bt1 bt':Bt} {SI S S0 S1 S':St} {a a':Act} {D:gR} {Q:Exit->Act->World->Prop}
theorem lc(S:St):dropL S [] =S:=by unfold dropL;simp
theorem uo(S:St)(q:Nat):dropL S [q] = { S with gh:=dC S.gh q none } :=by
 unfold dropL
 congr 1
 funext r
 simp_all [dC]
theorem nD{sz:Nat}{fl:Bool}{av:AV}{more:List (List T)}{L:List Nat}(h:eh S sz fl av=some (more,L)):source S sz fl av=some (more,dropL S L):=by
 unfold eh at h;split at h
 ·simp only[ae,ao] at h;obtain⟨rfl,rfl⟩:=h;rw[lc];rfl
 ·split at h
  ·rename_i hc;simp only[ae,ao] at h;obtain⟨rfl,rfl⟩:=h;rw[lc];simp only[source];rw[if_pos hc]
  ·cases h
 ·rename_i p s lo len;split at h
  ·rename_i hs;simp only[af] at h;obtain⟨rows,hr,h⟩:=h;simp only[source];rw[if_pos hs,hr];simp only[al];split at h
   ·rename_i hc;simp only[ae,ao] at h;obtain⟨rfl,rfl⟩:=h;rw[if_pos hc,uo]
   ·rename_i hc;rw[if_neg hc];split at h
    ·rename_i hc';simp only[ae,ao] at h;obtain⟨rfl,rfl⟩:=h;rw[if_pos hc',lc]
    ·cases h
  ·cases h
 ·cases h
theorem nU[dp](hI:dP w0 W bt S w)(hE:ER w bt S a)(hfz:S.fz<=S.ng){t ty el:TypeId}(hel:iv P t=some el){bav xav:AV}{bv xv:Value}(hb:VR w bt bav bv)(hx:VR w bt xav xv){rows more:List (List T)}{cons:List Nat}
  {fl:Bool} {L:List Nat} (hs:eh S (P.cellsOf el) fl xav=some (more,L)) (h:fT (dropL S L) (P.cellsOf el) bav=some (rows,cons)) (hby: (rows.length+more.length)*P.bytesOf el<=2 ^ 40) (hn:rows.length+more.length<=2 ^ 40) (hpos:0<P.cellsOf el) (hz: (lL P el).isSome=true):
  ∃u w' bt',(Builtin.append_ #[t,t] ty #[bv,xv]).run P w= .ok u w'/\ei w0 W bt S a bt' (S.make ⟨S.ng,[.sl (P.cellsOf el) (rows++more)],fj (L++cons)⟩) w'/\bt.le bt'/\VR w' bt' (.own ⟨S.ng,[]⟩ (P.cellsOf el) 0 (rows.length+more.length)) u:=by
 obtain⟨zr,hz⟩:=aV.1 hz;obtain⟨zs,h1,h2,_,_⟩:=jL hz;obtain⟨i,zv,hi,hzv,rfl,hall⟩:=fp h1;have hsz:P.cellsOf el=i.size:=by simp[Program.cellsOf,hi]
 have hbz:P.bytesOf el=i.bytes:=by simp[Program.bytesOf,hi]
 obtain⟨src,news,hsrc⟩:=kR hI hpos hx (nD hs);have hID:dP w0 W bt (dropL S L) w:=hI.dropL L;have hone: ∀u∈zv.cells.toList,u.oneCell'=true:=λu hu=>ar.1 hall u hu
 have go: ∀ {ab:Option Addr} {cap:Nat} {bp:Option dA} {olds:List Value} {S1:St},Bi w bt (dropL S L) S1 (P.cellsOf el) rows bv ab cap bp olds->
   S.make ⟨S.ng,[.sl (P.cellsOf el) (rows++more)],fj (L++cons)⟩= { S1 with gh:=dC S1.gh S.ng (some (.sl (P.cellsOf el) (rows++more))),ng:=S.ng+1 } -> ∃u w' bt',(Builtin.append_ #[t,t] ty #[bv,xv]).run P w= .ok u w'/\ei w0 W bt S a bt' (S.make ⟨S.ng,[.sl (P.cellsOf el) (rows++more)],fj (L++cons)⟩) w'/\bt.le bt'/\VR w' bt' (.own ⟨S.ng,[]⟩ (P.cellsOf el) 0 (rows.length+more.length)) u:=by
  intro ab cap bp olds S1 hbas hSe
  obtain⟨u,w',b,cap',hr,hap⟩:=mz (P:=P) (w:=w) (t:=t) (ty:=ty) (e:=el) (i:=i) (z:=zv) (ab:=ab) (len:=rows.length) (cap:=cap) (m:=more.length) (olds:=olds) (news:=news) (x:=xv) (eB hel) hi hzv (by rw[<-hsz,<-h2];simp) hone (by omega) hbas.le (by rw[<-hsz];exact hbas.len) (by rw[<-hsz];exact hsrc.len) (by rw[<-hsz];exact hbas.cur)
   (by
     rcases hsrc.val with ⟨h,h'⟩|h
     all_goals grind) hsrc.one hn (by rw[<-hbz];exact hby)
  rw[<-hsz] at hap;obtain⟨bt',g1,g2,g3⟩:=lO hI hE hfz hsrc hbas hap;rw[hSe];refine⟨u,w',bt',?_,g1,g2,g3⟩;rw[hbas.val];exact hr
 cases hb with
 |em ab=>
  simp only[fT,ae,ao] at h;obtain⟨rfl,rfl⟩:=h;refine go (ab:=ab) (cap:=0) (bp:=none) (olds:=[]) (S1:=dropL S L) ⟨rfl,au _,λh=>absurd h (by omega),by simp,λi r hi=>by simp at hi,λh=>absurd h (by omega),rfl,λp hp=>(nomatch hp),λ_=>rfl⟩ ?_;unfold St.make dropL;simp only[bA,bQ,aL,fq,bM]
  congr 1
  funext r
  simp only[dC]
  grind
 |own hp hcap hk ha=>
  rename_i q s' lo' len ad cap;simp only[fT] at h;split at h
  ·rename_i hc;obtain⟨rfl,rfl,hql,hfz'⟩:=hc;simp only[af] at h;obtain⟨rows0,hrows,h⟩:=h;split at h
   ·cases h
   ·rename_i hlen;simp only[ae,ao] at h;obtain⟨rfl,rfl⟩:=h;have hlook:=eS hrows;have htl: (rows0.take len).length=len:=by simp;omega
    have hlr:rows0.length<=bt.κ q:=(hID.tr _ _ _ hlook).1
    obtain⟨olds,hol,holds,hcur⟩: ∃olds:List Value,olds.length=len*P.cellsOf el/\(∀ (i:Nat) (r:List T),(rows0.take len)[i]? =some r->r.length=P.cellsOf el/\ ∀ (j:Nat) (y:T),r[j]? =some y-> ∃c,olds[i*P.cellsOf el+j]? =some c/\wT bt (some q) i j y c)/\
      (0<cap-> ∃g O cur e',ad=some ⟨g,O,none⟩/\w.heap[g]? =some (.cells cur e' (0,0))/\O+cap*P.cellsOf el<=cur.size/\(∀ (k:Nat) (u:Value),cur[k]? =some u->u.oneCell'=true)/\ ∀ (k:Nat) (u:Value),olds[k]? =some u->cur[O+k]? =some u):=by
     rcases bh cap with h0|h0
     ·simp_all
     ·obtain⟨olds,g1,g2,g3,g4⟩:=it hID (lo:=0) (len:=len) hlook (by omega) (by omega);obtain⟨_,arr,e,k1,k2,k3,k4⟩:=(hID.tr _ _ _ hlook).2 (by omega);refine⟨olds,g1,λi r hi=> ?_,λ_=>⟨(bt.β q).1,(bt.β q).2,arr,e,by rw[ha h0,bN];rfl,k1,aR (cZ (bo _ (by omega)) _) k2.1,k3,λk u hk'=> ?_⟩⟩
      ·rw[ct] at g4;obtain⟨m1,m2⟩:=g4 i r hi;refine⟨m1,λj y hy=> ?_⟩;obtain⟨c,m3,m4⟩:=m2 j y hy;rw[aL] at m4;exact⟨c,m3,m4⟩
      ·have:=g3 k u hk';rw[Go.Proofs.YtkghndikalnipabGreat.En.add_lit,fI k1,bN,bE] at this;exact this
    refine go (ab:=ad) (cap:=cap) (bp:=some q) (olds:=olds) (S1:={ dropL S L with gh:=dC (dropL S L).gh q.r none })
     ⟨by rw[htl],by rw[htl];exact hcap,λh0=>⟨q,rfl,by rw[ha h0,bN];rfl,by omega⟩,by rw[htl];exact hol,holds,hcur,by simp[hql],λp hp=>by grind,λh=>by cases h⟩ ?_
    unfold St.make dropL;simp only[bA,bQ,aL,fq]
    congr 1
    funext r
    simp only[dC]
    grind
  ·cases h
 | _=>simp[fT] at h
theorem vT(S:St)(t:T):S.make ⟨S.ng,[t],[]⟩= { S with gh:=dC S.gh S.ng (some t),ng:=S.ng+1 } :=by
 unfold St.make;simp only
 congr 1
 funext r
 simp only[dC,cm];split
 ·rename_i h;have :r=S.ng:=by omega
  subst this;rw[if_pos rfl];simp
 ·rename_i h;rw[if_neg (show ¬r=S.ng by omega)];rfl
theorem l4[dp](hD:eO P D)(hI:dP w0 W bt S w)(hE:ER w bt S a)(hfz:S.fz<=S.ng){o:Oper}(hok:fw P o=true){v:AV}{adds:List T}{cons:List Nat}(hs:dL D P S o=some (v,adds,cons)){K:Act->World->Prop}
  (hK: ∀bt1 u w',ei w0 W bt S a bt1 (S.make ⟨S.ng,adds,cons⟩) w'->bt.le bt1->VR w' bt1 (shift S.ng v) u->K (a.put o.dst u) w'):o.wp P a w K Q:=by
 obtain⟨dst,op,type,pos,after,guard⟩:=o;cases op with
 |buildSlice t len parts=>
  simp only[dL,af] at hs;obtain⟨el,hel,hs⟩:=hs;split at hs
  ·rename_i hc;obtain⟨h1,h2,h3,h4,h5⟩:=hc;simp only[af,Prod.exists] at hs;obtain⟨rows,L,hp,hs⟩:=hs;split at hs
   ·rename_i hnd;simp only[ae,ao] at hs;obtain⟨rfl,rfl,rfl⟩:=hs;obtain⟨u,w',bt',g1,g2,g3,g4⟩:=oZ hI hE hfz hel h1 h2 h3 h4 h5 hp hnd;unfold Oper.wp;have hr: (execOp a.eval ⟨dst,.buildSlice t len parts,type,pos,after,guard⟩).run P w= .ok (.value u) w':=by simp[execOp,g1]
    rw[hr,Oper.upon_value];refine hK bt' u w' g2 g3 ?_
    simp_all [shift,eE,eM]
   ·cases hs
  ·cases hs
 |call c=>
  obtain⟨cl,as,ts⟩:=c;cases cl with
  |invoke r m=>simp[dL] at hs
  |value f=>
   simp only[dL,af,ai,ao] at hs;obtain⟨⟨g,caps⟩,hc,⟨res,out⟩,hr,rfl,rfl,rfl⟩:=hs;simp only[fw,beq_iff_eq] at hok;refine mL hD hI hE rfl hok hc hr (λu w' btn hC hv=> ?_);obtain⟨bt',g1,g2,g3⟩:=jR hI hE hfz hC hv;refine hK bt' u w' ?_ g2 g3
   have e: (S.make ⟨S.ng,out,[]⟩)=(gW S (res,out)).2:=by
    unfold St.make gW;simp only
    congr 1
   rw[e];exact g1
  |builtin b=>
   cases b with
   |append=>
    simp only[dL] at hs;split at hs
    ·rename_i s x t t' e1 e2;have e1:as= #[s,x] :=by apply Array.ext';simpa using e1
     have e2:ts= #[t,t'] :=by apply Array.ext';simpa using e2
     subst e1 e2;split at hs
     ·rename_i htt;subst htt;simp only[af] at hs;obtain⟨el,hel,⟨more,L⟩,h1,⟨rows,cs⟩,h2,hs⟩:=hs;simp only at h1 h2 hs;split at hs
      ·rename_i hc;obtain⟨k1,k2,k3,k4⟩:=hc;simp only[ae,ao] at hs;obtain⟨rfl,rfl,rfl⟩:=hs;obtain⟨u,w',bt',g1,g2,g3,g4⟩:=nU (ty:=type) hI hE hfz hel (dB hE s) (dB hE x) h1 h2 k1 k2 k3 k4;unfold Oper.wp;have hr: (execOp a.eval ⟨dst,.call { callee:=.builtin .append,args:=#[s,x],argTypes:=#[t,t] },type,pos,after,guard⟩).run P w= .ok (.value u) w':=by simp[execOp,resolve,invoke,builtin,g1]
       rw[hr,Oper.upon_value];refine hK bt' u w' g2 g3 ?_
       simp_all [shift,eE,eM]
      ·cases hs
     ·cases hs
    ·cases hs
   | _=>simp[dL] at hs
 |makeSlice t l c=>
  simp only[dL,af] at hs;obtain⟨el,hel,n,hn,m,hm,z,hz,h⟩:=hs;split at h
  ·rename_i hc;obtain⟨h0,rfl,h2,h3⟩:=hc;simp only[ae,ao] at h;obtain⟨rfl,rfl,rfl⟩:=h;obtain⟨kl,hl⟩:=gt hn (dB hE l);obtain⟨kc,hc⟩:=gt hm (dB hE c);obtain⟨u,w',bt',g1,g2,g3,g4⟩:=iW (kl:=kl) (kc:=kc) hI hE hfz hel hz h0 h2 h3;unfold Oper.wp;have hr: (execOp a.eval ⟨dst,.makeSlice t l c,type,pos,after,guard⟩).run P w= .ok (.value u) w':=by simp[execOp,hl,hc,g1]
   rw[hr,Oper.upon_value];refine hK bt' u w' (by rw[vT];exact g2) g3 ?_;simp only[shift,eE,eM,aL];exact g4
  ·cases h
 | _=>simp[dL] at hs
theorem VR.two{bt2:Bt}(hnb:bt2.nb=bt1.nb)(hbb:bt2.bb=bt1.bb)(hA:bt2.A=bt1.A)(hng:bt0.ng<=bt2.ng)(hp: ∀p:dA,p.r<bt0.ng->0<bt1.κ p->bt2.β p=bt1.β p/\bt2.κ p=bt1.κ p){v:AV}{c0:Value}(h0:VR wa bt0 v c0): ∀ {c:Value},VR w' bt1 v c->VR w' bt2 v c:=by
 induction h0 with
 |sc h=>intro c h1;cases h1 with |sc h=>exact .sc h
 |em a=>intro c h1;cases h1 with |em a=>exact .em a
 |ro h=>intro c h1;cases h1 with |ro h=>exact .ro (by rw[hA];exact h)
 |own q1 q2 q3 q4=>
  intro c h1;cases h1 with
  |own hp' hc hk ha=>
   rename_i p sz lo len _ _ ad cap;rcases bh (bt1.κ p) with h0|h0
   ·exact .own (aI q1 hng) hc (by omega) (λh=>absurd h (by omega))
   ·obtain⟨e1,e2⟩:=hp p q1 h0;exact .own (aI q1 hng) hc (by rw[e2];exact hk) (by rw[e1];exact ha)
 |pro cs hs hb hr ht=>intro c h1;cases h1 with |pro cs hs hb hr ht=>exact .pro cs hs (by rw[hA];exact hb) hr (λj x hx=>by rw[hA];exact ht j x hx)
 |ptrB j hn=>
  intro c h1;cases h1 with
  |ptrB j hn=>rw[<-hbb];exact .ptrB j (by rw[hnb];exact hn)
 |ptrT sz i j q1 q2=>
  intro c h1;cases h1 with
  |ptrT sz i j hp' hk=>rename_i p;obtain⟨e1,e2⟩:=hp p q1 (by omega);rw[<-e1];exact .ptrT sz i j (aI q1 hng) (by rw[e2];exact hk)
 |fn f hl h ih=>
  intro c h1;rename_i caps us0;cases h1 with
  |fn f hl' h'=>
   rename_i us;refine .fn f hl' (λk c u k1 k2=> ?_)
   grind
 |agg hl ho h ih=>
  intro c h1;rename_i cs us0;cases h1 with
  |agg hl' ho' h'=>
   refine .agg hl' ho' (λk c u k1 k2=> ?_)
   grind
 |tup hl h ih=>
  intro c h1;rename_i cs us0;cases h1 with
  |tup hl' h'=>
   refine .tup hl' (λk c u k1 k2=> ?_)
   grind
 |dead u=>intro c _;exact .dead c
def Bt.moved(bt:Bt)(N b k:Nat):Bt:={ bt with
 β:=λp=>if b<=p.r/\p.r<b+k then bt.β ⟨N+(p.r-b),p.l⟩ else bt.β p
 κ:=λp=>if b<=p.r/\p.r<b+k then bt.κ ⟨N+(p.r-b),p.l⟩ else bt.κ p
 ng:=N }
def St.moved(S:St)(N b k:Nat):St:={ S with gh:=λr=>if b<=r/\r<b+k then S.gh (N+(r-b)) else if r<N then S.gh r else none,ng:=N }
theorem dP.moved[dp](hI0:dP w0 W bt0 S0 wa)(hle:bt0.le bt1)(hI1:dP w0 W bt1 S1 w'){N b k:Nat}(hbx:S1.bx=S0.bx)(hN0:S0.ng=N)(hN1:S1.ng=N+k)(hb:b+k<=N)(hκ: ∀p:dA,b<=p.r->p.r<b+k->bt0.κ p=0):
  dP w0 W (bt1.moved N b k) (S1.moved N b k) w'/\ ∀ {v:AV} {c0 c:Value},VR wa bt0 v c0->VR w' bt1 v c->VR w' (bt1.moved N b k) v c:=by
 have hng0:bt0.ng=N:=hI0.ng.trans hN0
 have two: ∀ {v:AV} {c0 c:Value},VR wa bt0 v c0->VR w' bt1 v c->VR w' (bt1.moved N b k) v c:=by
  intro v c0 c h0 h1;refine VR.two (bt1:=bt1) (bt2:=bt1.moved N b k) rfl rfl rfl (by rw[hng0];exact au N) (λp hp hk=> ?_) h0 h1
  have hn: ¬ (b<=p.r/\p.r<b+k):=λh=>by have:=hle.κ p hp;rw[hκ p h.1 h.2] at this;omega
  simp only[Bt.moved];rw[if_neg hn,if_neg hn];exact⟨rfl,rfl⟩
 refine⟨?_,two⟩
 have look: ∀p s rs,(S1.moved N b k).look p= .sl s rs->p.r<N/\ ∃q:dA,q.l=p.l/\S1.look q= .sl s rs/\(bt1.moved N b k).β p=bt1.β q/\(bt1.moved N b k).κ p=bt1.κ q/\(∀i j,(bt1.moved N b k).β (p.sub i j)=bt1.β (q.sub i j)/\(bt1.moved N b k).κ (p.sub i j)=bt1.κ (q.sub i j))/\
   ((b<=p.r/\p.r<b+k/\q.r=N+(p.r-b))\/(¬ (b<=p.r/\p.r<b+k)/\q.r=p.r)):=by
  intro p s rs h;unfold St.look St.moved at h;simp only at h;by_cases hr:b<=p.r/\p.r<b+k
  ·rw[if_pos hr] at h;refine⟨by omega,⟨N+(p.r-b),p.l⟩,rfl,h,by simp only[Bt.moved];rw[if_pos hr],by simp only[Bt.moved];rw[if_pos hr],λi j=>⟨?_,?_⟩,.inl ⟨hr.1,hr.2,rfl⟩⟩
   all_goals simp_all [Bt.moved,dA.sub]
  ·rw[if_neg hr] at h;by_cases hlt:p.r<N
   ·rw[if_pos hlt] at h;refine⟨hlt,p,rfl,h,by simp only[Bt.moved];rw[if_neg hr],by simp only[Bt.moved];rw[if_neg hr],λi j=>⟨?_,?_⟩,.inr ⟨hr,rfl⟩⟩
    all_goals simp_all [Bt.moved,dA.sub,if_neg]
   ·rw[if_neg hlt] at h;cases h
 exact { good:=hI1.good,os:=hI1.os,tape:=hI1.tape,output:=hI1.output,size:=hI1.size,keep:=hI1.keep,nb:=hI1.nb,ng:=rfl
         bx:=λn cells hn=>by
          obtain⟨h1,h2,cs,e,h3,h4,h5⟩:=hI1.bx n cells hn;refine⟨h1,h2,cs,e,h3,h4,λj v hj=> ?_⟩;obtain⟨c,k1,k2,k3⟩:=h5 j v hj;have hn':S0.bx n=some cells:=by rw[<-hbx];exact hn
          obtain⟨_,_,cs0,e0,m3,m4,m5⟩:=hI0.bx n cells hn'
          grind
         gh:=λr t h=>by
          show r<N;have h': (if b<=r/\r<b+k then S1.gh (N+(r-b)) else if r<N then S1.gh r else none)=some t:=h
          grind
         tr:=λp s rs h=>by
          obtain⟨_,q,_,hq,e1,e2,e3,_⟩:=look p s rs h;obtain⟨k1,k2⟩:=hI1.tr _ _ _ hq;rw[e1,e2];refine⟨k1,λhk=>⟨(k2 hk).1,?_⟩⟩;obtain⟨_,cs,e,g1,g2,g3,g4⟩:=k2 hk;refine⟨cs,e,by rw[e1];exact g1,by rw[e1,e2];exact g2,g3,λi r hi=> ?_⟩;obtain⟨m1,m2⟩:=g4 i r hi;refine⟨m1,λj x hj=> ?_⟩;obtain⟨c,m3,m4⟩:=m2 j x hj;refine⟨c,by rw[e1];exact m3,?_⟩;cases m4 with
          |sc h=>exact .sc h
          |dd u=>exact .dd _
          |sl q1 q2 q3=>exact .sl q1 (by rw[(e3 i j).2];exact q2) (by rw[(e3 i j).1];exact q3)
         inj:=λp q s rs s' rs' h h' hk hk' he=>by
          obtain⟨l1,p1,a1,b1,c1,d1,_,r1⟩:=look p s rs h;obtain⟨l2,p2,a2,b2,c2,d2,_,r2⟩:=look q s' rs' h';rw[d1] at hk;rw[d2] at hk';rw[c1,c2] at he;have:=hI1.inj _ _ _ _ _ _ b1 b2 hk hk' he;subst this;obtain⟨pr,pl⟩:=p;obtain⟨qr,ql⟩:=q
          grind
         bbinj:=hI1.bbinj
         bbtr:=λn c p s rs h h' hk=>by obtain⟨_,q,_,hq,e1,e2,_,_⟩:=look p s rs h';rw[e2] at hk;rw[e1];exact hI1.bbtr _ _ _ _ _ h hq hk
         alt:=hI1.alt
         atr:=λp s rs h hk=>by obtain⟨_,q,_,hq,e1,e2,_,_⟩:=look p s rs h;rw[e2] at hk;rw[e1];exact hI1.atr _ _ _ hq hk
         abb:=hI1.abb }
end
end
section
open Go Go.RowKit
section
variable {P:Program} {S SV:St} {D:gR}
def fB(S S':St)(v:AV):Prop:=∀r∈fO v,S'.gh r=S.gh r
theorem fg{S S':St}{p:dA}{sz:Nat}(h:S'.gh p.r=S.gh p.r):S'.rows p sz=S.rows p sz:=by unfold St.rows St.look;rw[h]
theorem sm{g:Nat->Option T}{n:Nat}{t:TypeId}{v:AV}(h:fB S { S with gh:=g,ng:=n } v):load P { S with gh:=g,ng:=n } t v=load P S t v:=by
 cases v with
 |ptrT p sz i j=>have:=fg (S:=S) (S':={ S with gh:=g,ng:=n }) (p:=p) (sz:=sz) (h p.r (by simp[fO]));simp only[load,dD,this]
 | _=>rfl
theorem sx{g:Nat->Option T}{n sz:Nat}{v:AV}(h:fB S { S with gh:=g,ng:=n } v):T.ofAV { S with gh:=g,ng:=n } sz v=T.ofAV S sz v:=by
 cases v with
 |own p s lo len=>have:=fg (S:=S) (S':={ S with gh:=g,ng:=n }) (p:=p) (sz:=s) (h p.r (by simp[fO]));simp only[T.ofAV,this]
 | _=>rfl
theorem eR{p:Nat->Bool}: ∀ {cs:List AV} {c:AV},iU p cs=true->c∈cs->eI p c=true
 | [],_,_,h=>by cases h
 |d::cs,c,h,hm=>by
  unfold iU at h;simp only[aj] at h;rcases aU.1 hm with rfl|hm
  ·exact h.1
  ·exact eR h.2 hm
theorem mH{p:Nat->Bool}: ∀ {cs:List AV},(∀c∈cs,eI p c=true)->iU p cs=true
 | [],_=>rfl
 |c::cs,h=>by unfold iU;rw[h c aF,mH λx hx=>h x (aE _ hx)];rfl
theorem gq{q:Nat->Bool}{g:Nat->Option T}{n sz:Nat}{v:AV}(hp:eI q v=true)(h:fB S { S with gh:=g,ng:=n } v)(hb: ∀k,q k=true-> ∀cs,S.bx k=some cs-> ∀c∈cs,fB S { S with gh:=g,ng:=n } c):dU { S with gh:=g,ng:=n } sz v=dU S sz v:=by
 cases v with
 |own p s lo len=>have:=fg (S:=S) (S':={ S with gh:=g,ng:=n }) (p:=p) (sz:=s) (h p.r (by simp[fO]));simp only[dU,this]
 |ptrT p s i j=>have:=fg (S:=S) (S':={ S with gh:=g,ng:=n }) (p:=p) (sz:=s) (h p.r (by simp[fO]));simp only[dU,this]
 |ptrB b j=>
  simp only[dU];cases hbx:S.bx b with
  |none=>rfl
  |some cs=>
   simp only
   congr 1
   exact az λc hc=>sx (hb b hp cs hbx c (bw hc))
 | _=>rfl
theorem lE{v:AV}{cs:List AV}(hv:v= .agg cs\/ ∃f,v= .fn f cs){S':St}(h:fB S S' v): ∀c∈cs,(∀p s lo len,c= .own p s lo len->S'.gh p.r=S.gh p.r)/\(∀p s i j,c= .ptrT p s i j->S'.gh p.r=S.gh p.r):=by
 intro c hc;refine⟨λp s lo len he=>h p.r ?_,λp s i j he=>h p.r ?_⟩
 ·subst he;rcases hv with rfl| ⟨f,rfl⟩<;>(grind [fO])
 ·subst he;rcases hv with rfl| ⟨f,rfl⟩<;>(grind [fO])
theorem ii{q:Nat->Bool}{g:Nat->Option T}{n sz:Nat}{c:AV}(hp:eI q c=true)(h: (∀p s lo len,c= .own p s lo len->g p.r=S.gh p.r)/\(∀p s i j,c= .ptrT p s i j->g p.r=S.gh p.r))(hb: ∀k,q k=true-> ∀cs,S.bx k=some cs-> ∀c∈cs,fB S { S with gh:=g,ng:=n } c):dU { S with gh:=g,ng:=n } sz c=dU S sz c:=by
 cases c with
 |own p s lo len=>exact gq hp (λr hr=>by simp_all [fO]) hb
 |ptrT p s i j=>exact gq hp (λr hr=>by simp_all [fO]) hb
 |ptrB b j=>exact gq hp (λr hr=>by simp[fO] at hr) hb
 | _=>rfl
theorem q9{q:Nat->Bool}{g:Nat->Option T}{n:Nat}{szs:List Nat}{v:AV}(hp:eI q v=true)(h:fB S { S with gh:=g,ng:=n } v)(hb: ∀k,q k=true-> ∀cs,S.bx k=some cs-> ∀c∈cs,fB S { S with gh:=g,ng:=n } c):eJ { S with gh:=g,ng:=n } szs v=eJ S szs v:=by
 cases v with
 |agg cs=>
  have hc:=lE (.inl rfl) h;simp only[eJ];split
  ·congr 1
   apply bu;intro k;rw[be,be];cases hs:szs[k]? with
   |none=>rfl
   |some s=>
    cases hx:cs[k]? with
    |none=>rfl
    |some c=>simp only;rw[ii (eR hp (aw hx)) (hc c (aw hx)) hb]
  ·rfl
 |fn f caps=>
  have hc:=lE (.inr ⟨f,rfl⟩) h;simp only[eJ]
  congr 1
  exact az λc hcm=>ii (eR hp hcm) (hc c hcm) hb
 |em=>rfl
 | _=>exact gq (sz:=szs.headD 0) hp h hb
theorem gK(g:Nat->Option T)(n:Nat)(x:Operand):opd { S with gh:=g,ng:=n } x=opd S x:=by cases x<;>rfl
theorem sH(g:Nat->Option T)(n:Nat)(o:Oper):dy P { S with gh:=g,ng:=n } o=dy P S o:=by unfold dy;simp only[gK]
theorem xe(g:Nat->Option T)(n:Nat)(d:Int)(x:Option Operand):fC { S with gh:=g,ng:=n } d x=fC S d x:=by cases x<;>simp only[fC,gK]
theorem ru{g:Nat->Option T}{n:Nat}{o:Oper}(hn:dS o=false)(h: ∀x∈o.op.operands,fB S { S with gh:=g,ng:=n } (opd S x)):dk D P { S with gh:=g,ng:=n } o=dk D P S o:=by
 have sc:=sH (P:=P) (S:=S) g n o;obtain⟨dst,op,type,pos,after,guard⟩:=o;cases op with
 |load t x=>grind [dk,gK,sm,Op.operands]
 |makeFunc fn first caps=>cases fn<;>grind [List.map_congr_left,gK,dk]
 |unOp op t x=>cases op<;>simp only[dk,gK,sc]
 |binOp op t x y t'=>cases op<;>simp only[dk,gK,sc]
 |slice t x lo hi mx=>cases mx<;>simp only[dk,gK,xe,sc]
 |call c=>
  obtain⟨cl,as,ts⟩:=c;have e:as.toList.map (opd { S with gh:=g,ng:=n })=as.toList.map (opd S):=az λx _=>gK g n x;cases cl with
  |builtin b=>cases b<;>first | (simp only[dk];rw[e,sc];done)| (simp only[dk,gK,sc];done)| (simp only[dk];exact sc)
  |value f=>simp[dS] at hn
  |invoke r m=>simp only[dk];exact sc
 | _=>first | (simp only[dk,gK,sc];done)| (simp only[dk];exact sc)
theorem oc{g:Nat->Option T}{n sz:Nat}{fl:Bool}{v:AV}(h:fB S { S with gh:=g,ng:=n } v):eh { S with gh:=g,ng:=n } sz fl v=eh S sz fl v:=by
 cases v with
 |own p s lo len=>have:=fg (S:=S) (S':={ S with gh:=g,ng:=n }) (p:=p) (sz:=sz) (h p.r (by simp[fO]));simp only[eh,this]
 | _=>rfl
theorem pX{g:Nat->Option T}{n sz:Nat}{L:List Nat}{v:AV}(h:fB S { S with gh:=g,ng:=n } v):fT (dropL { S with gh:=g,ng:=n } L) sz v=fT (dropL S L) sz v:=by
 cases v with
 |own p s lo len=>
  have : (dropL { S with gh:=g,ng:=n } L).rows p sz=(dropL S L).rows p sz:=fg (by unfold dropL;have:=h p.r (by simp[fO]);simp only at this ⊢;rw[this])
  simp only[fT,this];rfl
 | _=>rfl
theorem ny{v c:AV}(hc:c∈v.cells){q:Nat}(h: (∃p s lo len,c= .own p s lo len/\p.r=q)\/ ∃p s i j,c= .ptrT p s i j/\p.r=q):q∈fO v:=by
 cases v with
 |agg cs=>
  simp only[AV.cells] at hc;simp only[fO]
  grind
 | _=>simp_all [AV.cells,fO]
theorem o0{q:Nat->Bool}{f:Operand}{g:FuncId}{caps:List AV}(hc:callee S f=some (g,caps))(h:eI q (opd S f)=true): ∀c∈caps,eI q c=true:=by
 unfold callee at hc;split at hc
 ·grind
 ·rename_i g' cs he;simp only[ae,ao] at hc;obtain⟨rfl,rfl⟩:=hc;rw[he] at h
  exactλc hc=>eR h hc
 ·cases hc
theorem qe{f:Operand}{g:FuncId}{caps:List AV}(hc:callee S f=some (g,caps)){S':St}(h:fB S S' (opd S f)): ∀c∈caps,(∀p s lo len,c= .own p s lo len->S'.gh p.r=S.gh p.r)/\(∀p s i j,c= .ptrT p s i j->S'.gh p.r=S.gh p.r):=by
 unfold callee at hc;split at hc
 ·grind
 ·rename_i g' cs he;simp only[ae,ao] at hc;obtain⟨rfl,rfl⟩:=hc;exact lE (.inr ⟨g',he⟩) h
 ·cases hc
theorem pK{sz:Nat}{fl:Bool}{v:AV}{rows:List (List T)}{L:List Nat}(h:eh S sz fl v=some (rows,L)): ∀r∈L,r∈fO v:=by
 unfold eh at h;split at h
 ·grind
 ·grind
 ·split at h
  ·simp only[af] at h;obtain⟨rs,_,h⟩:=h;split at h
   all_goals simp_all [fO]
  ·cases h
 ·cases h
theorem rP{sz:Nat}{v:AV}{rows:List (List T)}{cons:List Nat}(h:fT S sz v=some (rows,cons)): ∀r∈cons,r∈fO v:=by
 unfold fT at h;split at h
 ·grind
 ·split at h
  ·simp only[af] at h;obtain⟨rs,_,h⟩:=h
   simp_all [fO]
  ·cases h
 ·cases h
theorem uM{g:Nat->Option T}{n:Nat}{ss:List Nat}{l:List (Nat×Operand)}(h: ∀x∈l,fB S { S with gh:=g,ng:=n } (opd S x.2)):dZ { S with gh:=g,ng:=n } ss (l.map λx=>(opd S x.2).cells)=dZ S ss (l.map λx=>(opd S x.2).cells):=by
 have eU: ∀ (v:AV),fB S { S with gh:=g,ng:=n } v-> ∀ss,ek { S with gh:=g,ng:=n } ss v.cells=ek S ss v.cells:=by
  intro v hv ss
  have one: ∀c∈v.cells,∀s,fm { S with gh:=g,ng:=n } s c=fm S s c:=by
   intro c hc s;unfold fm;cases c with
   |own q s' lo len=>have:=fg (S:=S) (S':={ S with gh:=g,ng:=n }) (p:=q) (sz:=s') (hv q.r (ny hc (.inl ⟨q,s',lo,len,rfl,rfl⟩)));simp only[this]
   | _=>rfl
  generalize v.cells=vs at one
  induction vs generalizing ss with
  |nil=>cases ss<;>rfl
  |cons c vs ih=>
   cases ss with
   |nil=>rfl
   |cons s ss=>grind [ek]
 induction l with
 |nil=>rfl
 |cons x l ih=>grind [dZ]
theorem rt{q:Nat->Bool}{g:Nat->Option T}{n:Nat}{o:Oper}(hp:gD o=true-> ∀x∈o.op.operands,eI q (opd S x)=true)(h: ∀x∈o.op.operands,fB S { S with gh:=g,ng:=n } (opd S x))(hb: ∀k,q k=true-> ∀cs,S.bx k=some cs-> ∀c∈cs,fB S { S with gh:=g,ng:=n } c):dL D P { S with gh:=g,ng:=n } o=dL D P S o:=by
 obtain⟨dst,op,type,pos,after,guard⟩:=o;cases op with
 |buildSlice t len parts=>
  have hp: ∀ss,dZ { S with gh:=g,ng:=n } ss (parts.toList.map λx=>(opd S x.2).cells)=dZ S ss (parts.toList.map λx=>(opd S x.2).cells):=λss=>uM (λx hx=>h x.2 (by simp only[Op.operands,cx];exact aB.2 ⟨x,hx,rfl⟩))
  simp only[dL,gK,hp]
 |call c=>
  obtain⟨cl,as,ts⟩:=c;cases cl with
  |invoke r m=>rfl
  |value f=>
   simp only[dL];have hc:callee { S with gh:=g,ng:=n } f=callee S f:=by unfold callee;rw[gK]
   rw[hc];cases hcs:callee S f with
   |none=>rfl
   |some x=>
    obtain⟨g',caps⟩:=x;simp only[al]
    have ha:args P { S with gh:=g,ng:=n } ts as caps=args P S ts as caps:=by
     unfold args
     congr 1
     ·apply bu;intro k;rw[be,be];cases ht:ts.toList[k]? with
      |none=>rfl
      |some t=>
       cases hx:as.toList[k]? with
       |none=>rfl
       |some x=>simp only;rw[gK,q9 (hp rfl x (by grind [Op.operands,Call.operands])) (h x (by grind [Op.operands,Call.operands])) hb]
     ·refine az λc hcm=> ?_;exact ii (sz:=0) (o0 hcs (hp rfl f (by simp[Op.operands,Call.operands])) c hcm) (qe hcs (h f (by simp[Op.operands,Call.operands])) c hcm) hb
    rw[ha]
  |builtin b=>
   cases b with
   |append=>
    simp only[dL];split
    ·rename_i s x t t' e1 e2;have e1:as= #[s,x] :=by apply Array.ext';simpa using e1
     grind [gK,oc,Op.operands,Call.operands,pX]
    ·rfl
   | _=>rfl
 |makeSlice t l c=>simp only[dL,gK]
 | _=>rfl
theorem sN{o:Oper}{v:AV}{adds:List T}{cons:List Nat}(h:dL D P S o=some (v,adds,cons)): ∀r∈cons,∃x∈o.op.operands,r∈fO (opd S x):=by
 obtain⟨dst,op,type,pos,after,guard⟩:=o;cases op with
 |buildSlice t len parts=>
  simp only[dL,af] at h;obtain⟨el,_,h⟩:=h;split at h
  ·simp only[af,Prod.exists] at h;obtain⟨rows,L,hp,h⟩:=h;split at h
   ·simp only[ae,ao] at h;obtain⟨_,_,rfl⟩:=h;intro r hr;obtain⟨_,vs,hvs,v,hv,s,len',rfl⟩:=jk hp r (ka.1 hr);obtain⟨y,hy,rfl⟩:=aB.1 hvs;refine⟨y.2,?_,ny hv (.inl ⟨_,_,_,_,rfl,rfl⟩)⟩;simp only[Op.operands,cx];exact aB.2 ⟨y,hy,rfl⟩
   ·cases h
  ·cases h
 |call c=>
  obtain⟨cl,as,ts⟩:=c;cases cl with
  |invoke r m=>simp[dL] at h
  |value f=>
   simp only[dL,af,ai,ao] at h
   grind
  |builtin b=>
   cases b with
   |append=>
    simp only[dL] at h;split at h
    ·rename_i s x t t' e1 e2;have e1:as= #[s,x] :=by apply Array.ext';simpa using e1
     subst e1;split at h
     ·simp only[af] at h;obtain⟨el,_,⟨more,L⟩,h1,⟨rows,cs⟩,h2,h⟩:=h;simp only at h h1 h2;split at h
      ·simp only[ae,ao] at h;obtain⟨_,_,rfl⟩:=h;intro r hr;rcases bq.1 (ka.1 hr) with hr|hr
       all_goals grind [Op.operands,Call.operands,pK,rP]
      ·cases h
     ·cases h
    ·cases h
   | _=>simp[dL] at h
 |makeSlice t l c=>
  simp only[dL,af] at h
  grind
 | _=>simp[dL] at h
end
end
section
open Go Go.RowKit
section
variable {P:Program} {S SV:St} {D:gR}
def yT(g:Nat->Option T)(m:ej):Nat->Option T:=λr=>if m.b<=r/\r<m.b+m.adds.length then m.adds[r-m.b]? else if m.cons.contains r then none else g r
def ji: (Nat->Option T)->List ej->Nat->Option T
 |g,[] =>g
 |g,m::ms=>ji (yT g m) ms
theorem mi(g:Nat->Option T)(b:Nat):yT g ⟨b,[],[]⟩=g:=by
 funext r
 unfold yT;simp only[bQ,bE];rw[if_neg (by omega)];simp
def Bm(D:gR)(P:Program)(all:Array Oper)(l:List Oper)(S SV:St)(ms:List ej)(k:Nat)(o:Oper):Prop:=
 ∃env b m,ms[k]? =some m/\(∀ (t:Nat) (j:Nat) (oj:Oper),j<k->l[j]? =some oj->dh oj=false->oj.dst=some t->env t=SV.env t)/\
  (∀t,(∀ (j:Nat) (oj:Oper),j<k->l[j]? =some oj->dh oj=false->oj.dst≠some t)->env t=S.env t)/\fP { S with env:=env } all o=some b/\(∀d,o.dst=some d->d<S.nt)/\
  (b=true->dS o=true-> ∃v,dL D P { S with env:=env,gh:=ji S.gh (ms.take k),ng:=m.b } o=some (v,m.adds,m.cons)/\ ∀d,o.dst=some d->SV.env d=shift m.b v)/\
  (b=true->dS o=false->dJ o=false-> ∃v,dk D P { S with env:=env,gh:=ji S.gh (ms.take k),ng:=m.b } o=some v/\m.adds= [] /\m.cons= [] /\ ∀d,o.dst=some d->SV.env d=v)/\
  (b=false->m.adds= [] /\m.cons= [] /\ ∀d,o.dst=some d->SV.env d= .tup [])/\
  (dJ o=true->b=true/\m.adds= [] /\m.cons= [] /\ ∀d,o.dst=some d->SV.env d= .ptrB (S.nb-1-dR (l.drop (k+1))) 0)
abbrev Ae(D:gR)(P:Program)(all:Array Oper)(l:List Oper)(S SV:St)(ms:List ej):Prop:=
 ms.length=l.length/\SV= { S with env:=SV.env,gh:=ji S.gh ms,ng:=SV.ng } /\S.ng<=SV.ng/\(∀t,(∀o∈l,dh o=false->o.dst≠some t)->SV.env t=S.env t)/\
  (∀ (k:Nat) (m:ej),ms[k]? =some m->S.ng<=m.b/\m.b+m.adds.length<=SV.ng/\ ∀ (j:Nat) (m':ej),j<k->ms[j]? =some m'->m'.b+m'.adds.length<=m.b)/\
  (∀ (k:Nat) (o:Oper) (m:ej),l[k]? =some o->ms[k]? =some m->dh o=true->m.adds= [] /\m.cons= [])/\
  ∀ (k:Nat) (o:Oper),l[k]? =some o->dh o=false->Bm D P all l S SV ms k o
theorem ut{all:Array Oper}: ∀ (l:List Oper) (S SV:St) (ms:List ej),l.Pairwise (λx y=> ∀d,x.dst=some d->y.dst≠some d)->nX D P all l S=some (SV,ms)->Ae D P all l S SV ms:=by
 intro l
 induction l with
 |nil=>intro S SV ms _ h;simp only[nX,ae,ao] at h;obtain⟨rfl,rfl⟩:=h;exact⟨rfl,rfl,au _,λ_ _=>rfl,λk m hk=>by simp at hk,λk o m hk=>by simp at hk,λk o hk=>by simp at hk⟩
 |cons o l ih=>
  intro S SV ms hp h;obtain⟨hp1,hp2⟩:=List.pairwise_cons.1 hp
  have way: ∀ (S1:St) (m:ej) (ms':List ej),ms=m::ms'->m.b=S.ng->nX D P all l S1=some (SV,ms')->S1= { S with env:=S1.env,gh:=yT S.gh m,ng:=S.ng+m.adds.length } ->
    (dh o=true->m.adds= [] /\m.cons= [] /\S1.env=S.env)->
    (dh o=false-> ∃b v,fP S all o=some b/\S1.env=(match o.dst with |some d=>dC S.env d v|none=>S.env)/\(∀d,o.dst=some d->d<S.nt)/\
      (b=true->dS o=true-> ∃v0,dL D P S o=some (v0,m.adds,m.cons)/\v=shift m.b v0)/\(b=true->dS o=false->dJ o=false->dk D P S o=some v/\m.adds= [] /\m.cons= [])/\(b=false->m.adds= [] /\m.cons= [] /\v= .tup [])/\(dJ o=true->b=true/\m.adds= [] /\m.cons= [] /\v= .ptrB (S.nb-1-dR l) 0))->
    Ae D P all (o::l) S SV ms:=by
   intro S1 m ms' hms hmb he hS1 hst hns;obtain⟨e1,e2,e3,e4,e5,e6,e7⟩:=ih S1 SV ms' hp2 he;subst hms;have hng1:S1.ng=S.ng+m.adds.length:=by rw[hS1]
   have hgh1:S1.gh=yT S.gh m:=by rw[hS1]
   have hnt1:S1.nt=S.nt:=by rw[hS1]
   have hnb1:S1.nb=S.nb:=by rw[hS1]
   have hform: ∀ (env:Nat->AV) (g:Nat->Option T) (n:Nat),({ S1 with env:=env,gh:=g,ng:=n }:St)= { S with env:=env,gh:=g,ng:=n } :=by intro env g n;rw[hS1]
   have hform2: ∀ (env:Nat->AV),fP ({ S1 with env:=env }:St) all=fP ({ S with env:=env }:St) all:=by
    intro env
    funext o
    rw[hS1];rfl
   have h1other: ∀t,(dh o=false->o.dst≠some t)->S1.env t=S.env t:=by
    intro t ht;cases hso:dh o with
    |true=>rw[(hst hso).2.2]
    |false=>
     obtain⟨b,v,_,h2,_⟩:=hns hso;rw[h2];cases hd:o.dst with
     |none=>rfl
     |some d=>simp only[dC];rw[if_neg];intro he;exact ht hso (by rw[hd,he])
   refine⟨by simp[e1],?_,by omega,λt ht=> ?_,λk m' hk=> ?_,λk o' m' hk hm hs=> ?_,λk o' hk hs=> ?_⟩
   ·have :ji S.gh (m::ms')=ji S1.gh ms':=by rw[hgh1];rfl
    rw[this,e2];exact hform _ _ _
   ·rw[e4 t (λo' ho'=>ht o' (aE _ ho')),h1other t (ht o aF)]
   ·cases k with
    |zero=>simp only[aG,ae] at hk;subst hk;exact⟨by omega,by omega,λj m' hj=>by omega⟩
    |succ k=>
     obtain⟨q1,q2,q3⟩:=e5 k m' (by simpa using hk);refine⟨by omega,q2,λj m'' hj hjm=> ?_⟩;cases j with
     |zero=>simp only[aG,ae] at hjm;subst hjm;omega
     |succ j=>exact q3 j m'' (by omega) (by simpa using hjm)
   ·cases k with
    |zero=>simp only[aG,ae] at hk hm;subst hk hm;exact⟨(hst hs).1,(hst hs).2.1⟩
    |succ k=>exact e6 k o' m' (by simpa using hk) (by simpa using hm) hs
   ·cases k with
    |zero=>
     simp only[aG,ae] at hk;subst hk;obtain⟨b,v,h1,h2,h3,h4,h5,h6,h7⟩:=hns hs
     have hown: ∀d,o.dst=some d->SV.env d=v:=by intro d hd;rw[e4 d (λo' ho' _=>hp1 o' ho' d hd),h2,hd];simp[dC]
     have hS: ({ S with env:=S.env,gh:=ji S.gh ((m::ms').take 0),ng:=m.b }:St)=S:=by rw[hmb];rfl
     refine⟨S.env,b,m,rfl,λt j oj hj=>by omega,λ_ _=>rfl,h1,h3,λhb hn=> ?_,λhb hn hx=> ?_,λhb=> ?_,λhx=> ?_⟩
     ·obtain⟨v0,g1,g2⟩:=h4 hb hn;exact⟨v0,by rw[hS];exact g1,λd hd=>by rw[hown d hd,g2]⟩
     ·obtain⟨g1,g2,g3⟩:=h5 hb hn hx;exact⟨v,by rw[hS];exact g1,g2,g3,hown⟩
     ·obtain⟨g1,g2,g3⟩:=h6 hb;exact⟨g1,g2,λd hd=>by rw[hown d hd,g3]⟩
     ·obtain⟨g1,g2,g3,g4⟩:=h7 hx;exact⟨g1,g2,g3,λd hd=>by rw[hown d hd,g4];rfl⟩
    |succ k=>
     obtain⟨env,b,m',g0,g1,g2,g3,g4,g5,g6,g7,g8⟩:=e7 k o' (by simpa using hk) hs;have htk:ji S.gh ((m::ms').take (k+1))=ji S1.gh (ms'.take k):=by rw[hgh1];rfl
     rw[hform2] at g3;simp only[hform] at g5 g6;refine⟨env,b,m',by simpa using g0,λt j oj hj hjj hs' hd=> ?_,λt ht=> ?_,g3,λd hd=>by rw[<-hnt1];exact g4 d hd,λhb hn=>by rw[htk];exact g5 hb hn,λhb hn hx=>by rw[htk];exact g6 hb hn hx,g7,λhx=>by rw[<-hnb1];exact g8 hx⟩
     ·cases j with
      |zero=>simp only[aG,ae] at hjj;subst hjj;obtain⟨b',v,_,h2,_⟩:=hns hs';rw[g2 t (λ_ o'' _ ho'' _=>hp1 o'' (aw ho'') t hd),e4 t (λo'' ho'' _=>hp1 o'' ho'' t hd)]
      |succ j=>exact g1 t j oj (by omega) (by simpa using hjj) hs' hd
     ·rw[g2 t (λj o'' hj ho'' hs=>ht (j+1) o'' (by omega) (by simpa using ho'') hs),h1other t (λhs=>ht 0 o (by omega) rfl hs)]
  have put: ∀ {S0 S1:St} {v:AV},S0.put o.dst v=some S1->S1= { S0 with env:=S1.env } /\S1.env=(match o.dst with |some d=>dC S0.env d v|none=>S0.env)/\(∀d,o.dst=some d->d<S0.nt):=by
   intro S0 S1 v hput;cases hd:o.dst with
   |none=>rw[hd] at hput;simp only[St.put,ae] at hput;subst hput;exact⟨rfl,rfl,λd hd=>by cases hd⟩
   |some d=>
    rw[hd] at hput;simp only[St.put] at hput;split at hput
    ·simp only[ae] at hput;subst hput;exact⟨rfl,rfl,λd' hd'=>by cases hd';assumption⟩
    ·cases hput
  simp only[nX] at h;split at h
  ·rename_i hst;simp only[ai,Prod.exists,ao] at h;obtain⟨SV',ms',h1,rfl,rfl⟩:=h;exact way S ⟨S.ng,[],[]⟩ ms' rfl rfl h1 (by rw[mi];rfl) (λ_=>⟨rfl,rfl,rfl⟩) (λhs=>by rw[hst] at hs;cases hs)
  ·rename_i hst;have hst:dh o=false:=by simpa using hst
   split at h
   ·rename_i hbo;split at h
    ·rename_i hg;have hg':o.guard=none:=by simpa using hg
     simp only[af,ai,Prod.exists,ao] at h;obtain⟨S1,h1,SV',ms',h2,rfl,rfl⟩:=h;obtain⟨p1,p2,p3⟩:=put h1
     have hnn:dS o=false:=by
      unfold dJ at hbo;split at hbo
      ·rename_i t ht;unfold dS;rw[ht]
      ·cases hbo
     exact way S1 ⟨S.ng,[],[]⟩ ms' rfl rfl h2 (by rw[mi];exact p1) (λhs=>by rw[hst] at hs;cases hs) (λ_=>⟨true,_,by unfold fP;rw[hg'],p2,p3,λ_ h=>(by rw[hnn] at h;cases h),λ_ _ h=>(by rw[hbo] at h;cases h),λh=>(nomatch h),λ_=>⟨rfl,rfl,rfl,rfl⟩⟩)
    ·cases h
   rename_i hbo;have hbo:dJ o=false:=by simpa using hbo
   simp only[af] at h;obtain⟨b,hb,h⟩:=h;cases b with
   |false=>simp only[aM,if_false,af,ai,Prod.exists,ao] at h;obtain⟨S1,h1,SV',ms',h2,rfl,rfl⟩:=h;obtain⟨p1,p2,p3⟩:=put h1;exact way S1 ⟨S.ng,[],[]⟩ ms' rfl rfl h2 (by rw[mi];exact p1) (λhs=>by rw[hst] at hs;cases hs) (λ_=>⟨false,.tup [],hb,p2,p3,λh=>(nomatch h),λh=>(nomatch h),λ_=>⟨rfl,rfl,rfl⟩,λh=>(by rw[hbo] at h;cases h)⟩)
   |true=>
    simp only[if_true] at h;split at h
    ·rename_i hn;simp only[af,ai,Prod.exists,ao] at h;obtain⟨v,adds,cons,h0,S1,h1,SV',ms',h2,rfl,rfl⟩:=h;obtain⟨p1,p2,p3⟩:=put h1;exact way S1 ⟨S.ng,adds,cons⟩ ms' rfl rfl h2 p1 (λhs=>by rw[hst] at hs;cases hs) (λ_=>⟨true,_,hb,p2,p3,λ_ _=>⟨v,h0,rfl⟩,λ_ h=>(by rw[hn] at h;cases h),λh=>(nomatch h),λh=>(by rw[hbo] at h;cases h)⟩)
    ·rename_i hn;have hn:dS o=false:=by simpa using hn
     simp only[af,ai,Prod.exists,ao] at h;obtain⟨S1,⟨v,h0,h1⟩,SV',ms',h2,rfl,rfl⟩:=h;obtain⟨p1,p2,p3⟩:=put h1;exact way S1 ⟨S.ng,[],[]⟩ ms' rfl rfl h2 (by rw[mi];exact p1) (λhs=>by rw[hst] at hs;cases hs) (λ_=>⟨true,v,hb,p2,p3,λ_ h=>(by rw[hn] at h;cases h),λ_ _ _=>⟨h0,rfl,rfl⟩,λh=>(nomatch h),λh=>(by rw[hbo] at h;cases h)⟩)
end
end
section
open Go Go.RowKit
section
variable {P:Program} {w0 w w':World} {W:Nat->Prop} {btI bt bt':Bt} {SI S S' SV:St} {a a':Act} {D:gR} {Q:Exit->Act->World->Prop} {ops:Array Oper}
theorem lH[dp]{o:Oper}{v:AV}(hI:dP w0 W bt S w)(hE:ER w bt S a)(hok:fw P o=true)(hf:gD o=false)(h:dk D P S o=some v): ∃u,(execOp a.eval o).run P w= .ok (.value u) w/\VR w bt v u:=by
 by_cases hp:iK o=true
 all_goals grind [rx,gP,gD,dk,iK,fw]
theorem uK[dp](hD:eO P D)(h:Lv w0 W btI SI bt S a w){o:Oper}(hok:fw P o=true){v:AV}(hs:dk D P S o=some v){K:Act->World->Prop}
  (hK: ∀bt' u w',Lv w0 W btI SI bt' S a w'->VR w' bt' v u->K (a.put o.dst u) w'):o.wp P a w K Q:=by
 by_cases hf:gD o=true
 ·obtain⟨dst,op,type,pos,after,guard⟩:=o;unfold gD at hf;split at hf
  ·rename_i f as ts hop;simp only at hop;subst hop;simp only[dk,af,ai] at hs;obtain⟨⟨g,caps⟩,hc,⟨res,out⟩,hr,hi⟩:=hs;simp only[fw,beq_iff_eq] at hok;refine mL hD h.inv h.er rfl hok hc hr (λu w' btn hC hv=> ?_);obtain⟨bt',g1,g2,g3,g4,g5,g6⟩:=uB h.inv h.er hC hv;rw[hi] at g6;exact hK bt' u w' ⟨g1,g2,h.defers,h.fz,h.fzng,λp hp=>by rw[g4,g5];exact h.keep p hp,h.gone⟩ g6
  ·cases hf
 ·obtain⟨u,g0,g1⟩:=lH h.inv h.er hok (by simpa using hf) hs
  grind [Oper.wp,Oper.upon_value]
def done(ops:Array Oper)(L:Array Bool)(t:Nat):Bool:=(List.range ops.size).any λi=>L.getD i false&&(((ops[i]?).bind (·.dst))==some t)
def dT(ops:Array Oper)(S SV:St)(L:Array Bool)(t:Nat):AV:=if done ops L t then SV.env t else S.env t
theorem eH{L:Array Bool}{t:Nat}:done ops L t=true↔ ∃i o,ops[i]? =some o/\L.getD i false=true/\o.dst=some t:=by
 unfold done
 grind
theorem jd{L:Array Bool}{i j:Nat}(hi:i<L.size): (L.setIfInBounds i true).getD j false=if j=i then true else L.getD j false:=by
 simp only[aJ,aZ]
 grind
theorem gA{L:Array Bool}{i:Nat}{o:Oper}(hi:i<L.size)(ho:ops[i]? =some o)(t:Nat):dT ops S SV (L.setIfInBounds i true) t=if o.dst=some t then SV.env t else dT ops S SV L t:=by
 unfold dT;by_cases hd:o.dst=some t
 ·rw[if_pos hd,if_pos];exact eH.2 ⟨i,o,ho,by rw[jd hi,if_pos rfl],hd⟩
 ·rw[if_neg hd]
  have :done ops (L.setIfInBounds i true) t=done ops L t:=by
   rw[bF,eH,eH];constructor
   ·grind [jd]
   ·rintro⟨j,oj,h1,h2,h3⟩
    refine⟨j,oj,h1,?_,h3⟩;rw[jd hi];split
    ·rfl
    ·exact h2
  rw[this]
theorem Lv.drawn[dp](h:Lv w0 W btI SI bt S a w)(n:Nat):Lv w0 W btI SI bt S a { w with drawn:=n } :=
 ⟨h.inv.change ⟨rfl,rfl,rfl,au _,λ_ _=> .inl rfl⟩,⟨h.er.1,λt=>(h.er.2 t).mono (Bt.le.refl _) (λ_ _=>rfl)⟩,h.defers,h.fz,h.fzng,h.keep,h.gone⟩
def eG(ms:List ej)(L:Array Bool)(r:Nat):Bool:=(List.range ms.length).any λj=>L.getD j false&&((ms[j]?).map λm=>m.cons.contains r).getD false
def l8(S:St)(ms:List ej)(L:Array Bool)(r:Nat):Option T:=if r<S.ng then (if eG ms L r then none else S.gh r) else match fZ ms r with
 |some c=>if L.getD c false&& !eG ms L r then (ms[c]?).bind λm=>m.adds[r-m.b]? else none
 |none=>none
theorem eD{ms:List ej}{L:Array Bool}{r:Nat}:eG ms L r=true↔ ∃j m,ms[j]? =some m/\L.getD j false=true/\r∈m.cons:=by
 unfold eG
 grind
theorem kb{ms:List ej}{r j:Nat}{m:ej}(h1:ms[j]? =some m)(h2:r∈m.cons):j∈ij ms r:=by grind [ij]
theorem uI{ms:List ej}{r j:Nat}(h:j∈ij ms r): ∃m,ms[j]? =some m/\r∈m.cons:=by grind [ij]
theorem eA{ms:List ej}(hd: ∀ (k j:Nat) (m m':ej),ms[k]? =some m->j<k->ms[j]? =some m'->m'.b+m'.adds.length<=m.b){r c:Nat}:fZ ms r=some c↔ ∃m,ms[c]? =some m/\m.b<=r/\r<m.b+m.adds.length:=by
 unfold fZ;rw[List.findIdx?_eq_some_iff_getElem]
 grind
theorem vW{S:St}{ms:List ej}(hgh: ∀r t,S.gh r=some t->r<S.ng)(hb: ∀ (k:Nat) (m:ej),ms[k]? =some m->S.ng<=m.b)(hd: ∀ (k j:Nat) (m m':ej),ms[k]? =some m->j<k->ms[j]? =some m'->m'.b+m'.adds.length<=m.b): ∀ (k:Nat),k<=ms.length-> ∀r,
  (r<S.ng->((∀j m,ms[j]? =some m->j<k->r∉m.cons)->ji S.gh (ms.take k) r=S.gh r)/\ ∀j m,ms[j]? =some m->j<k->r∈m.cons->ji S.gh (ms.take k) r=none)/\(S.ng<=r->fZ ms r=none->ji S.gh (ms.take k) r=none)/\
  ∀c,S.ng<=r->fZ ms r=some c->(k<=c->ji S.gh (ms.take k) r=none)/\(c<k->(∀j m,ms[j]? =some m->c<j->j<k->r∉m.cons)->ji S.gh (ms.take k) r=(ms[c]?).bind λm=>m.adds[r-m.b]?)/\
   (∀j m,ms[j]? =some m->c<j->j<k->r∈m.cons->ji S.gh (ms.take k) r=none):=by
 intro k
 induction k with
 |zero=>
  intro _ r
  have h0:S.ng<=r->S.gh r=none:=λh=>by cases hx:S.gh r<;>grind
  exact⟨λ_=>⟨λ_=>rfl,λj m _ hj=>by omega⟩,λh _=>h0 h,λc h _=>⟨λ_=>h0 h,λhc=>by omega,λj m _ _ hj=>by omega⟩⟩
 |succ k ih=>
  intro hk r;obtain⟨i1,i2,i3⟩:=ih (by omega) r;have hkm:ms[k]? =some (ms[k]'(by omega)):=an _
  have step:ji S.gh (ms.take (k+1))=yT (ji S.gh (ms.take k)) (ms[k]'(by omega)):=by
   have app: ∀ (l:List ej) (g:Nat->Option T) (m:ej),ji g (l++ [m])=yT (ji g l) m:=by
    intro l
    induction l with
    |nil=>intro g m;rfl
    |cons x l ih=>intro g m;exact ih _ m
   rw[List.take_succ_eq_append_getElem (by omega),app]
  generalize hm:ms[k]'(by omega)=m at*;rw[step];unfold yT;refine⟨λh=>⟨λhno=> ?_,λj m' hj h1 h3=> ?_⟩,λh hn=> ?_,λc h hmk=>⟨λhkc=> ?_,λhck hno=> ?_,λj m' hj h1 h2 h3=> ?_⟩⟩
  ·grind
  ·grind
  ·rw[if_neg]
   ·grind
   grind [eA]
  ·rw[if_neg]
   ·grind
   grind [eA]
  ·by_cases hkc:k=c
   ·subst hkc;obtain⟨m',q1,q2⟩:=(eA hd).1 hmk
    grind
   ·rw[if_neg]
    ·rw[if_neg]
     ·exact (i3 c h hmk).2.1 (by omega) (λj m' hj h1 h2=>hno j m' hj h1 (by omega))
     grind
    ·intro hr;rw[(eA hd).2 ⟨m,hkm,hr⟩] at hmk
     grind
  ·rw[if_neg]
   ·by_cases hjk:j=k
    ·grind
    ·split
     all_goals grind
   ·intro hr;rw[(eA hd).2 ⟨m,hkm,hr⟩] at hmk
    grind
theorem yn{v:AV}{u:Value}(h:VR w bt v u): ∀r∈fO v,r<bt.ng:=by
 have one: ∀ {c:AV} {u:Value},VR w bt c u->(∀p s lo len,c= .own p s lo len->p.r<bt.ng)/\(∀p s i j,c= .ptrT p s i j->p.r<bt.ng):=by
  intro c u h;refine⟨λp s lo len he=> ?_,λp s i j he=> ?_⟩
  ·subst he;cases h with |own hp _ _ _=>exact hp
  ·subst he;cases h with |ptrT _ _ _ hp _=>exact hp
 have cells: ∀ {cs:List AV} {us:List Value},us.length=cs.length->(∀ (k:Nat) (c:AV) (u:Value),cs[k]? =some c->us[k]? =some u->VR w bt c u)-> ∀r,r∈cs.flatMap (λ| .own p _ _ _=> [p.r] | .ptrT p _ _ _=> [p.r] | .agg _=> [] | .fn _ _=> [] | .tup _=> [] | _=> [])->r<bt.ng:=by
  intro cs us hl hr r hm;obtain⟨c,hc,hrc⟩:=List.mem_flatMap.1 hm;obtain⟨k,hk,hkc⟩:=aO hc;have:=one (hr k c _ (by grind) (an (by omega)));cases c with
  |own p s lo len=>grind
  |ptrT p s i j=>grind
  | _=>simp at hrc
 intro r hr;cases h<;>grind [fO]
theorem mN{env:Nat->AV}{bx:Nat->Option (List AV)}: ∀ (ss:List Nat) (vs:List AV),ek { S with env:=env,bx:=bx } ss vs=ek S ss vs
 |s::ss,v::vs=>by
  have e:fm { S with env:=env,bx:=bx } s v=fm S s v:=by unfold fm;cases v<;>rfl
  unfold ek;rw[e,mN ss vs]
 | [],[] =>rfl
 | [],_::_=>rfl
 | _::_,[] =>rfl
theorem kg{env:Nat->AV}{bx:Nat->Option (List AV)}(ss:List Nat): ∀ (vss:List (List AV)),dZ { S with env:=env,bx:=bx } ss vss=dZ S ss vss
 | [] =>rfl
 |vs::vss=>by unfold dZ;rw[mN,kg ss vss]
theorem sA{env:Nat->AV}(ss:List Nat)(vss:List (List AV)):dZ { S with env:=env } ss vss=dZ S ss vss:=kg (bx:=S.bx) ss vss
theorem lZ{o:Oper}{env:Nat->AV}(h: ∀x∈o.op.operands,opd { S with env:=env } x=opd S x):dL D P { S with env:=env } o=dL D P S o:=by
 obtain⟨dst,op,type,pos,after,guard⟩:=o;cases op with
 |buildSlice t len parts=>
  have hp: ∀x∈parts.toList,opd { S with env:=env } x.2=opd S x.2:=λx hx=>h x.2 (by simp only[Op.operands,cx];exact aB.2 ⟨x,hx,rfl⟩);have e1:parts.toList.map (λx=>(opd { S with env:=env } x.2).cells)=parts.toList.map (λx=>(opd S x.2).cells):=az λx hx=>by rw[hp x hx]
  have e3: ∀ss vss,dZ { S with env:=env } ss vss=dZ S ss vss:=sA
  have e2: ∀n,parts.toList.all (λx=>(opd { S with env:=env } x.2).cells.length=n&& !(opd { S with env:=env } x.2).isDead)=parts.toList.all (λx=>(opd S x.2).cells.length=n&& !(opd S x.2).isDead):=by
   intro n;rw[bF,ar,ar];constructor
   ·intro g x hx;rw[<-hp x hx];exact g x hx
   ·intro g x hx;rw[hp x hx];exact g x hx
  simp only[dL,e1,e2,e3]
 |call c=>
  obtain⟨cl,as,ts⟩:=c;cases cl with
  |invoke r m=>rfl
  |value f=>
   simp only[dL];rw[kD (h f (by simp[Op.operands,Call.operands]))]
   congr 1
   funext x
   grind [mA,Op.operands,Call.operands]
  |builtin b=>
   cases b with
   |append=>
    simp only[dL];split
    ·rename_i s x t t' e1 e2;have e1:as= #[s,x] :=by apply Array.ext';simpa using e1
     subst e1;rw[h x (by simp[Op.operands,Call.operands]),h s (by simp[Op.operands,Call.operands])];have e3: ∀sz fl v,eh { S with env:=env } sz fl v=eh S sz fl v:=λsz fl v=>by cases v<;>rfl
     have e4: ∀L sz v,fT (dropL { S with env:=env } L) sz v=fT (dropL S L) sz v:=λL sz v=>by cases v<;>rfl
     simp only[e3,e4]
    ·rfl
   | _=>rfl
 |makeSlice t l c=>simp only[dL,h l (by simp[Op.operands]),h c (by simp[Op.operands])]
 | _=>rfl
def Bt.widen(bt:Bt)(n N:Nat):Bt:={ bt with κ:=λp=>if p.r<n then bt.κ p else 0,ng:=N }
theorem Lv.widen[dp](h:Lv w0 W btI SI bt S a w){N:Nat}(hN:S.ng<=N):Lv w0 W btI SI (bt.widen S.ng N) { S with ng:=N } a w:=by
 have hng:=h.inv.ng;have hle:bt.le (bt.widen S.ng N):=⟨au _,by show bt.ng<=N;omega,λ_ h=>h,λ_ _=>rfl,λp hp=>by simp only[Bt.widen];rw[if_pos (by omega)],λ_ _=>rfl⟩
 have lk: ∀p s rs,({ S with ng:=N }:St).look p= .sl s rs->S.look p= .sl s rs/\p.r<bt.ng:=λp s rs hp=>⟨hp,h.inv.look_lt (S:=S) hp⟩
 have eκ: ∀p:dA,p.r<bt.ng->(bt.widen S.ng N).κ p=bt.κ p:=λp hp=>hle.κ p hp
 exact⟨{ good:=h.inv.good,os:=h.inv.os,tape:=h.inv.tape,output:=h.inv.output,size:=h.inv.size,keep:=h.inv.keep,nb:=h.inv.nb,ng:=rfl
         bx:=λn cells hn=>by obtain⟨h1,h2,h3⟩:=h.inv.bx n cells hn;exact⟨h1,h2,h3.mono hle (by rw[h.inv.nb];exact h1) (λ_ _=>rfl) rfl⟩
         gh:=λr t hr=>aI (h.inv.gh r t hr) hN
         tr:=λp s rs hp=>by obtain⟨h0,hlt⟩:=lk p s rs hp;obtain⟨h1,h2⟩:=h.inv.tr p s rs h0;rw[eκ p hlt];exact⟨h1,λhk=>⟨(h2 hk).1,(h2 hk).2.mono hle hlt rfl⟩⟩
         inj:=λp q s rs s' rs' h1 h2 hk hk' he=>by obtain⟨a1,a2⟩:=lk p s rs h1;obtain⟨b1,b2⟩:=lk q s' rs' h2;rw[eκ p a2] at hk;rw[eκ q b2] at hk';exact h.inv.inj _ _ _ _ _ _ a1 b1 hk hk' he
         bbinj:=h.inv.bbinj
         bbtr:=λn c p s rs h1 h2 hk=>by obtain⟨a1,a2⟩:=lk p s rs h2;rw[eκ p a2] at hk;exact h.inv.bbtr _ _ _ _ _ h1 a1 hk
         alt:=h.inv.alt
         atr:=λp s rs h1 hk=>by obtain⟨a1,a2⟩:=lk p s rs h1;rw[eκ p a2] at hk;exact h.inv.atr _ _ _ a1 hk
         abb:=h.inv.abb },⟨h.er.1,λt=>(h.er.2 t).mono hle (λ_ _=>rfl)⟩,h.defers,h.fz,aR h.fzng hN,λp hp=>⟨(h.keep p hp).1,by rw[eκ p (by have:=h.fz;have:=h.fzng;omega)];exact (h.keep p hp).2⟩,h.gone⟩
end
end
end Go.Proofs.YtkghndikalnipabGreat.En
