import Derived.Test.YtkcgfceffffmoaaGreatZX7
namespace Go.Proofs.YtkcgfceffffmoaaGreat.En
section
open Go
section
variable {ρ:Type} {P:Program} {Θ:Du} {S:TS} {Y:Tj}
open Classical in
noncomputable def QJ (d:Option Tmp) (D1 D2:GA):GA:=fun d'=>if d'=d then D1 d' else D2 d'
theorem ahu {d:Option Tmp} {D1 D2:GA} (h1:BC P D1) (h2:BC P D2):BC P (QJ d D1 D2):=by
 intro d' f args gs res out h;unfold QJ at h;split at h
 ·exact h1 _ _ _ _ _ _ h
 ·exact h2 _ _ _ _ _ _ h
theorem aob (d:Option Tmp) (D1 D2:GA):QJ d D1 D2 d=D1 d:=by unfold QJ; rw [if_pos rfl]
theorem aoc {d d':Option Tmp} (D1 D2:GA) (h:d'≠d):QJ d D1 D2 d'=D2 d':=by unfold QJ; rw [if_neg h]
theorem apZ (hΘ:mu P Θ) (hY:ef P Y) {ops:Array Oper}: ∀ (os:List Oper) (S:TS) (ms:List p6) (κ:TS->List p6->Option ρ) (r:ρ),S.ok->ahd Θ Y ops.toList os S ms κ=some r->
  ∃ D SV ms',BC P D/\Ya D P ops os S.st=some (TS.st SV,ms')/\SV.ok/\κ SV (ms++ms')=some r:=by
 intro os
 induction os with
 | nil=>intro S ms κ r hS h; exact⟨noD,S,[],qF,rfl,hS,by rw [bG]; exact h⟩
 | cons o os ih=>
   intro S ms κ r hS h;unfold ahd at h;cases hst:eD o with
   | true=>
     rw [hst] at h;simp only [cond_true] at h;obtain⟨D,SV,ms',h1,h2,h3,h4⟩:=ih _ _ _ _ hS h;refine⟨D,SV,⟨S.gh.length,[],[]⟩::ms',h1,?_,h3,?_⟩
     ·simp only [Ya,hst,if_true,h2,aH];rfl
     ·rw [aZ] at h4;exact h4
   | false=>
     rw [hst] at h;simp only [cond_false] at h;cases hbo:kE o with
     | true=>
       rw [hbo] at h;simp only [cond_true] at h;cases hgn:o.guard.isNone with
       | false=>rw [hgn] at h; cases h
       | true=>
       rw [hgn] at h;simp only [cond_true] at h;obtain⟨S3,g5,g6,_,h⟩:=z8 (v:=V.v (.cl (.ptrB (S.bx.length - 1 - jX os) 0))) hS trivial h;obtain⟨D,SV,ms',k1,k2,k3,k4⟩:=ih _ _ _ _ g6 h;refine⟨D,SV,⟨S.gh.length,[],[]⟩::ms',k1,?_,k3,?_⟩
       ·simp only [Ya,hst,be,if_false,hbo,if_true,hgn];rw [show S.st.put o.dst (.ptrB (S.st.nb - 1 - jX os) 0)=some S3.st from g5];simp only [ae,k2,aH];rfl
       ·rw [aZ] at k4;exact k4
     | false=>
     rw [hbo] at h;simp only [cond_false] at h;obtain⟨b,S1,h1,h2,h3,h4,h⟩:=ahq hS h;have hng:S.st.ng=S1.st.ng:=by rw [h2]
     cases b with
     | false=>
       simp only [cond_false] at h;obtain⟨S3,g5,g6,_,h⟩:=z8 (v:= .tup []) h3 (fun x hx=>by cases hx) h;obtain⟨D,SV,ms',k1,k2,k3,k4⟩:=ih _ _ _ _ g6 h;refine⟨D,SV,⟨S1.gh.length,[],[]⟩::ms',k1,?_,k3,?_⟩
       ·simp only [Ya,hst,hbo,be,if_false,h1,ae];rw [<-h2,show S1.st.put o.dst (.tup [])=some S3.st from g5];simp only [ae,k2,aH];rfl
       ·rw [aZ] at k4;exact k4
     | true=>
       simp only [cond_true] at h;cases hnw:sy o with
       | false=>
         rw [hnw] at h;simp only [cond_false] at h;obtain⟨v,S2,m1,m2,m3,m4,m5,h⟩:=adq (D:=noD) hΘ h3 h;obtain⟨S3,g5,g6,_,h⟩:=z8 m3 (by rw [m4]; exact m5) h;obtain⟨D,SV,ms',k1,k2,k3,k4⟩:=ih _ _ _ _ g6 h;refine⟨D,SV,⟨S1.gh.length,[],[]⟩::ms',k1,?_,k3,?_⟩
         ·have hV:eI D P S1.st o=some v.av:=by
           rw [<-m1]
           have : ∀ D':GA,eI D P S1.st o=eI D' P S1.st o:=by
            intro D';obtain⟨dst,op,ty,pos,aft,gd⟩:=o;cases op with
            | call c=>
              obtain⟨cl,as,ts⟩:=c;cases cl with
              | value f=>cases hnw
              | invoke a b=>rfl
              | builtin b=>cases b <;> rfl
            | unOp op t x=>cases op <;> rfl
            | binOp op t x y t'=>cases op <;> rfl
            | makeFunc fn first caps=>cases fn <;> rfl
            | slice t x lo hi mx=>cases mx <;> rfl
            | _=>rfl
           exact this noD
          simp only [Ya,hst,hbo,be,if_false,h1,ae,if_true,hnw];rw [<-h2,hV];simp only [ae];rw [<-m2,g5];simp only [ae,k2,aH];rw [m2]; first | rfl | skip
         ·rw [aZ] at k4;exact k4
       | true=>
         rw [hnw] at h;simp only [cond_true] at h;obtain⟨hc,h⟩:=eE h;simp only [ax] at hc;obtain⟨D1,v0,v,adds,cons,S2,m1,m2,m3,m4,m5,m6,m7,h⟩:=apY hΘ hY h3 hnw hc.1.2 hc.2 h;obtain⟨S3,g5,g6,_,h⟩:=z8 m6 m7 h;obtain⟨D,SV,ms',k1,k2,k3,k4⟩:=ih _ _ _ _ g6 h;refine⟨QJ o.dst D1 D,SV,⟨S1.st.ng,adds,cons⟩::ms',ahu m1 k1,?_,k3,?_⟩
         ·have hN:mp (QJ o.dst D1 D) P S1.st o=some (v0,adds,cons):=by
           rw [<-m2];exact ald (aob _ _ _)
          have hrest:Ya (QJ o.dst D1 D) P ops os S3.st=some (SV.st,ms'):=by
           rw [<-k2];refine asb os _ (fun o' ho'=>aoc _ _ (fun e=> ?_));have hl:=hc.1.1;unfold ar7 at hl;split at hl
           ·rename_i d hd;have:=aG.1 hl o' ho';unfold aqK at this;rw [e,hd] at this;simp only [cJ,bw] at this;cases this
           ·cases hl
          simp only [Ya,hst,hbo,be,if_false,h1,ae,if_true,hnw];rw [<-h2,hN];simp only [ae];rw [m4,m3,g5];simp only [ae,hrest,aH]
          first | rfl | skip
         ·rw [aZ,m5] at k4;exact k4
theorem ap0 (hΘ:mu P Θ) (hY:ef P Y) {ops:Array Oper} {D:GA}: ∀ (os:List Oper) (S:TS) (κ:TS->Option ρ) (r:ρ),S.ok->anI Θ Y os S κ=some r->
  ∃ S',evS D P ops os S.st=some (TS.st S')/\S'.ok/\κ S'=some r:=by
 intro os
 induction os with
 | nil=>intro S κ r hS h; exact⟨S,rfl,hS,h⟩
 | cons o os ih=>
   intro S κ r hS h;unfold anI at h;cases hst:eD o with
   | false=>
     rw [hst] at h;obtain⟨S',h1,h2,h3⟩:=ih S κ r hS h;exact⟨S',by simp only [evS,hst,be,if_false]; exact h1,h2,h3⟩
   | true=>
     rw [hst] at h;simp only [cond_true] at h;obtain⟨hc,h⟩:=eE h;simp only [ax] at hc;obtain⟨D',v,S1,g1,g2,g3,g4,h⟩:=ahp hΘ hY hS h;obtain⟨S',h1,h2,h3⟩:=ih S1 κ r g3 h;refine⟨S',?_,h2,h3⟩;have hd:o.dst=none:=dk.1 hc.2
     have hs:pO D P S.st o=some (v.av,S1.st):=by
      rw [<-g2];obtain⟨dst,op,ty,pos,aft,gd⟩:=o;cases op with
      | store t a x=>rfl
      | _=>cases hst
     have ho:one D P S.st o=some S1.st:=by
      unfold one;rw [hs];simp only [ae,hd,St.put]
     simp only [evS,hst,if_true,ho,ae,h1];rw [if_pos ⟨hc.1,by rw [hd]; rfl⟩]
theorem ap1 (hΘ:mu P Θ): ∀ (os:List Oper) (S:TS) (κ:TS->Option ρ) (r:ρ),S.ok->anH Θ os S κ=some r-> ∃ S0,ad2 P os S.st=some (TS.st S0)/\S0.ok/\κ S0=some r:=by
 intro os
 induction os with
 | nil=>intro S κ r hS h; exact⟨S,rfl,hS,h⟩
 | cons o os ih=>
   intro S κ r hS h;unfold anH at h;unfold ad2;split at h
   ·rename_i t hop;split at h
    ·rename_i ti hti
     obtain⟨S0,h1,h2,h3⟩:=ih { S with bx:=S.bx++ [ti.ty.zvs.map cC] } κ r ⟨hS.env,fun cs hcs c hc=>by
      rcases bu.1 hcs with h1 | h1
      ·exact hS.bx cs h1 c hc
      ·simp only [aD] at h1;subst h1;exact anN _ _ c hc⟩ h
     refine⟨S0,?_,h2,h3⟩;rw [hop];simp only [(hΘ _ _ hti).ze,ae];rw [<-h1]
     congr 1
     rw [ajB,anM];rfl
    ·cases h
   ·rename_i hno;obtain⟨S0,h1,h2,h3⟩:=ih S κ r hS h;exact⟨S0,by rw [<-h1]; split <;> first | (rename_i t ht; exact absurd ht (hno t)) | rfl,h2,h3⟩
theorem ajG {f g:TypeId->Bool} (h: ∀ t,f t=true->g t=true) {t:TypeId} {a:AV} (hs:ade f t a=true):ade g t a=true:=by
 cases a <;> simp only [ade] at hs ⊢ <;> first | exact h t hs | exact hs
theorem ahv {f g:TypeId->Bool} (h: ∀ t,f t=true->g t=true) {ops:List Oper} {B:List (List Nat)} {S SV:St} {i j:Nat} {oi oj:Oper} (hs:IT f ops B S SV i j oi oj=true):IT g ops B S SV i j oi oj=true:=by
 unfold IT at hs ⊢;split at hs
 ·simp only [ax] at hs ⊢;exact⟨ajG h hs.1,hs.2⟩
 ·cases hs
theorem ahw {ops:List Oper} {B:List (List Nat)} {f g:Nat->Nat->Oper->Oper->Bool} (h: ∀ i j oi oj,f i j oi oj=true->g i j oi oj=true) (hs:OU ops B f=true):OU ops B g=true:=by
 unfold OU at hs ⊢;refine aG.2 fun j hj=> ?_;have h1:=aG.1 hs j hj;split at h1
 ·cases h1
 ·simp only [bN] at h1 ⊢;refine h1.imp id fun h1=>aG.2 fun i hi=> ?_;have h2:=aG.1 h1 i hi;split at h2
  ·cases h2
  ·simp only [bN] at h2 ⊢;exact h2.imp id (h _ _ _ _)
theorem al8 {f g:TypeId->Bool} (h: ∀ t,f t=true->g t=true) {ops:List Oper} {B:List (List Nat)} {S SV:St} {ms:List p6} (hs:ai7 f ops B S ms SV=true):ai7 g ops B S ms SV=true:=by
 unfold ai7 at hs ⊢;simp only [ax,bN] at hs ⊢;exact⟨⟨hs.1.1,hs.1.2.imp (ahw fun _ _ _ _=>ahv h) id⟩,hs.2⟩
theorem ap2 (hΘ:mu P Θ) (t:TypeId) (h:anJ Θ t=true):Qp P t=true:=by
 unfold anJ at h;split at h
 ·rename_i ti hti;unfold Qp;rw [(hΘ t ti hti).sh];unfold Ty.flatB at h;unfold Ty.shs;rw [List.all_map,aG];intro x hx;have:=aG.1 h x hx;cases x with
  | none=>rfl
  | some e=>cases this
 ·cases h
theorem ap3 (hΘ:mu P Θ) (hY:ef P Y) (hm:P.follows .mixedOrders=true) {id:Nat} {ops:Array Oper} (hok:Tb P ops=true) (hS:S.ok) {κ:TS->Option ρ} {r:ρ} (h:aq9 Θ Y ops.toList S κ=some r):
  FE P (.region id ops true) S.st (fun x S'=>x= .nor/\ ∃ S1:TS,S'=S1.st/\S1.ok/\κ S1=some r):=by
 unfold aq9 at h;obtain⟨S0,h0,hS0,h⟩:=ap1 hΘ _ _ _ _ hS h;obtain⟨D,SV,ms,h1,h2,h3,h4⟩:=apZ hΘ hY _ _ _ _ _ hS0 h;obtain⟨h5,h6⟩:=eE h4;rw [bq] at h5;obtain⟨S',h7,h8,h9⟩:=ap0 (D:=D) (ops:=ops) hΘ hY _ _ _ _ h3 h6;exact FE.draw h1 hm hok h0 h2 (al8 (ap2 hΘ) h5) h7 ⟨rfl,S',rfl,h8,h9⟩
def nE:Code->List Code
 | .seq a b=>nE a++nE b
 | .cond _ a b=>nE a++nE b
 | .block _ c=>nE c
 | .loop c=> [c]
 | _=> []
def nZ (P:Program) (Λ:FZ) (cs:List Code):Prop:= ∀ c∈cs,∀ (S:TS) (ρ:Type) (κ:X->TS->Option ρ) (r:ρ),S.ok->Λ (fC c) S ρ κ=some r->FE P (.loop c) S.st (fun x S'=> ∃ S1:TS,S'=S1.st/\S1.ok/\κ x S1=some r)
theorem X2 (hΘ:mu P Θ) (hY:ef P Y) (hm:P.follows .mixedOrders=true) {Λ:FZ}: ∀ (c:Code) (S:TS) (κ:X->TS->Option ρ) (r:ρ),yW P c=true->nZ P Λ (nE c)->S.ok->iz Θ Y Λ c S κ=some r->
  FE P c S.st (fun x S'=> ∃ S1:TS,S'=S1.st/\S1.ok/\κ x S1=some r):=by
 intro c
 induction c with
 | skip=>intro S κ r _ _ hS h; exact FE.skip ⟨S,rfl,hS,h⟩
 | exit i=>intro S κ r _ _ hS h; exact FE.exit ⟨S,rfl,hS,h⟩
 | ret=>intro S κ r _ _ hS h; exact FE.ret ⟨S,rfl,hS,h⟩
 | region id ops dr=>
   intro S κ r hok _ hS h;cases dr with
   | false=>exact FE.region (apS hΘ hY _ _ _ _ (fun o ho=>aG.1 hok o ho) hS h)
   | true=>
     refine (ap3 hΘ hY hm hok hS h).mono (fun x S' hx=> ?_);obtain⟨rfl,hx⟩:=hx;exact⟨S',C9.refl,hx⟩
 | seq a b iha ihb=>
   intro S κ r hok hL hS h;simp only [yW,ax] at hok;have hLa:nZ P Λ (nE a):=fun c hc=>hL c (b8 _ hc);have hLb:nZ P Λ (nE b):=fun c hc=>hL c (cM _ hc);unfold iz at h;refine FE.seq ((iha S _ r hok.1 hLa hS h).mono (fun x S' hx=>⟨S',C9.refl,?_⟩));obtain⟨S1,rfl,h1,h2⟩:=hx;cases x with
   | nor=>exact ihb S1 κ r hok.2 hLb h1 h2
   | ret=>exact⟨S1,rfl,h1,h2⟩
   | ext i=>exact⟨S1,rfl,h1,h2⟩
 | cond t a b iha ihb=>
   intro S κ r hok hL hS h;simp only [yW,ax] at hok;have hLa:nZ P Λ (nE a):=fun c hc=>hL c (b8 _ hc);have hLb:nZ P Λ (nE b):=fun c hc=>hL c (cM _ hc);unfold iz at h;obtain⟨v,S1,h1,h2,h3,h4,h⟩:=YJ hS h;refine FE.cond h1 ?_;rw [<-h2];cases v with
   | true=>exact iha S1 κ r hok.1 hLa h3 h
   | false=>exact ihb S1 κ r hok.2 hLb h3 h
 | block i c ih=>
   intro S κ r hok hL hS h;unfold iz at h;refine FE.block ((ih S _ r hok hL hS h).mono (fun x S' hx=>⟨S',C9.refl,?_⟩));obtain⟨S1,rfl,h1,h2⟩:=hx;cases x with
   | nor=>exact⟨S1,rfl,h1,h2⟩
   | ret=>exact⟨S1,rfl,h1,h2⟩
   | ext j=>
     simp only at h2 ⊢;cases hb:Nat.beq j i with
     | true=>
       rw [hb] at h2;rw [if_pos (ay hb)];exact⟨S1,rfl,h1,h2⟩
     | false=>
       rw [hb] at h2;rw [if_neg (by intro e; subst e; rw [cJ] at hb; cases hb)];exact⟨S1,rfl,h1,h2⟩
 | loop c ih=>
   intro S κ r hok hL hS h;exact hL c (aD.2 rfl) S ρ κ r hS h
 | _=>intro S κ r hok; cases hok
end
end
section
open Go
section
variable {ρ:Type} {P:Program} {Θ:Du} {S:TS} {Y:Tj}
theorem alf (hS:S.ok) {gs:List gK} {et:Option Ty} {c:Cl} (hc:c.ok S.gh) {κ:Cl->List gK->TS->Option ρ} {r:ρ} (h:apC S gs et c κ=some r):
  ∃ c' gs' S',Wh S.st (gs.map gK.tree) (YR et) c.av=some (Cl.av c',gs'.map gK.tree,TS.st S')/\S'.ok/\pm S.gh S'.gh/\pm (gs.map some) (gs'.map some)/\c'.ok (gs'.map some)/\κ c' gs' S'=some r:=by
 have new: ∀ (t:Ty) (l:List t.D) (n:Nat),n=l.length->(Cl.own ⟨gs.length,[]⟩ t.width 0 n true).ok ((gs++ [(⟨t,l,none⟩:gK)]).map some):=by
  intro t l n hn;refine⟨by simp,fun _=>⟨rfl,rfl,fun tr htr=> ?_⟩⟩;rw [bX] at htr;have e:=wK (G:=gs.map some) (x:=some (⟨t,l,none⟩:gK)) gs.length;simp only [aJ,if_true] at e;have htr':jZ (gs.map some++ [some (⟨t,l,none⟩:gK)]) gs.length=some tr:=htr;rw [e] at htr';cases htr';exact hn
 have grow: ∀ (x:gK),pm (gs.map some) ((gs++ [x]).map some):=fun x=>by rw [bX]; exact pm.app _ _
 unfold apC at h;split at h
 ·refine⟨_,_,_,rfl,hS,pm.refl _,pm.refl _,?_,h⟩;trivial
 ·rename_i t;refine⟨_,_,S,?_,hS,pm.refl _,grow _,new t [] 0 rfl,h⟩;simp only [Cl.av,Wh,YR,aJ,bX,aX,cn];rfl
 ·rename_i p sz lo len w t';obtain⟨pr,pl⟩:=p;cases pl with
  | cons a l=>cases h
  | nil=>
    simp only at h;obtain⟨h1,h'⟩:=eE h;clear h;simp only [ax] at h1;have h2:S.fz<=pr:=aF h1.1;have h3:t'.width=sz:=ay h1.2;obtain⟨t,l,k1,k2,h⟩:=mT h';obtain⟨k3,h⟩:=eE h;have k3:t.width=sz:=ay k3
    have fin: ∀ (len:Nat),len<=l.length->Wh S.st (gs.map gK.tree) (YR (some t')) (.own ⟨pr,[]⟩ sz 0 len)=some (.own ⟨gs.length,[]⟩ sz 0 len,(gs++ [(⟨t,l.take len,none⟩:gK)]).map gK.tree,({ S with gh:=jS S.gh pr none }:TS).st):=by
     intro len hlen;simp only [Wh];have hrows:S.st.rows ⟨pr,[]⟩ sz=some (l.map t.row):=by rw [<-k3]; exact vY k1
     rw [if_pos ⟨trivial,by show sz=t'.width; exact h3.symm,trivial,h2⟩,hrows];simp only [ae,aJ];rw [if_pos hlen,QF];simp only [YR,h3,bX,aX,cn,gK.tree,bT,k3]
    cases w with
    | true=>
      obtain⟨e1,e2,e3⟩:=K8 hc k2;refine⟨_,_,_,?_,TS.ok_gh hS (pm.gone _ _),pm.gone _ _,grow _,by rw [<-k3]; exact new t l _ rfl,h⟩;have:=fin l.length (aE _);rw [bg] at this;simp only [Cl.av];rw [e2,e3];exact this
    | false=>
      simp only [cond_false] at h;obtain⟨h4,h⟩:=jW h;refine⟨_,_,_,?_,TS.ok_gh hS (pm.gone _ _),pm.gone _ _,grow _,by rw [<-k3]; exact new t (l.take len) _ rfl,h⟩;have hl: (l.take len).length=len:=by simp; omega
      simp only [Cl.av];rw [h4.1,hl];exact fin len h4.2
 ·cases h
theorem aod: ∀ (ets:List (Option Ty)) (cs:List Cl) (S:TS) (gs:List gK) (κ:List Cl->List gK->TS->Option ρ) (r:ρ),S.ok->(∀ c∈cs,c.ok S.gh)->ak3 S gs ets cs κ=some r->
  ∃ cs' gs' S',IR S.st (gs.map gK.tree) (ets.map YR) (cs.map Cl.av)=some (cs'.map Cl.av,gs'.map gK.tree,TS.st S')/\S'.ok/\pm S.gh S'.gh/\pm (gs.map some) (gs'.map some)/\(∀ c∈cs',c.ok (gs'.map some))/\κ cs' gs' S'=some r:=by
 intro ets
 induction ets with
 | nil=>
   intro cs S gs κ r hS hcs h;cases cs with
   | nil=>exact⟨[],gs,S,rfl,hS,pm.refl _,pm.refl _,(fun c hc=>by cases hc),h⟩
   | cons c cs=>cases h
 | cons et ets ih=>
   intro cs S gs κ r hS hcs h;cases cs with
   | nil=>cases h
   | cons c cs=>
     unfold ak3 at h;obtain⟨c',g1,S1,h1,h2,h3,h4,h5,h⟩:=alf hS (hcs c aN) h;obtain⟨cs',g2,S2,k1,k2,k3,k4,k5,h⟩:=ih cs S1 g1 _ r h2 (fun x hx=>Cl.ok_mono h3 (hcs x (aI _ hx))) h;refine⟨c'::cs',g2,S2,?_,k2,h3.trans k3,h4.trans k4,fun x hx=> ?_,h⟩
     ·simp only [aX,IR,h1,ae,k1,aH]
     ·rcases ba.1 hx with rfl | hx
      ·exact Cl.ok_mono k4 h5
      ·exact k5 x hx
theorem ap4 (hΘ:mu P Θ) (hS:S.ok) {gs:List gK} {t:TypeId} {v:V} (hv:v.ok S.gh) {κ:V1->List gK->TS->Option ρ} {r:ρ} (h:ara Θ S gs t v κ=some r):
  ∃ v' gs' S',alF P S.st (gs.map gK.tree) t v.av=some (V1.av v',gs'.map gK.tree,TS.st S')/\S'.ok/\pm S.gh S'.gh/\pm (gs.map some) (gs'.map some)/\v'.ok (gs'.map some)/\κ v' gs' S'=some r:=by
 unfold ara at h;split at h
 ·cases h
 ·rename_i ti hti;have hsh:=(hΘ _ _ hti).sh;split at h
  ·rename_i cs;obtain⟨cs',g1,S1,h1,h2,h3,h4,h5,h⟩:=aod _ _ _ _ _ _ hS hv h;refine⟨.agg cs',g1,S1,?_,h2,h3,h4,h5,h⟩;simp only [V.av,V1.av,alF,hsh];rw [show ti.ty.shs=ti.ty.csh.map YR from rfl,h1];rfl
  ·rename_i c;obtain⟨c',g1,S1,h1,h2,h3,h4,h5,h⟩:=alf hS hv h;refine⟨.cl c',g1,S1,?_,h2,h3,h4,h5,h⟩
   have e:alF P S.st (gs.map gK.tree) t (V.v (.cl c)).av=Wh S.st (gs.map gK.tree) ((C0 P 9 t).headD 0) c.av:=by
    cases c with
    | c x=>cases x <;> rfl
    | _=>rfl
   rw [e,hsh]
   have e2:ti.ty.shs.headD 0=YR (ti.ty.csh.headD none):=by
    unfold Ty.shs;cases ti.ty.csh with
    | nil=>rfl
    | cons a l=>cases a <;> rfl
   rw [e2];exact h1
  ·cases h
theorem ahx (hΘ:mu P Θ): ∀ (rs:List (TypeId×V)) (S:TS) (gs:List gK) (κ:List V1->List gK->Option ρ) (r:ρ),S.ok->(∀ x∈rs,x.2.ok S.gh)->K6 Θ S gs rs κ=some r->
  ∃ vs gs',agw P S.st (gs.map gK.tree) (rs.map fun x=>(x.1,x.2.av))=some (vs.map V1.av,gs'.map gK.tree)/\pm (gs.map some) (gs'.map some)/\(∀ v∈vs,v.ok (gs'.map some))/\vs.length=rs.length/\κ vs gs'=some r:=by
 intro rs
 induction rs with
 | nil=>intro S gs κ r hS hrs h; exact⟨[],gs,rfl,pm.refl _,(fun v hv=>by cases hv),rfl,h⟩
 | cons x rs ih=>
   intro S gs κ r hS hrs h;obtain⟨t,v⟩:=x;unfold K6 at h;obtain⟨v',g1,S1,h1,h2,h3,h4,h5,h⟩:=ap4 hΘ hS (hrs _ aN) h;obtain⟨vs,g2,k1,k2,k3,k4,h⟩:=ih S1 g1 _ r h2 (fun x hx=>V.ok_mono h3 (hrs x (aI _ hx))) h;refine⟨v'::vs,g2,?_,h4.trans k2,fun y hy=> ?_,by simp [k4],h⟩
   ·simp only [aX,agw,h1,ae,k1,aH]
   ·rcases ba.1 hy with rfl | hy
    ·exact V1.ok_mono k2 h5
    ·exact k3 y hy
theorem alg (hΘ:mu P Θ) (hS:S.ok): ∀ (rs:List ResultVar) (ts:List TypeId) (κ:List (TypeId×V)->Option ρ) (r:ρ),abq Θ S rs ts κ=some r->
  ∃ l:List (TypeId×V),rs.mapM (QB P S.st)=some (l.map fun x=>x.2.av)/\l.map (·.1)=ts/\(∀ x∈l,x.2.ok S.gh)/\κ l=some r:=by
 intro rs
 induction rs with
 | nil=>
   intro ts κ r h;cases ts with
   | nil=>exact⟨[],rfl,rfl,(fun x hx=>by cases hx),h⟩
   | cons t ts=>cases h
 | cons a rs ih=>
   intro ts κ r h;cases ts with
   | nil=>cases a <;> cases h
   | cons t ts=>
     cases a with
     | tmp a=>
       unfold abq at h;obtain⟨l,h1,h2,h3,h⟩:=ih ts _ r h;refine⟨(t,p7 S.env a)::l,?_,by simp [h2],fun x hx=> ?_,h⟩
       ·simp only [db,h1,QB];rfl
       ·rcases ba.1 hx with rfl | hx
        ·exact X0 hS a
        ·exact h3 x hx
     | cell a t'=>
       unfold abq at h
       have hw:0 < P.cellsOf t':=by
        have h':=h;unfold ag7 at h';split at h'
        ·rename_i ti hti;rw [(hΘ _ _ hti).cells];exact Ty.width_pos _
        ·cases h'
       obtain⟨u,g1,g2,h⟩:=ahi hΘ hS (X0 hS a) h;obtain⟨l,h1,h2,h3,h⟩:=ih ts _ r h;refine⟨(t,u)::l,?_,by simp [h2],fun x hx=> ?_,h⟩
       ·simp only [db,h1,QB];rw [if_pos hw];have :load P S.st t' (S.st.env a)=some u.av:=g1;rw [this];rfl
       ·rcases ba.1 hx with rfl | hx
        ·exact g2
        ·exact h3 x hx
theorem aex {α β γ:Type} (f:α×β->γ): ∀ l:List (α×β),(l.map (·.1)).zip (l.map f)=l.map fun x=>(x.1,f x)
 | [] =>rfl
 | a::l=>by simp only [aX,List.zip_cons_cons,aex f l]
theorem alh (vs:List V1): (Tn vs).av=ar3 (vs.map V1.av):=by
 match vs with
 | [] =>rfl
 | [v] =>rfl
 | v::u::vs=>rfl
theorem O7: ∀ (args:List V1) (n t:Nat),(p7 (BF n args) (n+t)).av=(args.map V1.av).getD t .dead
 | [],n,t=>by simp [BF,p7]; rfl
 | a::l,n,0=>by simp [BF,p7]; rfl
 | a::l,n,t+1=>by
   have :Nat.beq n (n+(t+1))=false:=by
    cases h:Nat.beq n (n+(t+1)) with
    | false=>rfl
    | true=>have:=ay h; omega
   simp only [BF,p7,this,cond_false];rw [show n+(t+1)=(n+1)+t by omega,O7 l (n+1) t];simp
theorem O8: ∀ (args:List V1) (n:Nat) (x:Nat×V),x∈BF n args-> ∃ a∈args,x.2= .v a
 | [],n,x,h=>by cases h
 | a::l,n,x,h=>by
   simp only [BF,ba] at h;rcases h with rfl | h
   ·exact⟨a,aN,rfl⟩
   ·obtain⟨b,hb,he⟩:=O8 l (n+1) x h;exact⟨b,aI _ hb,he⟩
theorem are (hΘ:mu P Θ) (hY:ef P Y) (hm:P.follows .mixedOrders=true) {Λ:FZ} {f:FuncId} {fn:Func} (hf:fnT P f=some fn) (hL: ∀ c,fn.body=some c->nZ P Λ (nE c)) {args:List V1} (ha: ∀ a∈args,a.ok []) {res:V} {out:List gK}
  (h:fnK Θ Y Λ fn args (fun v g=>some (v,g))=some (res,out)):Hq P f (args.map V1.av) [] res.av (out.map gK.tree):=by
 unfold fnK at h;split at h
 ·cases h
 ·rename_i c hc
  have hcok:yW P c=true:=by
   unfold fnT at hf;simp only [ao] at hf;obtain⟨fn',g1,g2⟩:=hf;split at g2
   ·cases g2
   ·rename_i c' hc';split at g2
    ·cases g2
    ·rename_i hn;simp only [af] at g2;subst g2;rw [hc] at hc';simp only [af] at hc';subst hc';simp only [bN,not_or,dC,dq] at hn;exact hn.2
  have hS0: ({ env:=BF 0 args,bx:= [],gh:= [],fz:=0,nt:=args.length+(fn.ntmps - args.length) }:TS).ok:=
   ⟨fun x hx=>by obtain⟨a,h1,h2⟩:=O8 _ _ _ hx; rw [h2]; exact ha a h1,fun cs hcs=>by cases hcs⟩
  have hbeg: ({ env:=BF 0 args,bx:= [],gh:= [],fz:=0,nt:=args.length+(fn.ntmps - args.length) }:TS).st=abp fn.ntmps (args.map V1.av) [] :=by
   unfold TS.st abp;simp only [aJ,b9]
   congr 1
   funext t
   have:=O7 args 0 t;rw [aY] at this;exact this
  have hW:=X2 hΘ hY hm c _ _ _ hcok (hL c hc) hS0 h;rw [hbeg] at hW
  have fC: ∀ (x:X) (S1:TS),S1.ok->(match x with | .ext _=>none | _=>abq Θ S1 fn.results.toList fn.resultTypes.toList fun rs=>K6 Θ S1 [] rs fun vs gs=>some (Tn vs,gs))=some (res,out)->
    (match x with | .ext _=>False | _=>Wl P fn.results.toList fn.resultTypes.toList 0 S1.st=some (res.av,out.map gK.tree)):=by
   intro x S1 hS1 h
   have main: (abq Θ S1 fn.results.toList fn.resultTypes.toList fun rs=>K6 Θ S1 [] rs fun vs gs=>some (Tn vs,gs))=some (res,out)->Wl P fn.results.toList fn.resultTypes.toList 0 S1.st=some (res.av,out.map gK.tree):=by
    intro h;obtain⟨l,h1,h2,h3,h⟩:=alg (P:=P) hΘ hS1 _ _ _ _ h;obtain⟨vs,gs',k1,k2,k3,k4,h⟩:=ahx (P:=P) hΘ _ _ _ _ _ hS1 h3 h;simp only [af,aq] at h;obtain⟨rfl,rfl⟩:=h;unfold Wl;rw [h1];simp only [ae,aJ]
    have hz: (fn.resultTypes.toList.zip (l.map fun x=>x.2.av))=l.map fun x=>(x.1,x.2.av):=by
     rw [<-h2];exact aex _ l
    rw [if_pos (by rw [<-h2]; simp),hz];have k1':agw P S1.st [] (l.map fun x=>(x.1,x.2.av))=some (vs.map V1.av,gs'.map gK.tree):=k1;simp only [List.range_zero,cn,k1',aH,alh]
   cases x with
   | ext i=>cases h
   | nor=>exact main h
   | ret=>exact main h
  refine agZ hf hc (hW.mono (fun x S' hx=>⟨S',C9.refl,?_⟩));obtain⟨S1,rfl,h1,h2⟩:=hx;have:=fC x S1 h1 h2;cases x <;> exact this
theorem ahy (a:List V1) (t:Nat): (p7 (BF 0 a) t).av=(a.map V1.av).getD t .dead:=by
 have:=O7 a 0 t
 rwa [aY] at this
theorem ali (hΘ:mu P Θ) (hY:ef P Y) (hm:P.follows .mixedOrders=true) {Λ:FZ} {f:FuncId} {fn:Func} (hf:fnT P f=some fn) (hL: ∀ c,fn.body=some c->nZ P Λ (nE c)) {m:Nat} (hm1:m<=1) {el:Ty} {l:List el.D} {args:List V1} (ha: ∀ a∈args,a.ok []) {res:V} {out:List gK}
  (h:apE Θ Y Λ fn m el l args (fun v g=>some (v,g))=some (res,out)):BE P f (.own ⟨0,[]⟩ el.width 0 l.length::args.map V1.av) [.sl el.width (l.map el.row)] m res.av (out.map gK.tree):=by
 unfold apE at h;split at h
 ·cases h
 ·rename_i c hc
  have hcok:yW P c=true:=by
   unfold fnT at hf;simp only [ao] at hf;obtain⟨fn',g1,g2⟩:=hf;split at g2
   ·cases g2
   ·rename_i c' hc';split at g2
    ·cases g2
    ·rename_i hn;simp only [af] at g2;subst g2;rw [hc] at hc';simp only [af] at hc';subst hc';simp only [bN,not_or,dC,dq] at hn;exact hn.2
  have hS0: ({ env:=BF 0 (.cl (.own ⟨0,[]⟩ el.width 0 l.length true)::args),bx:= [],gh:= [some ⟨el,l,none⟩],fz:=m,nt:=(args.length+1)+(fn.ntmps - (args.length+1)) }:TS).ok:=
   ⟨fun x hx=>by
    obtain⟨a,h1,h2⟩:=O8 _ _ _ hx;rw [h2];rcases ba.1 h1 with rfl | h1
    ·refine⟨c9,fun _=>⟨rfl,rfl,fun tr htr=> ?_⟩⟩;have htr:some (⟨el,l,none⟩:gK)=some tr:=htr;cases htr;rfl
    ·exact V1.ok_mono (G:= []) ⟨aK _,fun r tr hr=>by cases hr⟩ (ha a h1),fun cs hcs=>by cases hcs⟩
  have hbeg: ({ env:=BF 0 (.cl (.own ⟨0,[]⟩ el.width 0 l.length true)::args),bx:= [],gh:= [some ⟨el,l,none⟩],fz:=m,nt:=(args.length+1)+(fn.ntmps - (args.length+1)) }:TS).st=alU fn.ntmps (.own ⟨0,[]⟩ el.width 0 l.length::args.map V1.av) [.sl el.width (l.map el.row)] m:=by
   unfold TS.st alU abp;simp only [aJ,bo,b9]
   congr 1
   ·funext t
    exact ahy _ t
   ·funext r
    show (jZ [some ⟨el,l,none⟩] r).map gK.tree= [T.sl el.width (l.map el.row)][r]?;unfold jZ;rw [kR];cases r <;> rfl
  have hW:=X2 hΘ hY hm c _ _ _ hcok (hL c hc) hS0 h;rw [hbeg] at hW
  have fin: ∀ (S1:TS),S1.ok-> ∀ gs:List gK,((List.range m).map fun r=>(S1.st.gh r).getD .dd)=gs.map gK.tree-> ∀ l,(fn.results.toList.mapM (QB P S1.st))=some (l.map fun x:TypeId×V=>x.2.av)->l.map (·.1)=fn.resultTypes.toList->(∀ x∈l,x.2.ok S1.gh)->
    (K6 Θ S1 gs l fun vs gs=>some (Tn vs,gs))=some (res,out)->Wl P fn.results.toList fn.resultTypes.toList m S1.st=some (res.av,out.map gK.tree):=by
   intro S1 hS1 gs hgs l h1 h2 h3 h;obtain⟨vs,gs',k1,k2,k3,k4,h⟩:=ahx (P:=P) hΘ _ _ _ _ _ hS1 h3 h;simp only [af,aq] at h;obtain⟨rfl,rfl⟩:=h;unfold Wl;rw [h1];simp only [ae,aJ]
   have hz: (fn.resultTypes.toList.zip (l.map fun x=>x.2.av))=l.map fun x=>(x.1,x.2.av):=by
    rw [<-h2];exact aex _ l
   rw [if_pos (by rw [<-h2]; simp),hz,hgs,k1];simp only [aH,alh]
  have main: ∀ (S1:TS),S1.ok->(abq Θ S1 fn.results.toList fn.resultTypes.toList fun rs=>bif Nat.beq m 0 then K6 Θ S1 [] rs fun vs gs=>some (Tn vs,gs) else match jZ S1.gh 0 with
    | some ⟨t,l',none⟩=>K6 Θ S1 [⟨t,l',none⟩] rs fun vs gs=>some (Tn vs,gs)
    | _=>none)=some (res,out)->Wl P fn.results.toList fn.resultTypes.toList m S1.st=some (res.av,out.map gK.tree):=by
   intro S1 hS1 h0;obtain⟨l,h1,h2,h3,h⟩:=alg (P:=P) hΘ hS1 _ _ _ _ h0;clear h0;cases hm0:Nat.beq m 0 with
   | true=>
     rw [hm0] at h;have e:m=0:=ay hm0;exact fin S1 hS1 [] (by rw [e]; rfl) l h1 h2 h3 h
   | false=>
     rw [hm0] at h;simp only [cond_false] at h
     have e:m=1:=by
      have :m≠0:=fun e=>by rw [e] at hm0; cases hm0
      omega
     split at h
     ·rename_i t l' hg
      exact fin S1 hS1 [⟨t,l',none⟩] (by
       rw [e];show [(S1.st.gh 0).getD .dd] =_
       have :S1.st.gh 0=some (gK.tree ⟨t,l',none⟩):=by
        show (jZ S1.gh 0).map gK.tree=_;rw [hg];rfl
       rw [this];rfl) l h1 h2 h3 h
     ·cases h
  refine ag2 hf hc (by simpa using hm1) (hW.mono (fun x S' hx=>⟨S',C9.refl,?_⟩));obtain⟨S1,rfl,h1,h2⟩:=hx;cases x with
  | ext i=>cases h2
  | nor=>exact main S1 h1 h2
  | ret=>exact main S1 h1 h2
end
end
section
open Go
def Wn:List Nat->Nat->Nat->Option Nat
 | [],_,_=>none
 | a::l,x,n=>bif Nat.beq a x then some n else Wn l x (n+1)
def O9 (bs ls:List Nat):Cl->Cl
 | .own p sz lo len w=>match Wn ls p.r 0 with | some k=> .own ⟨k,p.l⟩ sz lo len w | none=> .dead
 | .ptrT p sz i j=>match Wn ls p.r 0 with | some k=> .ptrT ⟨k,p.l⟩ sz i j | none=> .dead
 | .ptrB n j=>match Wn bs n 0 with | some k=> .ptrB k j | none=> .dead
 | c=>c
def aoe (bs ls:List Nat):V1->V1
 | .cl c=> .cl (O9 bs ls c)
 | .agg cs=> .agg (cs.map (O9 bs ls))
 | .fn f cs=> .fn f (cs.map (O9 bs ls))
def aof (bs ls:List Nat):V->V
 | .v x=> .v (aoe bs ls x)
 | .tup _=>V.dead
def alj:List Nat->List Nat->List Nat
 | [],acc=>acc
 | a::l,acc=>match Wn acc a 0 with | some _=>alj l acc | none=>alj l (acc++ [a])
def YX:List Nat->Bool
 | [] =>true
 | a::l=>(match Wn l a 0 with | some _=>false | none=>true)&&YX l
def as2:Cl->List Nat | .ptrB n _=> [n] | _=> []
def asd:Cl->List Nat | .own p _ _ _ _=> [p.r] | .ptrT p _ _ _=> [p.r] | _=> []
def V1.all:V1->List Cl | .cl c=> [c] | .agg cs=>cs | .fn _ cs=>cs
def V.all:V->List Cl | .v x=>x.all | .tup _=> []
def alk (S:TS) (keep:List Nat):List Nat:=alj (keep.flatMap fun t=>(p7 S.env t).all.flatMap as2) []
def aqM (S:TS) (keep bs:List Nat):List Nat:=alj (List.range S.fz++(keep.flatMap fun t=>(p7 S.env t).all.flatMap asd)++bs.flatMap fun b=>((C1 S.bx b).getD []).flatMap asd) []
def p8 (S:TS) (keep bs ls:List Nat):TS where
 env:=keep.map fun t=>(t,aof bs ls (p7 S.env t))
 bx:=bs.map fun b=>((C1 S.bx b).getD []).map (O9 bs ls)
 gh:=ls.map fun r=>jZ S.gh r
 fz:=S.fz
 nt:=S.nt
def aey (S:TS) (bs ls:List Nat):Bool:=YX bs&&YX ls&&bs.all (fun b=>Nat.blt b S.bx.length)&&eqN (ls.take S.fz) (List.range S.fz)&&ls.all (fun r=>Nat.blt r S.gh.length)
def al9 (G:List (Option gK)):Cl->Cl
 | .own p sz lo len true=> .own p sz lo (match C1 G p.r with | some (some tr)=>tr.l.length | _=>len) true
 | c=>c
def aog (G:List (Option gK)):V1->V1
 | .cl c=> .cl (al9 G c)
 | .agg cs=> .agg (cs.map (al9 G))
 | .fn f cs=> .fn f (cs.map (al9 G))
def ase (G:List (Option gK)):V->V
 | .v x=> .v (aog G x)
 | .tup l=> .tup (l.map (aog G))
def arf (S:TS):TS:= { S with env:=S.env.map (fun x=>(x.1,ase S.gh x.2)),bx:=S.bx.map (fun cs=>cs.map (al9 S.gh)) }
def Tx {ρ:Type} (keep:List Nat) (S:TS) (κ:TS->Option ρ):Option ρ:=bif aey S (alk S keep) (aqM S keep (alk S keep)) then κ (arf (p8 S keep (alk S keep) (aqM S keep (alk S keep)))) else none
theorem Tz: ∀ {l:List Nat} {x n k:Nat},Wn l x n=some k->n<=k/\l[k - n]? =some x
 | [],x,n,k,h=>by cases h
 | a::l,x,n,k,h=>by
   simp only [Wn] at h;cases hb:Nat.beq a x with
   | true=>
     rw [hb] at h;simp only [cond_true,af] at h;subst h;exact⟨aE _,by simp [ay hb]⟩
   | false=>
     rw [hb] at h;obtain⟨h1,h2⟩:=Tz (l:=l) h;refine⟨by omega,?_⟩;rw [show k - n=(k - (n+1))+1 by omega,cc];exact h2
theorem adw: ∀ {l:List Nat} {x n:Nat},Wn l x n=none->x∉l
 | [],x,n,_=>by simp
 | a::l,x,n,h=>by
   simp only [Wn] at h;cases hb:Nat.beq a x with
   | true=>rw [hb] at h; cases h
   | false=>
     rw [hb] at h;have:=adw (l:=l) h;intro hm;rcases ba.1 hm with rfl | hm
     ·rw [cJ] at hb; cases hb
     ·exact this hm
theorem Pa: ∀ {l:List Nat},YX l=true-> ∀ (i j x:Nat),l[i]? =some x->l[j]? =some x->i=j
 | [],_,i,j,x,hi,_=>by simp at hi
 | a::l,h,i,j,x,hi,hj=>by
   simp only [YX,ax] at h
   have hna:a∉l:=by
    have h1:=h.1;split at h1
    ·cases h1
    ·rename_i hp; exact adw hp
   cases i with
   | zero=>
     simp only [aL,af] at hi;subst hi;cases j with
     | zero=>rfl
     | succ j=>simp only [cc] at hj; exact absurd (au hj) hna
   | succ i=>
     simp only [cc] at hi;cases j with
     | zero=>
       simp only [aL,af] at hj;subst hj;exact absurd (au hi) hna
     | succ j=>
       simp only [cc] at hj;rw [Pa h.2 i j x hi hj]
def Bt.ren (bt:Bt) (bs ls:List Nat):Bt where
 β:=fun p=>bt.β ⟨ls.getD p.r 0,p.l⟩
 κ:=fun p=>bt.κ ⟨ls.getD p.r 0,p.l⟩
 bb:=fun n=>bt.bb (bs.getD n 0)
 nb:=bs.length
 ng:=ls.length
 A:=bt.A
theorem aez {w:World} {bt:Bt} {bs ls:List Nat} {c:Cl} {u:Value} (h:VR w bt c.av u):VR w (bt.ren bs ls) (O9 bs ls c).av u:=by
 have lt: ∀ {l:List Nat} {x k:Nat},Wn l x 0=some k->k < l.length/\l.getD k 0=x:=by
  intro l x k hk;obtain⟨_,h2⟩:=Tz hk;rw [cK] at h2;exact⟨(aj.1 h2).1,by simp [az,h2]⟩
 cases c with
 | c x=>
   cases x with
   | sc v=>cases h with | sc h=>exact .sc h
   | ls t l=>cases h with | ro h=>exact .ro h
 | em=>cases h with | em a=>exact .em a
 | own p sz lo len wh=>
   simp only [O9];split
   ·rename_i k hk;obtain⟨h1,h2⟩:=lt hk;have hp: (⟨ls.getD k 0,p.l⟩:gt)=p:=by rw [h2]
    have e1: (bt.ren bs ls).κ ⟨k,p.l⟩=bt.κ p:=by
     have e: (bt.ren bs ls).κ ⟨k,p.l⟩=bt.κ (gt.mk (ls.getD k 0) p.l):=rfl;rw [e,hp]
    have e2: (bt.ren bs ls).β ⟨k,p.l⟩=bt.β p:=by
     have e: (bt.ren bs ls).β ⟨k,p.l⟩=bt.β (gt.mk (ls.getD k 0) p.l):=rfl;rw [e,hp]
    cases h with
    | own hp' hc hkk ha=>exact .own h1 hc (by rw [e1]; exact hkk) (by rw [e2]; exact ha)
   ·exact .dead _
 | pro cs=>cases h with | pro cs hs hA hr ht=>exact .pro cs hs hA hr ht
 | ptrB n j=>
   simp only [O9];split
   ·rename_i k hk;obtain⟨h1,h2⟩:=lt hk;cases h with
    | ptrB j hn=>
      have :bt.bb n=(bt.ren bs ls).bb k:=by show bt.bb n=bt.bb (bs.getD k 0); rw [h2]
      rw [this];exact .ptrB j h1
   ·exact .dead _
 | ptrT p sz i j=>
   simp only [O9];split
   ·rename_i k hk;obtain⟨h1,h2⟩:=lt hk;have hp: (⟨ls.getD k 0,p.l⟩:gt)=p:=by rw [h2]
    cases h with
    | ptrT sz i j hp' hkk=>
      have e1:bt.β p=(bt.ren bs ls).β ⟨k,p.l⟩:=by show bt.β p=bt.β ⟨ls.getD k 0,p.l⟩; rw [hp]
      rw [e1];exact .ptrT sz i j h1 (by show _ < bt.κ ⟨ls.getD k 0,p.l⟩; rw [hp]; exact hkk)
   ·exact .dead _
 | dead=>exact .dead _
theorem aoh {w:World} {bt:Bt} {bs ls:List Nat} {v:V1} {u:Value} (h:VR w bt v.av u):VR w (bt.ren bs ls) (aoe bs ls v).av u:=by
 have cells: ∀ (cs:List Cl) (us:List Value),us.length=cs.length->(∀ (k:Nat) (c:AV) (u:Value),(cs.map Cl.av)[k]? =some c->us[k]? =some u->VR w bt c u)-> ∀ (k:Nat) (c:AV) (u:Value),((cs.map (O9 bs ls)).map Cl.av)[k]? =some c->us[k]? =some u->VR w (bt.ren bs ls) c u:=by
  intro cs us _ hr k c u hk hu;rw [ar,ar] at hk;simp only [ap] at hk;obtain⟨c1,⟨c0,hc0,rfl⟩,rfl⟩:=hk;exact aez (hr k c0.av u (by rw [ar,hc0]; rfl) hu)
 cases v with
 | cl c=>exact aez h
 | agg cs=>
   simp only [V1.av] at h;cases h with
   | agg hl ho hr=>
     exact .agg (by simpa using hl) ho (cells cs _ (by simpa using hl) hr)
 | fn f cs=>
   simp only [V1.av] at h;cases h with
   | fn f hl hr=>
     exact .fn f (by simpa using hl) (cells cs _ (by simpa using hl) hr)
theorem ap5 {w:World} {bt:Bt} {bs ls:List Nat} {v:V} {u:Value} (h:VR w bt v.av u):VR w (bt.ren bs ls) (aof bs ls v).av u:=by
 cases v with
 | v x=>exact aoh h
 | tup l=>exact .dead _
theorem adx (S:TS) (f:V->V): ∀ (keep:List Nat) (t:Nat),p7 (keep.map fun t=>(t,f (p7 S.env t))) t=V.dead\/p7 (keep.map fun t=>(t,f (p7 S.env t))) t=f (p7 S.env t)
 | [],t=> .inl rfl
 | u::l,t=>by
   simp only [aX,p7];cases hb:Nat.beq u t with
   | true=>rw [ay hb]; exact .inr rfl
   | false=>exact adx S f l t
theorem M1 (S:TS) (keep bs ls:List Nat) (r:Nat):jZ (p8 S keep bs ls).gh r=(ls[r]?).bind fun q=>jZ S.gh q:=by
 show (C1 (ls.map fun r=>jZ S.gh r) r).getD none=_;rw [kR,ar];cases ls[r]? <;> rfl
theorem ahz {S:TS} {keep bs ls:List Nat} (h:aey S bs ls=true):C9 S.st (p8 S keep bs ls).st:=by
 unfold aey at h;simp only [ax] at h;obtain⟨⟨⟨⟨hnb,hnl⟩,hbs⟩,hfz⟩,hlt⟩:=h;have hfz:=aet hfz;intro w0 W btI SI bt a w hl;have inv:=hl.inv
 have hls: ∀ (k:Nat),k < S.fz->ls[k]? =some k:=by
  intro k hk;have : (ls.take S.fz)[k]? =(List.range S.fz)[k]? :=by rw [hfz]
  rw [bf,if_pos hk,List.getElem?_range hk] at this;exact this
 have look: ∀ p s rs,(p8 S keep bs ls).st.look p= .sl s rs-> ∃ q,ls[p.r]? =some q/\S.st.look ⟨q,p.l⟩= .sl s rs/\ls.getD p.r 0=q:=by
  intro p s rs hp;unfold St.look at hp
  have e: (p8 S keep bs ls).st.gh p.r=((ls[p.r]?).bind fun q=>jZ S.gh q).map gK.tree:=by
   show (jZ _ _).map gK.tree=_;rw [M1]
  rw [e] at hp;cases hq:ls[p.r]? with
  | none=>rw [hq] at hp; cases hp
  | some q=>
    refine⟨q,rfl,?_,by simp [az,hq]⟩;rw [hq] at hp;exact hp
 have box: ∀ n cells,(p8 S keep bs ls).st.bx n=some cells-> ∃ b cs,bs[n]? =some b/\S.bx[b]? =some cs/\cells=(cs.map (O9 bs ls)).map Cl.av/\bs.getD n 0=b:=by
  intro n cells hn;have hn': (C1 (bs.map fun b=>((C1 S.bx b).getD []).map (O9 bs ls)) n).map (fun cs=>cs.map Cl.av)=some cells:=hn;rw [kR,ar] at hn';simp only [ap] at hn';obtain⟨x,⟨b,hb,rfl⟩,rfl⟩:=hn';have hlt':b < S.bx.length:=aF (aG.1 hbs b (au hb));refine⟨b,S.bx[b],hb,ai hlt',?_,by simp [az,hb]⟩;rw [kR,ai hlt'];rfl
 have bxS: ∀ {b:Nat} {cs:List Cl},S.bx[b]? =some cs->S.st.bx b=some (cs.map Cl.av):=by
  intro b cs hb;show (C1 S.bx b).map _=_;rw [kR,hb];rfl
 refine⟨bt.ren bs ls,?_⟩
 refine⟨{ os:=inv.os,tape:=inv.tape,output:=inv.output,size:=inv.size,keep:=inv.keep
          nb:=by show bs.length=_; simp [TS.st,p8]
          ng:=by show ls.length=_; simp [TS.st,p8]
          bx:=fun n cells hn=> ?_
          gh:=fun r t hr=> ?_
          tr:=fun p sz rows hp=> ?_
          inj:=fun p q s rs s' rs' hp hq hk hk' he=> ?_
          bbinj:=fun n m cs cs' hn hm he=> ?_
          bbtr:=fun n cs p s rs hn hp hk=> ?_
          alt:=inv.alt
          atr:=fun p s rs hp hk=> ?_
          abb:=fun n cs hn=> ?_ },⟨hl.er.1,fun t=> ?_⟩,hl.defers,hl.fz,?_,fun p hp=> ?_,fun r hr hn=> ?_⟩
 ·obtain⟨b,cs,h1,h2,rfl,h4⟩:=box n cells hn;obtain⟨g1,g2,arr,e,g3,g4,g5⟩:=inv.bx b _ (bxS h2);refine⟨by show n < _; have:=(aj.1 h1).1; simpa [TS.st,p8] using this,by show _<=bt.bb (bs.getD n 0); rw [h4]; exact g2,arr,e,by show w.heap[bt.bb (bs.getD n 0)]? =_; rw [h4]; exact g3,by simpa using g4,fun j v hj=> ?_⟩;rw [ar,ar] at hj;simp only [ap] at hj;obtain⟨c1,⟨c0,hc0,rfl⟩,rfl⟩:=hj;obtain⟨c,k1,k2,k3⟩:=g5 j c0.av (by rw [ar,hc0]; rfl);exact⟨c,k1,aez k2,k3⟩
 ·have hr': (jZ (p8 S keep bs ls).gh r).map gK.tree=some t:=hr;rw [M1] at hr';show r < _;cases hq:ls[r]? with
  | none=>rw [hq] at hr'; cases hr'
  | some q=>
    have:=(aj.1 hq).1;simpa [TS.st,p8] using this
 ·obtain⟨q,h1,h2,h3⟩:=look p sz rows hp;obtain⟨g1,g2⟩:=inv.tr _ _ _ h2;have eκ: (bt.ren bs ls).κ p=bt.κ ⟨q,p.l⟩:=by show bt.κ ⟨ls.getD p.r 0,p.l⟩=_; rw [h3]
  have eβ: (bt.ren bs ls).β p=bt.β ⟨q,p.l⟩:=by show bt.β ⟨ls.getD p.r 0,p.l⟩=_; rw [h3]
  rw [eκ,eβ];refine⟨g1,fun hk=>⟨(g2 hk).1,?_⟩⟩;obtain⟨_,cs,e,k1,k2,k3,k4⟩:=g2 hk;refine⟨cs,e,by rw [eβ]; exact k1,by rw [eκ]; exact k2,k3,fun i r hi=> ?_⟩;obtain⟨m1,m2⟩:=k4 i r hi;refine⟨m1,fun j x hj=> ?_⟩;obtain⟨c,n1,n2⟩:=m2 j x hj;refine⟨c,n1,?_⟩;have f1: (bt.ren bs ls).κ (p.sub i j)=bt.κ (gt.sub ⟨q,p.l⟩ i j):=by show bt.κ ⟨ls.getD p.r 0,p.l++ [(i,j)]⟩=bt.κ ⟨q,p.l++ [(i,j)]⟩; rw [h3]
  have f2: (bt.ren bs ls).β (p.sub i j)=bt.β (gt.sub ⟨q,p.l⟩ i j):=by show bt.β ⟨ls.getD p.r 0,p.l++ [(i,j)]⟩=bt.β ⟨q,p.l++ [(i,j)]⟩; rw [h3]
  cases n2 with
  | sc h=>exact .sc h
  | dd u=>exact .dd _
  | sl q1 q2 q3=>exact .sl q1 (by rw [f1]; exact q2) (by rw [f2]; exact q3)
 ·obtain⟨p',h1,h2,h3⟩:=look p s rs hp;obtain⟨q',g1,g2,g3⟩:=look q s' rs' hq;have:=inv.inj ⟨p',p.l⟩ ⟨q',q.l⟩ _ _ _ _ h2 g2 (by rw [<-h3]; exact hk) (by rw [<-g3]; exact hk') (by rw [<-h3,<-g3]; exact he);simp only [gt.mk.injEq] at this;obtain⟨e1,e2⟩:=this;subst e1;have e3:=Pa hnl _ _ _ h1 g1;cases p; cases q;simp only at e3 e2;rw [e3,e2]
 ·obtain⟨b,c,h1,h2,_,h4⟩:=box n cs hn;obtain⟨b',c',g1,g2,_,g4⟩:=box m cs' hm
  have:=inv.bbinj b b' _ _ (bxS h2) (bxS g2) (by
   have he':bt.bb (bs.getD n 0)=bt.bb (bs.getD m 0):=he;rw [h4,g4] at he';exact he')
  subst this;exact Pa hnb _ _ _ h1 g1
 ·obtain⟨b,c,h1,h2,_,h4⟩:=box n cs hn;obtain⟨q,g1,g2,g3⟩:=look p s rs hp;have hk':0 < bt.κ ⟨ls.getD p.r 0,p.l⟩:=hk;rw [g3] at hk';show bt.bb (bs.getD n 0)≠bt.β ⟨ls.getD p.r 0,p.l⟩;rw [h4,g3];exact inv.bbtr _ _ _ _ _ (bxS h2) g2 hk'
 ·obtain⟨q,g1,g2,g3⟩:=look p s rs hp;have hk':0 < bt.κ ⟨ls.getD p.r 0,p.l⟩:=hk;rw [g3] at hk';show ¬ bt.A (bt.β ⟨ls.getD p.r 0,p.l⟩);rw [g3];exact inv.atr _ _ _ g2 hk'
 ·obtain⟨b,c,h1,h2,_,h4⟩:=box n cs hn;show ¬ bt.A (bt.bb (bs.getD n 0));rw [h4];exact inv.abb _ _ (bxS h2)
 ·show VR w _ (p7 (p8 S keep bs ls).env t).av _;rcases adx S (aof bs ls) keep t with h1 | h1
  ·have :p7 (p8 S keep bs ls).env t=V.dead:=h1;rw [this];exact .dead _
  ·have :p7 (p8 S keep bs ls).env t=aof bs ls (p7 S.env t):=h1;rw [this];exact ap5 (hl.er.2 t)
 ·show S.fz<=(p8 S keep bs ls).gh.length;rcases bn S.fz with h0 | h0
  ·omega
  ·have:=(aj.1 (hls (S.fz - 1) (by omega))).1;simp [p8];omega
 ·have hp':p.r < S.fz:=by have:=hl.fz; have e:S.st.fz=S.fz:=rfl; omega
  have h3:ls.getD p.r 0=p.r:=by simp [az,hls p.r hp']
  have:=hl.keep p hp;show bt.β ⟨ls.getD p.r 0,p.l⟩=_/\bt.κ ⟨ls.getD p.r 0,p.l⟩=_;rw [h3];exact this
 ·have hr':r < S.fz:=by have:=hl.fz; have e:S.st.fz=S.fz:=rfl; omega
  refine hl.gone r hr ?_;have hn': (jZ (p8 S keep bs ls).gh r).map gK.tree=none:=hn;rw [M1,hls r hr'] at hn';exact hn'
theorem X3 {S:TS} {bs ls:List Nat} {keep:List Nat} {c:Cl} (h:c.ok S.gh): (O9 bs ls c).ok (p8 S keep bs ls).gh:=by
 have lt: ∀ {x k:Nat},Wn ls x 0=some k->k < (p8 S keep bs ls).gh.length/\ls[k]? =some x:=by
  intro x k hk;obtain⟨_,h2⟩:=Tz hk;rw [cK] at h2;exact⟨by have:=(aj.1 h2).1; simpa [p8] using this,h2⟩
 cases c with
 | own p sz lo len w=>
   simp only [O9];split
   ·rename_i k hk;obtain⟨h1,h2⟩:=lt hk;refine⟨h1,fun hw=> ?_⟩;obtain⟨a,b,c⟩:=h.2 hw;refine⟨a,b,fun tr htr=>c tr ?_⟩;rw [M1,h2] at htr;exact htr
   ·trivial
 | ptrT p sz i j=>
   simp only [O9];split
   ·rename_i k hk; exact (lt hk).1
   ·trivial
 | ptrB n j=>simp only [O9]; split <;> trivial
 | _=>trivial
theorem ap6 {S:TS} {bs ls:List Nat} {keep:List Nat} {v:V} (h:v.ok S.gh): (aof bs ls v).ok (p8 S keep bs ls).gh:=by
 have one: ∀ {v:V1},v.ok S.gh->(aoe bs ls v).ok (p8 S keep bs ls).gh:=by
  intro v h;cases v with
  | cl c=>exact X3 h
  | agg cs=>intro c hc; obtain⟨x,hx,rfl⟩:=aQ.1 hc; exact X3 (h x hx)
  | fn f cs=>intro c hc; obtain⟨x,hx,rfl⟩:=aQ.1 hc; exact X3 (h x hx)
 cases v with
 | v x=>exact one h
 | tup l=>trivial
theorem ady {S:TS} (hS:S.ok) (keep bs ls:List Nat): (p8 S keep bs ls).ok:=by
 refine⟨fun x hx=> ?_,fun cs hcs c hc=> ?_⟩
 ·obtain⟨t,_,rfl⟩:=aQ.1 hx;exact ap6 (X0 hS t)
 ·obtain⟨b,_,rfl⟩:=aQ.1 hcs;obtain⟨x,hx,rfl⟩:=aQ.1 hc;cases hb:C1 S.bx b with
  | none=>rw [hb] at hx; cases hx
  | some cs=>
    rw [hb] at hx;rw [kR] at hb;exact X3 (hS.bx cs (au hb) x hx)
theorem X4 {G:List (Option gK)} {c:Cl} (h:c.ok G):al9 G c=c:=by
 unfold al9;split
 ·rename_i p sz lo len;split
  ·rename_i tr htr;rw [(h.2 rfl).2.2 tr (by unfold jZ; rw [htr]; rfl)]
  ·rfl
 ·rfl
theorem ahA {G:List (Option gK)} {v:V1} (h:v.ok G):aog G v=v:=by
 cases v with
 | cl c=>exact congrArg V1.cl (X4 h)
 | agg cs=>exact congrArg V1.agg ((aO fun c hc=>X4 (h c hc)).trans (List.map_id' cs))
 | fn f cs=>exact congrArg (V1.fn f) ((aO fun c hc=>X4 (h c hc)).trans (List.map_id' cs))
theorem ap7 {G:List (Option gK)} {v:V} (h:v.ok G):ase G v=v:=by
 cases v with
 | v x=>exact congrArg V.v (ahA h)
 | tup l=>exact congrArg V.tup ((aO fun c hc=>ahA (h c hc)).trans (List.map_id' l))
theorem ap8 {S:TS} (h:S.ok):arf S=S:=by
 unfold arf;rw [aO (g:=id) (fun x hx=>by rw [ap7 (h.env x hx)]; rfl),aO (g:=id) (l:=S.bx) (fun cs hcs=>(aO fun c hc=>X4 (h.bx cs hcs c hc)).trans (List.map_id' cs)),List.map_id,List.map_id]
theorem H1 {ρ:Type} {S:TS} (hS:S.ok) {keep:List Nat} {κ:TS->Option ρ} {r:ρ} (h:Tx keep S κ=some r): ∃ S1:TS,C9 S.st S1.st/\S1.ok/\κ S1=some r:=by
 unfold Tx at h;obtain⟨h1,h⟩:=eE h;rw [ap8 (ady hS _ _ _)] at h;exact⟨_,ahz h1,ady hS _ _ _,h⟩
end
section
open Go
inductive Sh where
 | int (k:IntKind) | bl | str | ro (t:Ty) | own (r:Nat) (t:Ty) | ptr (n j:Nat) | em | dead | pro (t:Ty) | fc (g:Nat) | sub (r:Nat) (t:Ty)
abbrev Sh.D:Sh->Type
 | .int _=>Int | .bl=>Bool | .str=>ByteArray | .ro t=>List t.D | .pro t=>t.D | .sub _ _=>Nat×Nat | _=>Unit
abbrev M2.D:List Sh->Type
 | [] =>Unit
 | s::l=>s.D×M2.D l
inductive S6 where
 | cl (s:Sh) | agg (l:List Sh) | st (n:Sn) | fn (f:FuncId) (l:List Sh)
abbrev S6.D:S6->Type
 | .cl s=>s.D | .agg l=>M2.D l | .st n=>n.D | .fn _ l=>M2.D l
abbrev Env.D:List (Nat×S6)->Type
 | [] =>Unit
 | x::l=>x.2.D×Env.D l
abbrev Bxs.D:List (List Sh)->Type
 | [] =>Unit
 | x::l=>M2.D x×Bxs.D l
abbrev Hx.D:List Ty->Type
 | [] =>Unit
 | t::l=>List t.D×Hx.D l
structure it where
 env:List (Nat×S6)
 bx:List (List Sh)
 gh:List Ty
 fz:Nat
 nt:Nat
abbrev it.D (L:it):Type:=Env.D L.env×Bxs.D L.bx×Hx.D L.gh
def arh (G:List (Option gK)) (r:Nat):Nat:=match C1 G r with | some (some tr)=>tr.l.length | _=>0
def Sh.mk (G:List (Option gK)): (s:Sh)->s.D->Cl
 | .int k,n=> .c (.sc (.int k n)) | .bl,v=> .c (.sc (.bool v)) | .str,v=> .c (.sc (.string v)) | .ro t,l=> .c (.ls t l)
 | .own r t,_=> .own ⟨r,[]⟩ t.width 0 (arh G r) true | .ptr n j,_=> .ptrB n j | .em,_=> .em | .dead,_=> .dead | .pro t,x=> .pro (t.flat x) | .fc g,_=> .c (.sc (.func (.func g) #[] #[])) | .sub r t,x=> .own ⟨r,[]⟩ t.width x.1 x.2 false
def M2.mk (G:List (Option gK)): (l:List Sh)->M2.D l->List Cl
 | [],_=> []
 | s::l,x=>s.mk G x.1::M2.mk G l x.2
def S6.mk (G:List (Option gK)): (v:S6)->v.D->V
 | .cl s,x=> .v (.cl (s.mk G x)) | .agg l,x=> .v (.agg (M2.mk G l x)) | .st n,x=> .v (.agg ((n.flat x).map .c)) | .fn f l,x=> .v (.fn f (M2.mk G l x))
def Env.mk (G:List (Option gK)): (l:List (Nat×S6))->Env.D l->List (Nat×V)
 | [],_=> []
 | x::l,d=>(x.1,x.2.mk G d.1)::Env.mk G l d.2
def Bxs.mk (G:List (Option gK)): (l:List (List Sh))->Bxs.D l->List (List Cl)
 | [],_=> []
 | x::l,d=>M2.mk G x d.1::Bxs.mk G l d.2
def Hx.mk: (l:List Ty)->Hx.D l->List (Option gK)
 | [],_=> []
 | t::l,d=>some ⟨t,d.1,none⟩::Hx.mk l d.2
def it.mk' (L:it) (d:L.D):TS:= { env:=Env.mk (Hx.mk L.gh d.2.2) L.env d.1,bx:=Bxs.mk (Hx.mk L.gh d.2.2) L.bx d.2.1,gh:=Hx.mk L.gh d.2.2,fz:=L.fz,nt:=L.nt }
section
variable {ρ:Type}
def Sh.un: (s:Sh)->Cl->(s.D->Option ρ)->Option ρ
 | .int k, .c (.sc (.int k' n)),κ=>bif decide (k'=k) then κ n else none
 | .bl, .c (.sc (.bool v)),κ=>κ v
 | .str, .c (.sc (.string v)),κ=>κ v
 | .ro t, .c (.ls t' l),κ=>match K5 t' t l with | some l=>κ l | none=>none
 | .own r t, .own p sz _ _ w,κ=>match p.l with | [] =>(bif w&&Nat.beq p.r r&&Nat.beq sz t.width then κ () else none) | _=>none
 | .ptr n i, .ptrB m j,κ=>bif Nat.beq m n&&Nat.beq j i then κ () else none
 | .em, .em,κ=>κ ()
 | .dead, .dead,κ=>κ ()
 | .pro t, .pro xs,κ=>(match t.unflat xs with | some x=>κ x | none=>none)
 | .fc g, .c (.sc (.func (.func g') cs ts)),κ=>bif Nat.beq g' g&&Nat.beq cs.size 0&&Nat.beq ts.size 0 then κ () else none
 | .sub r t, .own p sz lo len w,κ=>match p.l with | [] =>(bif !w&&Nat.beq p.r r&&Nat.beq sz t.width then κ (lo,len) else none) | _=>none
 | _,_,_=>none
def M2.un: (l:List Sh)->List Cl->(M2.D l->Option ρ)->Option ρ
 | [],[],κ=>κ ()
 | s::l,c::cs,κ=>s.un c fun x=>M2.un l cs fun y=>κ (x,y)
 | _,_,_=>none
def S6.un: (v:S6)->V->(v.D->Option ρ)->Option ρ
 | .cl s, .v (.cl c),κ=>s.un c κ
 | .agg l, .v (.agg cs),κ=>M2.un l cs κ
 | .st n, .v (.agg cs),κ=>match aer cs with | some xs=>(match n.unflat xs with | some x=>κ x | none=>none) | none=>none
 | .fn f l, .v (.fn g cs),κ=>bif Nat.beq f g then M2.un l cs κ else none
 | _,_,_=>none
def Env.un: (l:List (Nat×S6))->List (Nat×V)->(Env.D l->Option ρ)->Option ρ
 | [],[],κ=>κ ()
 | x::l,y::m,κ=>bif Nat.beq x.1 y.1 then x.2.un y.2 fun a=>Env.un l m fun b=>κ (a,b) else none
 | _,_,_=>none
def Bxs.un: (l:List (List Sh))->List (List Cl)->(Bxs.D l->Option ρ)->Option ρ
 | [],[],κ=>κ ()
 | x::l,y::m,κ=>M2.un x y fun a=>Bxs.un l m fun b=>κ (a,b)
 | _,_,_=>none
def Hx.un: (l:List Ty)->List (Option gK)->(Hx.D l->Option ρ)->Option ρ
 | [],[],κ=>κ ()
 | t::l,some tr::m,κ=>match tr.hole with
   | none=>(match K5 tr.t t tr.l with | some a=>Hx.un l m fun b=>κ (a,b) | none=>none)
   | some _=>none
 | _,_,_=>none
def it.un (L:it) (S:TS) (κ:L.D->Option ρ):Option ρ:=Hx.un L.gh S.gh fun g=>Env.un L.env S.env fun e=>Bxs.un L.bx S.bx fun b=>bif Nat.beq S.fz L.fz&&Nat.beq S.nt L.nt then κ (e,b,g) else none
theorem Sh.un_some {G:List (Option gK)} (hG: ∀ r,r < G.length-> ∃ tr,C1 G r=some (some tr)): ∀ {s:Sh} {c:Cl} {κ:s.D->Option ρ} {r:ρ},c.ok G->s.un c κ=some r-> ∃ x,c=s.mk G x/\κ x=some r:=by
 intro s c κ r hc h;cases s with
 | int k=>
   cases c with
   | c y=>cases y with
     | sc v=>cases v with
       | int k' n=>
         simp only [Sh.un] at h;obtain⟨h1,h⟩:=eE h;have:=of_decide_eq_true h1;subst this;exact⟨n,rfl,h⟩
       | _=>simp [Sh.un] at h
     | ls t l=>simp [Sh.un] at h
   | _=>simp [Sh.un] at h
 | bl=>
   cases c with
   | c y=>cases y with
     | sc v=>cases v with
       | bool v=>exact⟨v,rfl,h⟩
       | _=>simp [Sh.un] at h
     | ls t l=>simp [Sh.un] at h
   | _=>simp [Sh.un] at h
 | str=>
   cases c with
   | c y=>cases y with
     | sc v=>cases v with
       | string v=>exact⟨v,rfl,h⟩
       | _=>simp [Sh.un] at h
     | ls t l=>simp [Sh.un] at h
   | _=>simp [Sh.un] at h
 | ro t=>
   cases c with
   | c y=>cases y with
     | sc v=>simp [Sh.un] at h
     | ls t' l=>
       simp only [Sh.un] at h;split at h
       ·rename_i l' hl;obtain⟨e,hl⟩:=nF hl;subst e;simp only at hl;subst hl;exact⟨l,rfl,h⟩
       ·cases h
   | _=>simp [Sh.un] at h
 | own q t=>
   cases c with
   | own p sz lo len w=>
     obtain⟨pr,pl⟩:=p;cases pl with
     | cons a l=>simp [Sh.un] at h
     | nil=>
       simp only [Sh.un] at h;obtain⟨h1,h'⟩:=eE h;clear h;simp only [ax] at h1;obtain⟨⟨h0,h2⟩,h3⟩:=h1;have h2:pr=q:=ay h2;have h3:sz=t.width:=ay h3;subst h0 h2 h3;obtain⟨k1,k2⟩:=hc;obtain⟨_,k3,k4⟩:=k2 rfl;obtain⟨tr,htr⟩:=hG _ k1;have k5:=k4 tr (gK.look htr);refine⟨(),?_,h'⟩;simp only [Sh.mk,arh,k3,k5,htr]
   | c y=>cases y <;> simp [Sh.un] at h
   | _=>simp [Sh.un] at h
 | sub q t=>
   cases c with
   | own p sz lo len w=>
     obtain⟨pr,pl⟩:=p;cases pl with
     | cons a l=>simp [Sh.un] at h
     | nil=>
       simp only [Sh.un] at h;obtain⟨h1,h'⟩:=eE h;clear h;simp only [ax,ca] at h1;obtain⟨⟨h0,h2⟩,h3⟩:=h1;have h2:pr=q:=ay h2;have h3:sz=t.width:=ay h3;subst h0 h2 h3;exact⟨(lo,len),rfl,h'⟩
   | c y=>cases y <;> simp [Sh.un] at h
   | _=>simp [Sh.un] at h
 | ptr n i=>
   cases c with
   | ptrB m j=>
     simp only [Sh.un] at h;obtain⟨h1,h'⟩:=eE h;clear h;simp only [ax] at h1;have h2:=ay h1.1;have h3:=ay h1.2;subst h2 h3;exact⟨(),rfl,h'⟩
   | c y=>cases y <;> simp [Sh.un] at h
   | _=>simp [Sh.un] at h
 | em=>
   cases c with
   | em=>exact⟨(),rfl,h⟩
   | c y=>cases y <;> simp [Sh.un] at h
   | _=>simp [Sh.un] at h
 | dead=>
   cases c with
   | dead=>exact⟨(),rfl,h⟩
   | c y=>cases y <;> simp [Sh.un] at h
   | _=>simp [Sh.un] at h
 | pro t=>
   cases c with
   | pro xs=>
     simp only [Sh.un] at h;split at h
     ·rename_i x hx;exact⟨x,by simp only [Sh.mk]; rw [t.unflat_some _ _ hx],h⟩
     ·cases h
   | c y=>cases y <;> simp [Sh.un] at h
   | _=>simp [Sh.un] at h
 | fc g=>
   unfold Sh.un at h;split at h
   all_goals first | (rename_i hh; cases hh; done) | skip
   all_goals try (rename_i hh _; cases hh; done)
   ·rename_i e;cases e;obtain⟨h1,h'⟩:=eE h;simp only [ax] at h1;obtain⟨⟨h1,h2⟩,h3⟩:=h1;have h1:=ay h1;have h2:=cF (ay h2);have h3:=cF (ay h3);exact⟨(),by rw [h1,h2,h3]; rfl,h'⟩
   ·cases h
theorem M2.un_some {G:List (Option gK)} (hG: ∀ r,r < G.length-> ∃ tr,C1 G r=some (some tr)): ∀ {l:List Sh} {cs:List Cl} {κ:M2.D l->Option ρ} {r:ρ},(∀ c∈cs,c.ok G)->M2.un l cs κ=some r-> ∃ x,cs=M2.mk G l x/\κ x=some r
 | [],[],κ,r,_,h=>⟨(),rfl,h⟩
 | s::l,c::cs,κ,r,hc,h=>by
   unfold M2.un at h;obtain⟨x,h1,h⟩:=Sh.un_some hG (hc c aN) h;obtain⟨y,h2,h⟩:=M2.un_some hG (fun z hz=>hc z (aI _ hz)) h;exact⟨(x,y),by rw [h1,h2]; rfl,h⟩
 | [],c::cs,κ,r,_,h=>by simp [M2.un] at h
 | s::l,[],κ,r,_,h=>by simp [M2.un] at h
theorem TA: ∀ {cs:List Cl} {xs:List C},aer cs=some xs->cs=xs.map .c
 | [],xs,h=>by simp only [aer,af] at h; subst h; rfl
 | c::cs,xs,h=>by
   cases c with
   | c y=>
     simp only [aer] at h;split at h
     ·rename_i r hr;simp only [af] at h;subst h;rw [TA hr];rfl
     ·cases h
   | _=>simp [aer] at h
theorem S6.un_some {G:List (Option gK)} (hG: ∀ r,r < G.length-> ∃ tr,C1 G r=some (some tr)) {s:S6} {v:V} {κ:s.D->Option ρ} {r:ρ} (hv:v.ok G) (h:s.un v κ=some r): ∃ x,v=s.mk G x/\κ x=some r:=by
 cases v with
 | tup l=>cases s <;> simp [S6.un] at h
 | v y=>
   cases s with
   | cl s=>cases y with
     | cl c=>
       obtain⟨x,h1,h⟩:=Sh.un_some hG hv h;exact⟨x,by rw [h1]; rfl,h⟩
     | _=>simp [S6.un] at h
   | agg l=>cases y with
     | agg cs=>
       obtain⟨x,h1,h⟩:=M2.un_some hG hv h;exact⟨x,by rw [h1]; rfl,h⟩
     | _=>simp [S6.un] at h
   | st n=>cases y with
     | agg cs=>
       simp only [S6.un] at h;split at h
       ·rename_i xs hxs;split at h
        ·rename_i x hx;exact⟨x,by rw [TA hxs]; simp only [S6.mk]; rw [n.unflat_some _ _ hx],h⟩
        ·cases h
       ·cases h
     | _=>simp [S6.un] at h
   | fn f l=>cases y with
     | fn g cs=>
       simp only [S6.un] at h;obtain⟨h0,h'⟩:=eE h;clear h;have h0:=ay h0;subst h0;obtain⟨x,h1,h⟩:=M2.un_some hG hv h';exact⟨x,by rw [h1]; rfl,h⟩
     | _=>simp [S6.un] at h
theorem Env.un_some {G:List (Option gK)} (hG: ∀ r,r < G.length-> ∃ tr,C1 G r=some (some tr)): ∀ {l:List (Nat×S6)} {m:List (Nat×V)} {κ:Env.D l->Option ρ} {r:ρ},(∀ x∈m,x.2.ok G)->Env.un l m κ=some r-> ∃ x,m=Env.mk G l x/\κ x=some r
 | [],[],κ,r,_,h=>⟨(),rfl,h⟩
 | s::l,c::cs,κ,r,hc,h=>by
   unfold Env.un at h;obtain⟨h0,h⟩:=eE h;have h0:=ay h0;obtain⟨x,h1,h⟩:=S6.un_some hG (hc c aN) h;obtain⟨y,h2,h⟩:=Env.un_some hG (fun z hz=>hc z (aI _ hz)) h;refine⟨(x,y),?_,h⟩;rw [h2];obtain⟨c1,c2⟩:=c;simp only at h0 h1;rw [h1,<-h0];rfl
 | [],c::cs,κ,r,_,h=>by simp [Env.un] at h
 | s::l,[],κ,r,_,h=>by simp [Env.un] at h
theorem Bxs.un_some {G:List (Option gK)} (hG: ∀ r,r < G.length-> ∃ tr,C1 G r=some (some tr)): ∀ {l:List (List Sh)} {m:List (List Cl)} {κ:Bxs.D l->Option ρ} {r:ρ},(∀ cs∈m,∀ c∈cs,c.ok G)->Bxs.un l m κ=some r-> ∃ x,m=Bxs.mk G l x/\κ x=some r
 | [],[],κ,r,_,h=>⟨(),rfl,h⟩
 | s::l,c::cs,κ,r,hc,h=>by
   unfold Bxs.un at h;obtain⟨x,h1,h⟩:=M2.un_some hG (hc c aN) h;obtain⟨y,h2,h⟩:=Bxs.un_some hG (fun z hz=>hc z (aI _ hz)) h;exact⟨(x,y),by rw [h1,h2]; rfl,h⟩
 | [],c::cs,κ,r,_,h=>by simp [Bxs.un] at h
 | s::l,[],κ,r,_,h=>by simp [Bxs.un] at h
theorem Hx.un_some: ∀ {l:List Ty} {m:List (Option gK)} {κ:Hx.D l->Option ρ} {r:ρ},Hx.un l m κ=some r-> ∃ x,m=Hx.mk l x/\κ x=some r
 | [],[],κ,r,h=>⟨(),rfl,h⟩
 | t::l,some tr::m,κ,r,h=>by
   unfold Hx.un at h;split at h
   ·rename_i hh;split at h
    ·rename_i a ha;obtain⟨e,hl⟩:=nF ha;obtain⟨y,h2,h⟩:=Hx.un_some h;obtain⟨t',l',hole⟩:=tr;simp only at hh e hl ha;subst hh e;simp only at hl;subst hl;exact⟨(l',y),by rw [h2]; rfl,h⟩
    ·cases h
   ·cases h
 | [],c::cs,κ,r,h=>by simp [Hx.un] at h
 | t::l,[],κ,r,h=>by simp [Hx.un] at h
 | t::l,none::m,κ,r,h=>by simp [Hx.un] at h
theorem Hx.mk_some: ∀ (l:List Ty) (d:Hx.D l) (r:Nat),r < (Hx.mk l d).length-> ∃ tr,C1 (Hx.mk l d) r=some (some tr)
 | [],d,r,h=>by simp [Hx.mk] at h
 | t::l,d,0,h=>⟨_,rfl⟩
 | t::l,d,r+1,h=>by
   obtain⟨tr,htr⟩:=Hx.mk_some l d.2 r (by simpa [Hx.mk] using h);exact⟨tr,htr⟩
theorem it.un_some {L:it} {S:TS} (hS:S.ok) {κ:L.D->Option ρ} {r:ρ} (h:L.un S κ=some r): ∃ d,S=L.mk' d/\κ d=some r:=by
 unfold it.un at h;obtain⟨g,h1,h⟩:=Hx.un_some h;have hG: ∀ r,r < S.gh.length-> ∃ tr,C1 S.gh r=some (some tr):=by rw [h1]; exact Hx.mk_some _ _
 obtain⟨e,h2,h⟩:=Env.un_some hG hS.env h;obtain⟨b,h3,h⟩:=Bxs.un_some hG hS.bx h;obtain⟨h4,h⟩:=eE h;simp only [ax] at h4;have h5:=ay h4.1;have h6:=ay h4.2;refine⟨(e,b,g),?_,h⟩;obtain⟨env,bx,gh,fz,nt⟩:=S;simp only at h1 h2 h3 h5 h6;subst h5 h6;unfold it.mk';simp only;rw [<-h1,<-h2,<-h3]
end
end
section
open Go
def alm (S:TS) (t:Ty):Cl:= .own ⟨S.gh.length,[]⟩ t.width 0 0 true
def aln (n j:Nat) (t:Ty) (S:TS):TS:=match C1 S.bx n with
 | some cs=>(match C1 cs j with
   | some .em=> { S with bx:=jS S.bx n (jS cs j (alm S t)),gh:=S.gh++ [some ⟨t,[],none⟩] }
   | _=>S)
 | none=>S
def alo (x:Nat) (t:Ty) (S:TS):TS:=match p7 S.env x with
 | .v (.cl .em)=> { S with env:=(x, .v (.cl (alm S t)))::S.env,gh:=S.gh++ [some ⟨t,[],none⟩] }
 | _=>S
theorem aqN: ∀ (l:List (Nat×Nat)),T.go .dd l= .dd
 | [] =>rfl
 | (_,_)::l=>aqN l
theorem ari (w:Nat) {l:List (Nat×Nat)} {s:Nat} {rs:List (List T)} (h:T.go (.sl w []) l= .sl s rs):rs= [] :=by
 cases l with
 | nil=>cases h; rfl
 | cons a l=>
   obtain⟨i,j⟩:=a;simp only [T.go,T.cell,List.getD_nil,aqN] at h;cases h
theorem adz {S S':TS} (t:Ty) (henv: ∀ u,(p7 S'.env u).av=(p7 S.env u).av\/((p7 S.env u).av= .em/\(p7 S'.env u).av= .own ⟨S.gh.length,[]⟩ t.width 0 0))
  (hbx: ∀ k cs',S'.st.bx k=some cs'-> ∃ cs,S.st.bx k=some cs/\cs'.length=cs.length/\ ∀ (j:Nat) (v:AV),cs'[j]? =some v->cs[j]? =some v\/(cs[j]? =some .em/\v= .own ⟨S.gh.length,[]⟩ t.width 0 0))
  (hgh:S'.gh=S.gh++ [some ⟨t,[],none⟩]) (hfz:S'.fz=S.fz) (hnt:S'.nt=S.nt) (hbl:S'.bx.length=S.bx.length):C9 S.st S'.st:=by
 intro w0 W btI SI bt a w hl0;have hl:=hl0.widen (N:=S.gh.length+1) (dM _);have inv:=hl.inv;have hng:S'.st.ng=S.gh.length+1:=by show S'.gh.length=_; rw [hgh]; simp
 have ghS: ∀ r,S'.st.gh r=if r=S.gh.length then some (.sl t.width []) else S.st.gh r:=by
  intro r;show (jZ S'.gh r).map gK.tree=_;rw [hgh,wK];split <;> rfl
 have κ0: ∀ l,(bt.widen S.st.ng (S.gh.length+1)).κ ⟨S.gh.length,l⟩=0:=by
  intro l;show (if S.gh.length < S.gh.length then _ else 0)=0;rw [if_neg (dy _)]
 have look: ∀ p s rs,S'.st.look p= .sl s rs->(p.r=S.gh.length/\rs= [] /\(bt.widen S.st.ng (S.gh.length+1)).κ p=0)\/(p.r≠S.gh.length/\S.st.look p= .sl s rs):=by
  intro p s rs hp;unfold St.look at hp;rw [ghS] at hp;by_cases hr:p.r=S.gh.length
  ·rw [if_pos hr] at hp;left;refine⟨hr,ari _ hp,?_⟩;obtain⟨pr,pl⟩:=p;simp only at hr;subst hr;exact κ0 pl
  ·rw [if_neg hr] at hp;exact .inr ⟨hr,hp⟩
 have own0: ∀ {u:Value},VR w (bt.widen S.st.ng (S.gh.length+1)) .em u->VR w (bt.widen S.st.ng (S.gh.length+1)) (.own ⟨S.gh.length,[]⟩ t.width 0 0) u:=by
  intro u hu;cases hu with
  | em ad=>exact .own (cU _) (aE _) (aK _) (fun h=>absurd h (dy _))
 refine⟨bt.widen S.st.ng (S.gh.length+1),?_⟩
 refine⟨{ os:=inv.os,tape:=inv.tape,output:=inv.output,size:=inv.size,keep:=inv.keep
          nb:=by show _=S'.bx.length; rw [hbl]; exact inv.nb
          ng:=by rw [hng]; exact inv.ng
          bx:=fun n cells hn=> ?_
          gh:=fun r x hr=> ?_
          tr:=fun p sz rows hp=> ?_
          inj:=fun p q s rs s' rs' hp hq hk hk' he=> ?_
          bbinj:=fun n m cs cs' hn hm he=> ?_
          bbtr:=fun n cs p s rs hn hp hk=> ?_
          alt:=inv.alt
          atr:=fun p s rs hp hk=> ?_
          abb:=fun n cs hn=> ?_ },⟨?_,fun u=> ?_⟩,hl.defers,?_,?_,hl.keep,fun r hr hn=> ?_⟩
 ·obtain⟨cs,h1,h2,h3⟩:=hbx n cells hn;obtain⟨g1,g2,arr,e,g3,g4,g5⟩:=inv.bx n cs h1;refine⟨by show n < S'.bx.length; rw [hbl]; exact g1,g2,arr,e,g3,by rw [h2]; exact g4,fun j v hj=> ?_⟩;rcases h3 j v hj with h4 | ⟨h4,rfl⟩
  ·exact g5 j v h4
  ·obtain⟨c,k1,k2,k3⟩:=g5 j .em h4;exact⟨c,k1,own0 k2,k3⟩
 ·rw [hng];rw [ghS] at hr;split at hr
  ·omega
  ·have:=inv.gh r x hr;exact this
 ·rcases look p sz rows hp with ⟨h1,rfl,h3⟩ | ⟨h1,h2⟩
  ·exact⟨aK _,fun hk=>by omega⟩
  ·exact inv.tr p sz rows h2
 ·rcases look p s rs hp with ⟨h1,_,h3⟩ | ⟨h1,h2⟩
  ·omega
  ·rcases look q s' rs' hq with ⟨g1,_,g3⟩ | ⟨g1,g2⟩
   ·omega
   ·exact inv.inj _ _ _ _ _ _ h2 g2 hk hk' he
 ·obtain⟨c,h1,_,_⟩:=hbx n cs hn;obtain⟨c',g1,_,_⟩:=hbx m cs' hm;exact inv.bbinj _ _ _ _ h1 g1 he
 ·obtain⟨c,h1,_,_⟩:=hbx n cs hn;rcases look p s rs hp with ⟨_,_,h3⟩ | ⟨_,h2⟩
  ·omega
  ·exact inv.bbtr _ _ _ _ _ h1 h2 hk
 ·rcases look p s rs hp with ⟨_,_,h3⟩ | ⟨_,h2⟩
  ·omega
  ·exact inv.atr _ _ _ h2 hk
 ·obtain⟨c,h1,_,_⟩:=hbx n cs hn;exact inv.abb _ _ h1
 ·have:=hl.er.1;show _=S'.nt;rw [hnt];exact this
 ·have h1:=hl.er.2 u;show VR w _ (p7 S'.env u).av _;rcases henv u with h2 | ⟨h2,h3⟩
  ·rw [h2]; exact h1
  ·rw [h3];have h1':VR w (bt.widen S.st.ng (S.gh.length+1)) (p7 S.env u).av (a.tmps.getD u undef):=h1;rw [h2] at h1';exact own0 h1'
 ·show S'.fz=_;rw [hfz];exact hl.fz
 ·show S'.fz<=S'.gh.length;have:=hl.fzng;have e:S.fz<=S.gh.length+1:=this;have e2:S.st.fz<=S.st.ng:=hl0.fzng;have e3:S.fz<=S.gh.length:=e2;rw [hfz,hgh];simp;omega
 ·refine hl.gone r hr ?_;rw [ghS] at hn;split at hn
  ·cases hn
  ·exact hn
theorem ahB (S:TS) (t:Ty): (alm S t).ok (S.gh++ [some ⟨t,[],none⟩]):=by
 refine⟨by simp,fun _=>⟨rfl,rfl,fun tr htr=> ?_⟩⟩;rw [wK,if_pos rfl] at htr;cases htr;rfl
theorem aoi {S:TS} (hS:S.ok) (x:Nat) (t:Ty):C9 S.st (alo x t S).st/\(alo x t S).ok:=by
 unfold alo;split
 ·rename_i hx;refine⟨adz t (fun u=> ?_) (fun k cs' h=>⟨cs',h,rfl,fun j v hv=> .inl hv⟩) rfl rfl rfl rfl,⟨fun y hy=> ?_,fun cs hcs c hc=>Cl.ok_mono (pm.app _ _) (hS.bx cs hcs c hc)⟩⟩
  ·simp only [p7];cases hb:Nat.beq x u with
   | true=>
     have :x=u:=ay hb;subst this;right;rw [hx];exact⟨rfl,rfl⟩
   | false=>exact .inl rfl
  ·rcases ba.1 hy with rfl | hy
   ·exact ahB S t
   ·exact V.ok_mono (pm.app _ _) (hS.env y hy)
 ·exact⟨C9.refl,hS⟩
theorem aoj {S:TS} (hS:S.ok) (n j:Nat) (t:Ty):C9 S.st (aln n j t S).st/\(aln n j t S).ok:=by
 unfold aln;split
 ·rename_i cs hcs;split
  ·rename_i hj;rw [kR] at hcs hj;have hn:=(aj.1 hcs).1;refine⟨adz t (fun u=> .inl rfl) (fun k cs' h=> ?_) rfl rfl rfl (by simp [nD]),⟨fun y hy=>V.ok_mono (pm.app _ _) (hS.env y hy),fun cs' hcs' c hc=> ?_⟩⟩
   ·have h': (C1 (jS S.bx n (jS cs j (alm S t))) k).map (fun cs=>cs.map Cl.av)=some cs':=h;rw [kR,nD,nD,bK] at h';by_cases hk:n=k
    ·subst hk;rw [if_pos rfl,if_pos hn] at h';simp only [aH,af] at h';subst h';refine⟨cs.map Cl.av,by show (C1 S.bx n).map _=_; rw [kR,hcs]; rfl,by simp,fun i v hv=> ?_⟩;rw [ar,bK] at hv;by_cases hi:j=i
     ·subst hi;rw [if_pos rfl,if_pos (aj.1 hj).1] at hv;right;rw [ar,hj];simp only [aH,af] at hv;exact⟨rfl,hv.symm⟩
     ·rw [if_neg hi] at hv;left;rw [ar];exact hv
    ·rw [if_neg hk] at h';exact⟨cs',by show (C1 S.bx k).map _=_; rw [kR]; exact h',rfl,fun i v hv=> .inl hv⟩
   ·simp only [nD] at hcs';rcases cS hcs' with h1 | h1
    ·exact Cl.ok_mono (pm.app _ _) (hS.bx _ h1 c hc)
    ·subst h1;rcases cS hc with h2 | h2
     ·exact Cl.ok_mono (pm.app _ _) (hS.bx _ (au hcs) c h2)
     ·subst h2;exact ahB S t
  ·exact⟨C9.refl,hS⟩
 ·exact⟨C9.refl,hS⟩
theorem dZ {α β:Type} (b:Bool) (x y:Option α) (f:α->Option β): (br b x y).bind f=br b (x.bind f) (y.bind f):=by cases b <;> rfl
theorem ea {α β:Type} (c:Prop) [Decidable c] (x y:Option α) (f:α->Option β): (eg c x y).bind f=eg c (x.bind f) (y.bind f):=by unfold eg; split <;> rfl
inductive ama where
 | t (x:Nat) (t:Ty)
 | b (n j:Nat) (t:Ty)
def M3:List ama->TS->TS
 | [],S=>S
 | .t x t::l,S=>M3 l (alo x t S)
 | .b n j t::l,S=>M3 l (aln n j t S)
theorem Pb: ∀ (l:List ama) {S:TS},S.ok->C9 S.st (M3 l S).st/\(M3 l S).ok
 | [],S,hS=>⟨C9.refl,hS⟩
 | .t x t::l,S,hS=>by
   obtain⟨h1,h2⟩:=aoi hS x t;obtain⟨h3,h4⟩:=Pb l h2;exact⟨h1.trans h3,h4⟩
 | .b n j t::l,S,hS=>by
   obtain⟨h1,h2⟩:=aoj hS n j t;obtain⟨h3,h4⟩:=Pb l h2;exact⟨h1.trans h3,h4⟩
section
variable {P:Program} {Θ:Du} {Y:Tj} {Λ:FZ}
def fM {ρ:Type} (keepN keepX:List Nat) (κ:X->TS->Option ρ) (x:X) (S:TS):Option ρ:=match x with
 | .nor=>Tx keepN S (κ .nor)
 | x=>Tx keepX S (κ x)
def aok {σ ε:Type} (G:σ->Option ε) (μ:σ->Nat) (s:σ) (e:ε):Option (σ⊕ε)->Prop
 | some (.inl s')=>μ s' < μ s/\G s'=some e
 | some (.inr e')=>e'=e
 | none=>False
theorem ap9 (hΘ:mu P Θ) (hY:ef P Y) (hm:P.follows .mixedOrders=true) {c:Code} (hc:yW P c=true) (hL:nZ P Λ (nE c)) {σ ε:Type} {H:σ->TS} {E:ε->X×TS} {B:σ->Option (σ⊕ε)} {keepN keepX:List Nat}
  (hH: ∀ s,(H s).ok) (hstep: ∀ s,iz Θ Y Λ c (H s) (fM keepN keepX fun x S=>some (x,S))=(B s).bind (Sum.elim (fun s'=>some (.nor,H s')) fun e=>some (E e)))
  (hE: ∀ e,(E e).1≠ .nor) {G:σ->Option ε} {μ:σ->Nat} (hG: ∀ s e,G s=some e->aok G μ s e (B s))
  {s:σ} {e:ε} (hs:G s=some e):FE P (.loop c) (H s).st (fun x S'=>x=(E e).1/\S'=(E e).2.st):=by
 refine FE.loop (fun n X=> ∃ s,X=(H s).st/\G s=some e/\μ s=n) (fun n X hX=> ?_) (n:=μ s) ⟨s,rfl,hs,rfl⟩;obtain⟨s,rfl,hs,rfl⟩:=hX;have hg:=hG s e hs;have hst:=hstep s;cases hB:B s with
 | none=>rw [hB] at hg; exact hg.elim
 | some l=>
   rw [hB] at hg hst;cases l with
   | inl s'=>
     simp only [ae,aA] at hst;refine (X2 hΘ hY hm c _ _ _ hc hL (hH s) hst).mono (fun x S' hx=> ?_);obtain⟨S1,rfl,h1,h2⟩:=hx
     have fC: ∃ S2:TS,C9 S1.st S2.st/\x= .nor/\S2=H s':=by
      unfold fM at h2;split at h2
      ·obtain⟨S2,k1,_,k2⟩:=H1 h1 h2;simp only [af,aq] at k2;exact⟨S2,k1,rfl,k2.2⟩
      ·obtain⟨S2,k1,_,k2⟩:=H1 h1 h2;simp only [af,aq] at k2;exact⟨S2,k1,k2.1,k2.2⟩
     obtain⟨S2,k1,rfl,rfl⟩:=fC;exact⟨_,k1,μ s',hg.1,s',rfl,hg.2,rfl⟩
   | inr e'=>
     simp only [ae,aB] at hst;have hg:e'=e:=hg;subst hg;refine (X2 hΘ hY hm c _ _ _ hc hL (hH s) hst).mono (fun x S' hx=> ?_);obtain⟨S1,rfl,h1,h2⟩:=hx
     have fC: ∃ S2:TS,C9 S1.st S2.st/\(x,S2)=E e':=by
      unfold fM at h2;split at h2
      ·obtain⟨S2,k1,_,k2⟩:=H1 h1 h2;exact⟨S2,k1,Option.some.inj k2⟩
      ·obtain⟨S2,k1,_,k2⟩:=H1 h1 h2;exact⟨S2,k1,Option.some.inj k2⟩
     obtain⟨S2,k1,k2⟩:=fC;refine⟨S2.st,k1,?_⟩;have hx:x=(E e').1:=congrArg Prod.fst k2;have hS2:S2=(E e').2:=congrArg Prod.snd k2;have hne:=hE e';rw [<-hx] at hne;cases x with
     | nor=>exact absurd rfl hne
     | ret=>exact⟨hx,by rw [hS2]⟩
     | ext i=>exact⟨hx,by rw [hS2]⟩
def aol (grow:List ama) (keep:List Nat) (L:it) {ε:Type} (E:ε->X×TS) (G:L.D->Option ε):TS->(ρ:Type)->(X->TS->Option ρ)->Option ρ:=
 fun S _ κ=>Tx keep (M3 grow S) fun S1=>L.un S1 fun s=>(G s).bind fun e=>κ (E e).1 (E e).2
theorem aom {c:Code} {grow:List ama} {keep:List Nat} {L:it} {ε:Type} {E:ε->X×TS} {G:L.D->Option ε} (hE: ∀ e,(E e).2.ok)
  (h: ∀ s e,G s=some e->FE P (.loop c) (L.mk' s).st (fun x S'=>x=(E e).1/\S'=(E e).2.st)) {S:TS} {ρ:Type} {κ:X->TS->Option ρ} {r:ρ} (hS:S.ok) (hk:aol grow keep L E G S ρ κ=some r):
  FE P (.loop c) S.st (fun x S'=> ∃ S1:TS,S'=S1.st/\S1.ok/\κ x S1=some r):=by
 unfold aol at hk;obtain⟨h1,h2⟩:=Pb grow hS;obtain⟨S1,h3,h4,hk⟩:=H1 h2 hk;obtain⟨s,rfl,hk2⟩:=it.un_some h4 hk;obtain⟨e,h5,hk3⟩:=ao.1 hk2;refine FE.weak (h1.trans h3) ((h s e h5).mono (fun x S' hx=> ?_));obtain⟨rfl,rfl⟩:=hx;exact⟨_,C9.refl,_,rfl,hE e,hk3⟩
end
end
section
open Go
abbrev KH.D:List Ty->Type
 | [] =>Unit
 | t::l=>t.D×KH.D l
def GI: (l:List Ty)->KH.D l->List ((t:Ty)×t.D)
 | [],_=> []
 | t::l,x=>⟨t,x.1⟩::GI l x.2
def eh (P:Program) (f:FuncId) (e:eG):Prop:= ∀ args ρ κ r,e args ρ κ=some r-> ∃ res out,Vr P f args res out/\res.ok (out.map some)/\κ res out=some r
theorem dX (P:Program):ef P (ek []):=fun _ _ _ _ _ h=>by cases h
theorem dS {P:Program} {f:FuncId} {e:eG} {l:List (Nat×eG)} (h:eh P f e) (hl:ef P (ek l)):ef P (ek ((f,e)::l)):=by
 intro g args ρ κ r hr;have hr: (bif Nat.beq f g then e args ρ κ else arb l g args ρ κ)=some r:=hr;cases hb:Nat.beq f g with
 | true=>
   rw [hb] at hr;have:=ay hb;subst this;exact h args ρ κ r hr
 | false=>
   rw [hb] at hr;exact hl g args ρ κ r hr
def Nav (as bs:List AV):Prop:=as.length=bs.length/\ ∀ (k:Nat) (a b:AV),as[k]? =some a->bs[k]? =some b->a=b\/(a= .em/\ ∃ s,b= .ro s [])
theorem Nav.refl (as:List AV):Nav as as:=⟨rfl,fun k a b h1 h2=>by rw [h1] at h2; cases h2; exact .inl rfl⟩
theorem Nav.cons {a b:AV} {as bs:List AV} (h:a=b\/(a= .em/\ ∃ s,b= .ro s [])) (hn:Nav as bs):Nav (a::as) (b::bs):=
 ⟨by simp [hn.1],fun k x y h1 h2=>by
  cases k with
  | zero=>simp only [aL,af] at h1 h2; subst h1 h2; exact h
  | succ k=>exact hn.2 k x y (by simpa using h1) (by simpa using h2)⟩
theorem Nav.VR {as bs:List AV} (hn:Nav as bs) {w:World} {bt:Bt} {vals:List Value} (h: ∀ (k:Nat) (v:AV) (u:Value),as[k]? =some v->vals[k]? =some u->VR w bt v u) (k:Nat) (v:AV) (u:Value) (hv:bs[k]? =some v) (hu:vals[k]? =some u):VR w bt v u:=by
 have hk:k < as.length:=by rw [hn.1]; exact (aj.1 hv).1
 have ha:=ai hk;have hx:=h k _ u ha hu;rcases hn.2 k _ v ha hv with e | ⟨e,s,rfl⟩
 ·rw [<-e]; exact hx
 ·rw [e] at hx;cases hx with
  | em b=>exact .ro (.em _ _ _)
theorem Hq.norm {P:Program} {f:FuncId} {as bs:List AV} {gs:List T} {res:AV} {out:List T} (hn:Nav as bs) (h:Hq P f bs gs res out):Hq P f as gs res out:=
 fun w W bt0 vals hI hl hv=>h w W bt0 vals hI (hl.trans hn.1) (hn.VR hv)
theorem BE.norm {P:Program} {f:FuncId} {as bs:List AV} {gs:List T} {m:Nat} {res:AV} {out:List T} (hn:Nav as bs) (h:BE P f bs gs m res out):BE P f as gs m res out:=
 fun w W bt0 vals hI hl hv=>h w W bt0 vals hI (hl.trans hn.1) (hn.VR hv)
theorem un_some {ρ:Type} {t:Ty} {a:V1} {κ:t.D->Option ρ} {r:ρ} (h:un t a κ=some r): ∃ x,a=arg t x/\κ x=some r:=by
 unfold un at h;split at h
 ·rename_i cs;obtain⟨h1,h⟩:=eE h;split at h
  ·rename_i xs hxs;split at h
   ·rename_i x hx;refine⟨x,?_,h⟩;unfold arg;rw [h1,t.unflat_some _ _ hx,TA hxs];rfl
   ·cases h
  ·cases h
 ·rename_i y;cases hag:t.ag with
  | true=>rw [hag] at h; cases h
  | false=>
    rw [hag] at h;simp only [cond_false] at h;split at h
    ·rename_i x hx;refine⟨x,?_,h⟩;unfold arg;rw [hag,t.unflat_some _ _ hx];rfl
    ·cases h
 ·cases h
theorem arj (t:Ty) (x:t.D): (arg t x).ok [] :=by
 unfold arg;cases t.ag with
 | true=>
   intro c hc;obtain⟨y,_,rfl⟩:=aQ.1 hc;trivial
 | false=>
   simp only [cond_false];split
   ·rename_i c hc;have :c∈(t.flat x).map Cl.c:=by rw [hc]; exact aD.2 rfl
    obtain⟨y,_,rfl⟩:=aQ.1 this;trivial
   ·trivial
theorem aeA (S7 suf:List gK): ∀ (cs:List C) (mid:List gK),∀ c∈O3 cs (S7.length+mid.length),c.ok ((S7++mid++Hw cs++suf).map some)
 | [],mid,c,h=>by cases h
 | .sc v::cs,mid,c,h=>by
   rcases ba.1 h with rfl | h
   ·trivial
   ·exact aeA S7 suf cs mid c h
 | .ls t l::cs,mid,c,h=>by
   rcases ba.1 h with rfl | h
   ·refine⟨by simp [Hw],fun _=>⟨rfl,rfl,fun tr htr=> ?_⟩⟩
    have :jZ ((S7++mid++Hw (.ls t l::cs)++suf).map some) (S7.length+mid.length)=some ⟨t,l,none⟩:=by
     unfold jZ;rw [kR,ar,aZ,aW (by simp)];simp [Hw]
    have htr':jZ ((S7++mid++Hw (.ls t l::cs)++suf).map some) (S7.length+mid.length)=some tr:=htr;rw [this] at htr';cases htr';rfl
   ·have:=aeA S7 suf cs (mid++ [⟨t,l,none⟩]) c (by rw [bk,<-dx]; exact h);simp only [Hw];simpa using this
theorem aqa (t:Ty) (x:t.D) (S7 suf:List gK): (apD t x S7.length).ok ((S7++Hw (t.flat x)++suf).map some):=by
 have fC:=aeA S7 suf (t.flat x) [];simp only [b9,ck,bG] at fC;unfold apD;cases t.ag with
 | true=>exact fC
 | false=>
   simp only [cond_false];split
   ·rename_i c hc;exact fC c (by rw [hc]; exact aD.2 rfl)
   ·trivial
theorem YY: ∀ (l:List ((t:Ty)×t.D)) (S7:List gK),∀ v∈Vq S7.length l,v.ok ((S7++QD l).map some)
 | [],S7,v,h=>by cases h
 | ⟨t,x⟩::l,S7,v,h=>by
   rcases ba.1 h with rfl | h
   ·have:=aqa t x S7 (QD l);simpa [QD] using this
   ·have:=YY l (S7++Hw (t.flat x)) v (by rw [bk]; exact h);simpa [QD] using this
theorem aon (l:List ((t:Ty)×t.D)): (Tn (Vq 0 l)).ok ((QD l).map some):=by
 have h:=YY l [];simp only [b9,bq] at h
 match Vq 0 l,h with
 | [],_=>exact fun x hx=>by cases hx
 | [v],h=>exact h v aN
 | v::u::vs,h=>exact h
end
section
open Go
def Sh.fit (n:Nat):Sh->Bool | .own r _=>Nat.blt r n | .sub r _=>Nat.blt r n | _=>true
def S6.fit (n:Nat):S6->Bool | .cl s=>s.fit n | .agg l=>l.all (Sh.fit n) | .st _=>true | .fn _ l=>l.all (Sh.fit n)
def it.fit (L:it):Bool:=L.env.all (fun x=>x.2.fit L.gh.length)&&L.bx.all (fun l=>l.all (Sh.fit L.gh.length))
theorem Hx.mk_length: ∀ (l:List Ty) (d:Hx.D l),(Hx.mk l d).length=l.length
 | [],_=>rfl
 | t::l,d=>by simp [Hx.mk,Hx.mk_length l d.2]
theorem Sh.mk_ok {G:List (Option gK)} {s:Sh} (h:s.fit G.length=true) (x:s.D): (s.mk G x).ok G:=by
 cases s with
 | own r t=>
   refine⟨aF h,fun _=>⟨rfl,rfl,fun tr htr=> ?_⟩⟩;unfold jZ at htr;unfold arh;have htr': (C1 G r).getD none=some tr:=htr;cases hn:C1 G r with
   | none=>rw [hn] at htr'; cases htr'
   | some y=>rw [hn] at htr'; simp only [aR] at htr'; subst htr'; rfl
 | sub r t=>exact⟨aF h,fun e=>by cases e⟩
 | _=>trivial
theorem M2.mk_ok {G:List (Option gK)}: ∀ {l:List Sh},l.all (Sh.fit G.length)=true-> ∀ (x:M2.D l),∀ c∈M2.mk G l x,c.ok G
 | [],_,x,c,hc=>by cases hc
 | s::l,h,x,c,hc=>by
   simp only [cQ,ax] at h;rcases ba.1 hc with rfl | hc
   ·exact Sh.mk_ok h.1 x.1
   ·exact M2.mk_ok h.2 x.2 c hc
theorem S6.mk_ok {G:List (Option gK)} {v:S6} (h:v.fit G.length=true) (x:v.D): (v.mk G x).ok G:=by
 cases v with
 | cl s=>exact Sh.mk_ok h x
 | agg l=>exact M2.mk_ok h x
 | st n=>
   intro c hc;obtain⟨y,_,rfl⟩:=aQ.1 hc;trivial
 | fn f l=>exact M2.mk_ok h x
theorem it.mk'_ok {L:it} (h:L.fit=true) (d:L.D): (L.mk' d).ok:=by
 unfold it.fit at h;simp only [ax] at h;have hlen: (Hx.mk L.gh d.2.2).length=L.gh.length:=Hx.mk_length _ _;rw [<-hlen] at h
 have env: ∀ {l:List (Nat×S6)},l.all (fun x=>x.2.fit (Hx.mk L.gh d.2.2).length)=true-> ∀ (e:Env.D l),∀ x∈Env.mk (Hx.mk L.gh d.2.2) l e,x.2.ok (Hx.mk L.gh d.2.2):=by
  intro l
  induction l with
  | nil=>intro _ e x hx; cases hx
  | cons y l ih=>
    intro h e x hx;simp only [cQ,ax] at h;rcases ba.1 hx with rfl | hx
    ·exact S6.mk_ok h.1 e.1
    ·exact ih h.2 e.2 x hx
 have bxs: ∀ {l:List (List Sh)},l.all (fun l=>l.all (Sh.fit (Hx.mk L.gh d.2.2).length))=true-> ∀ (e:Bxs.D l),∀ cs∈Bxs.mk (Hx.mk L.gh d.2.2) l e,∀ c∈cs,c.ok (Hx.mk L.gh d.2.2):=by
  intro l
  induction l with
  | nil=>intro _ e x hx; cases hx
  | cons y l ih=>
    intro h e x hx;simp only [cQ,ax] at h;rcases ba.1 hx with rfl | hx
    ·exact M2.mk_ok h.1 e.1
    ·exact ih h.2 e.2 x hx
 exact⟨env h.1 d.1,bxs h.2 d.2.1⟩
abbrev eX.D:List (X×it)->Type
 | [] =>Empty
 | [x] =>x.2.D
 | x::y::l=>x.2.D⊕eX.D (y::l)
def eX.k {R:Type}: (l:List (X×it))->eX.D l->(X->TS->R)->R
 | [],e,_=>e.elim
 | [x],d,κ=>κ x.1 (x.2.mk' d)
 | x::y::l,e,κ=>Sum.elim (fun d=>κ x.1 (x.2.mk' d)) (fun e=>eX.k (y::l) e κ) e
def eX.e (l:List (X×it)) (d:eX.D l):X×TS:=eX.k l d Prod.mk
theorem eX.k_eq {R:Type}: ∀ (l:List (X×it)) (d:eX.D l) (κ:X->TS->R),eX.k l d κ=κ (eX.e l d).1 (eX.e l d).2
 | [],e,_=>e.elim
 | [_],_,_=>rfl
 | _::_::_, .inl _,_=>rfl
 | _::y::l, .inr e,κ=>eX.k_eq (y::l) e κ
def exB (x:X×it):Bool:=(match x.1 with | .nor=>false | _=>true)&&x.2.fit
theorem eX.ok: ∀ (l:List (X×it)) (d:eX.D l),l.all exB=true->(eX.e l d).1≠ .nor/\(eX.e l d).2.ok
 | [],e,_=>e.elim
 | [x],d,h=>by
   simp only [cQ,ax,exB] at h;refine⟨fun e=> ?_,it.mk'_ok h.1.2 d⟩;have e:x.1= .nor:=e;rw [e] at h;cases h.1.1
 | x::_::_, .inl d,h=>by
   simp only [cQ,ax,exB] at h;refine⟨fun e=> ?_,it.mk'_ok h.1.2 d⟩;have e:x.1= .nor:=e;rw [e] at h;cases h.1.1
 | _::y::l, .inr e,h=>eX.ok (y::l) e (by
   simp only [cQ,ax] at h ⊢;exact h.2)
def fR (grow:List ama) (keep:List Nat) (L:it) (exs:List (X×it)) (G:L.D->Option (eX.D exs)):TS->(ρ:Type)->(X->TS->Option ρ)->Option ρ:=
 fun S _ κ=>Tx keep (M3 grow S) fun S1=>L.un S1 fun s=>(G s).bind fun e=>eX.k exs e κ
abbrev fO:=TS->(ρ:Type)->(X->TS->Option ρ)->Option ρ
def en:List (Nat×fO)->FZ
 | [],_,_,_,_=>none
 | (q,e)::l,n,S,ρ,κ=>bif Nat.beq q n then e S ρ κ else en l n S ρ κ
section
variable {P:Program} {Θ:Du} {Y:Tj} {Λ:FZ}
def fk (P:Program) (c:Code) (e:fO):Prop:= ∀ (S:TS) (ρ:Type) (κ:X->TS->Option ρ) (r:ρ),S.ok->e S ρ κ=some r->FE P (.loop c) S.st (fun x S'=> ∃ S1:TS,S'=S1.st/\S1.ok/\κ x S1=some r)
theorem dU:nZ P Λ [] :=fun c hc=>by cases hc
theorem eu {l:List (Nat×fO)} {c:Code} {q:Nat} {e:fO} (hq:fC c=q) (h:fk P c e) (hl: ∀ (S:TS) (ρ:Type) (κ:X->TS->Option ρ),en l q S ρ κ=e S ρ κ):nZ P (en l) [c] :=by
 intro c' hc' S ρ κ r hS hr;rw [aD] at hc';subst hc';rw [hq,hl] at hr;exact h S ρ κ r hS hr
theorem H2 {a b:List Code} (ha:nZ P Λ a) (hb:nZ P Λ b):nZ P Λ (a++b):=fun c hc=>by
 rcases bu.1 hc with h | h
 ·exact ha c h
 ·exact hb c h
theorem eA (hΘ:mu P Θ) (hY:ef P Y) (hm:P.follows .mixedOrders=true) {c:Code} (hc:yW P c=true) (hL:nZ P Λ (nE c)) (grow:List ama) (keep keepX:List Nat) (L:it) (exs:List (X×it)) (hf: (L.fit&&exs.all exB)=true)
  (B:L.D->Option (L.D⊕eX.D exs)) (hB: ∀ s,iz Θ Y Λ c (L.mk' s) (fM keep keepX fun x S=>some (x,S))=(B s).bind (Sum.elim (fun s'=>some (.nor,L.mk' s')) fun e=>some (eX.e exs e)))
  (G:L.D->Option (eX.D exs)) (μ:L.D->Nat) (hG: ∀ s e,G s=some e->aok G μ s e (B s)):fk P c (fR grow keep L exs G):=by
 simp only [ax] at hf;intro S ρ κ r hS hk;refine aom (E:=eX.e exs) (fun e=>(eX.ok exs e hf.2).2) (fun s e hs=>ap9 hΘ hY hm hc hL (fun s=>it.mk'_ok hf.1 s) hB (fun e=>(eX.ok exs e hf.2).1) hG hs) hS ?_ (grow:=grow) (keep:=keep);rw [<-hk];unfold aol fR;simp only [eX.k_eq]
end
end
section
open Go
def aqb (P:Program) (e:TypeId->List Value->Bool):List Field->Nat->List Value->Bool
 | [],_,[] =>true
 | [],_,_::_=>false
 | f::fs,off,zs=>f.name != "_" &&Nat.beq f.offset off&&Nat.blt 0 (P.cellsOf f.type)&&Nat.ble (P.cellsOf f.type) zs.length&&(P.info? f.type).isSome&&e f.type (zs.take (P.cellsOf f.type))&&aqb P e fs (off+P.cellsOf f.type) (zs.drop (P.cellsOf f.type))
def ahC (P:Program):Nat->TypeId->List Value->Bool
 | 0,_,_=>false
 | n+1,t,zs=>match P.underlying t with
   | some .bool=>(match zs with | [.bool _] =>true | _=>false)
   | some (.int _)=>(match zs with | [.int _ _] =>true | _=>false)
   | some (.struct fs)=> !P.stoodInHeld t&&aqb P (ahC P n) fs.toList 0 zs
   | _=>false
def abv (P:Program) (t:TypeId) (xs:List Value):Value:=match P.underlying t with
 | some (.struct _)=> .agg xs.toArray
 | _=>xs.headD (.bool false)
def vZ:List Value->List Value->Bool
 | [],[] =>true
 | .int k _::zs, .int k' _::cs=>bif decide (k=k') then vZ zs cs else false
 | .bool _::zs, .bool _::cs=>vZ zs cs
 | _,_=>false
def wL:List Value->List Value->Option Bool
 | [],[] =>some true
 | a::l,b::m=>match ag8 a b,wL l m with
   | some x,some y=>some (x&&y)
   | _,_=>none
 | _,_=>none
theorem YZ: ∀ {zs xs:List Value},wx zs (xs.map fun x=> .c (.sc x))=true->vZ zs xs=true:=by
 intro zs
 induction zs with
 | nil=>intro xs h; cases xs with
   | nil=>rfl
   | cons=>simp [wx] at h
 | cons z zs ih=>
   intro xs h;cases xs with
   | nil=>cases z <;> simp [wx] at h
   | cons x xs=>
     cases z <;> cases x <;> simp only [aX,wx,vZ,cond_eq_ite,be] at h ⊢
     ·exact ih h
     ·split at h
      ·rename_i hk;rw [if_pos hk];exact ih h
      ·cases h
theorem amc: ∀ {xs ys:List Value},MT (xs.map fun x=> .c (.sc x)) (ys.map fun x=> .c (.sc x))=wL xs ys:=by
 intro xs
 induction xs with
 | nil=>intro ys; cases ys <;> rfl
 | cons x xs ih=>
   intro ys;cases ys with
   | nil=>rfl
   | cons y ys=>
     simp only [aX,MT,wL,ih];cases ag8 x y <;> cases wL xs ys <;> rfl
theorem E3: ∀ {zs xs:List Value},vZ zs xs=true->xs.length=zs.length:=by
 intro zs
 induction zs with
 | nil=>intro xs h; cases xs with
   | nil=>rfl
   | cons=>simp [vZ] at h
 | cons z zs ih=>
   intro xs h;cases xs with
   | nil=>cases z <;> simp [vZ] at h
   | cons x xs=>
     cases z <;> cases x <;> simp only [vZ,cond_eq_ite,be] at h
     ·simp [ih h]
     ·split at h
      ·simp [ih h]
      ·cases h
theorem I1: ∀ {zs xs:List Value} (n:Nat),vZ zs xs=true->vZ (zs.take n) (xs.take n)=true/\vZ (zs.drop n) (xs.drop n)=true:=by
 intro zs
 induction zs with
 | nil=>intro xs n h; cases xs with
   | nil=>simp [vZ]
   | cons=>simp [vZ] at h
 | cons z zs ih=>
   intro xs n h;cases xs with
   | nil=>cases z <;> simp [vZ] at h
   | cons x xs=>
     cases n with
     | zero=>exact⟨rfl,h⟩
     | succ n=>
       cases z <;> cases x <;> simp only [vZ,cond_eq_ite,be] at h
       ·exact ih n h
       ·split at h
        ·rename_i hk;refine⟨?_,(ih n h).2⟩;simp only [List.take_succ_cons,vZ,cond_eq_ite];rw [if_pos (by simpa using hk)];exact (ih n h).1
        ·cases h
theorem aeB: ∀ {xs ys:List Value} (n:Nat) {r:Bool},wL xs ys=some r-> ∃ a b,wL (xs.take n) (ys.take n)=some a/\wL (xs.drop n) (ys.drop n)=some b/\r=(a&&b):=by
 intro xs
 induction xs with
 | nil=>intro ys n r h; cases ys with
   | nil=>cases h; exact⟨true,true,by simp [wL],by simp [wL],rfl⟩
   | cons=>simp [wL] at h
 | cons x xs ih=>
   intro ys n r h;cases ys with
   | nil=>simp [wL] at h
   | cons y ys=>
     cases n with
     | zero=>exact⟨true,r,rfl,h,rfl⟩
     | succ n=>
       simp only [wL] at h;split at h
       ·rename_i p q hp hq;cases h;obtain⟨a,b,h1,h2,rfl⟩:=ih n hq;exact⟨p&&a,b,by simp [wL,hp,h1],h2,by cases p <;> rfl⟩
       ·cases h
theorem aeC {P:Program} {t:TypeId} {i:TypeInfo} (h:P.info? t=some i):f7 P (typeInfo t)=some i:=by
 simp only [typeInfo,fE,program,f7,ae,h];rfl
theorem ahD {P:Program} {t:TypeId} {i:TypeInfo} (hi:P.info? t=some i) {d:TypeDesc} (hd:P.underlying t=some d) (hs: ∀ n e,d≠ .array n e) {xs:List Value} {off:Nat} {c:Value} (hc:xs[off]? =some c):
  f7 P (part t xs.toArray off)=some (abv P t ((xs.drop off).take (P.cellsOf t)))\/P.cellsOf t=0:=by
 by_cases h0:P.cellsOf t=0
 ·exact .inr h0
 refine .inl ?_;have hcell:P.cellsOf t=i.size:=by simp [Program.cellsOf,hi]
 cases hst: (match d with | .struct _=>true | _=>false) with
 | true=>
   have hag:f7 P (isAgg t)=some true:=by
    simp only [isAgg,fE,jY hd,ae];cases d <;> simp at hst;rfl
   simp only [part,sizeOf,fE,hag,ae,if_true,aeC hi,gO,abv,hd];cases d <;> simp at hst;simp [hcell,Nat.add_sub_cancel_left]
 | false=>
   have hag:f7 P (isAgg t)=some false:=by
    simp only [isAgg,fE,jY hd,ae];cases d <;> simp at hst
    all_goals first | rfl | exact absurd rfl (hs _ _)
   have hv:abv P t ((xs.drop off).take (P.cellsOf t))=c:=by
    have : ((xs.drop off).take (P.cellsOf t)).headD (.bool false)=c:=by
     obtain⟨n,hn⟩: ∃ n,P.cellsOf t=n+1:=⟨P.cellsOf t - 1,by omega⟩
     have h1:off < xs.length:=(aj.1 hc).1;rw [hn,bR h1,List.take_succ_cons];exact (aj.1 hc).2
    unfold abv;rw [hd];cases d <;> first | exact this | simp at hst
   rw [hv];simp only [part,fE,hag,ae,be,if_false];have :xs.toArray[off]? =some c:=by simpa using hc
   rw [this];rfl
theorem alq (P:Program): ∀ (n:Nat) {t:TypeId} {zs xs ys:List Value} {r:Bool} (d:Nat),ahC P n t zs=true->vZ zs xs=true->vZ zs ys=true->wL xs ys=some r->f7 P (Op.equalIn (n+d) t (abv P t xs) (abv P t ys))=some r
 | 0,t,zs,xs,ys,r,d,h,_,_,_=>by cases h
 | n+1,t,zs,xs,ys,r,d,h,hx,hy,he=>by
   have hn:n+1+d=(n+d)+1:=by omega
   rw [hn];unfold ahC at h;cases hu:P.underlying t with
   | none=>rw [hu] at h; cases h
   | some D=>
     rw [hu] at h;cases D <;> simp only [be] at h
     case bool=>
      split at h
      case h_2=>cases h
      obtain⟨x,rfl⟩: ∃ x,xs= [.bool x] :=by
       match xs,hx with
       | [.bool x],_=>exact⟨x,rfl⟩
      obtain⟨y,rfl⟩: ∃ y,ys= [.bool y] :=by
       match ys,hy with
       | [.bool y],_=>exact⟨y,rfl⟩
      simp only [wL,ag8,dh,af] at he;subst he;simp only [abv,hu,List.headD_cons];rw [Op.equalIn];simp only [fE,jY hu,ae,gO]
     case int k=>
      split at h
      case h_2=>cases h
      rename_i k0 _
      obtain⟨x,rfl⟩: ∃ x,xs= [.int k0 x] :=by
       match xs,hx with
       | [.int k1 x],hx=>
         simp only [vZ,cond_eq_ite] at hx;split at hx
         ·rename_i hk; simp at hk; subst hk; exact⟨x,rfl⟩
         ·cases hx
       | .int _ _::_::_,hx=>simp [vZ] at hx
      obtain⟨y,rfl⟩: ∃ y,ys= [.int k0 y] :=by
       match ys,hy with
       | [.int k1 x],hx=>
         simp only [vZ,cond_eq_ite] at hx;split at hx
         ·rename_i hk; simp at hk; subst hk; exact⟨x,rfl⟩
         ·cases hx
       | .int _ _::_::_,hx=>simp [vZ] at hx
      simp only [wL,ag8,dh,af] at he;subst he;simp only [abv,hu,List.headD_cons];rw [Op.equalIn];simp only [fE,jY hu,ae,gO,if_true]
     case struct fs=>
      simp only [ax,ca] at h;obtain⟨hst,h⟩:=h;simp only [abv,hu]
      have fC: ∀ (fs:List Field) (off:Nat) (zs:List Value) (r:Bool),aqb P (ahC P n) fs off zs=true->vZ zs (xs.drop off)=true->vZ zs (ys.drop off)=true->wL (xs.drop off) (ys.drop off)=some r->
        f7 P (Op.eqFields (n+d) xs.toArray ys.toArray fs)=some r:=by
       intro fs
       induction fs with
       | nil=>
         intro off zs r h hx hy he;cases zs with
         | nil=>
           have h1:=E3 hx;have h2:=E3 hy;simp only [b9,cY] at h1 h2;rw [h1,h2] at he;cases he;rfl
         | cons=>cases h
       | cons f fs ih=>
         intro off zs r h hx hy he;simp only [aqb,ax,bne_iff_ne,ne_eq] at h;obtain⟨⟨⟨⟨⟨⟨hname,hoff⟩,hpos⟩,hle⟩,hi⟩,h1⟩,h2⟩:=h;have hoff:=ay hoff;have hpos:0 < P.cellsOf f.type:=aF hpos;have hle:P.cellsOf f.type<=zs.length:=aF hle;have hlx:=E3 hx;have hly:=E3 hy;rw [cw] at hlx hly;obtain⟨i,hi⟩:=bE.1 hi
         have hu': ∃ D,P.underlying f.type=some D/\ ∀ n e,D≠ .array n e:=by
          cases hun:P.underlying f.type with
          | none=>cases n <;> simp [ahC,hun] at h1
          | some D=>refine⟨D,rfl,fun k e he=> ?_⟩; subst he; cases n <;> simp [ahC,hun] at h1
         obtain⟨D,hD,hDa⟩:=hu';have px:=ahD hi hD hDa (xs:=xs) (off:=off) (ai (by omega));have py:=ahD hi hD hDa (xs:=ys) (off:=off) (ai (by omega));have px:=px.resolve_right (by omega);have py:=py.resolve_right (by omega);obtain⟨a,b,ha,hb,rfl⟩:=aeB (P.cellsOf f.type) he;have hA:=alq P n d h1 (I1 _ hx).1 (I1 _ hy).1 ha;rw [Op.eqFields,if_pos hname];simp only [hoff,fE,px,py,ae,hA];cases a with
         | false=>rfl
         | true=>
           simp only [bw,be,if_false,Bool.true_and];simp only [b6] at hb;refine ih _ _ _ h2 ?_ ?_ hb
           ·have:=(I1 (P.cellsOf f.type) hx).2; rw [b6] at this; exact this
           ·have:=(I1 (P.cellsOf f.type) hy).2; rw [b6] at this; exact this
      have:=fC fs.toList 0 zs r h (by simpa using hx) (by simpa using hy) (by simpa using he);rw [<-this];rw [Op.equalIn];simp only [fE,jY hu,ae,program,f7,hst,be,if_false];rw [<-Array.forIn_toList];generalize fs.toList=fs;clear this fC h hu hst hn
      induction fs with
      | nil=>rfl
      | cons f fs ih=>
        simp only [List.forIn_cons,Op.eqFields];split
        ·simp only [fE];cases f7 P (part f.type xs.toArray f.offset) with
         | none=>rfl
         | some a=>
           cases f7 P (part f.type ys.toArray f.offset) with
           | none=>rfl
           | some b=>
             simp only [ae];cases f7 P (Op.equalIn (n+d) f.type a b) with
             | none=>rfl
             | some q=>
               cases q
               ·rfl
               ·simp only [ae,bw,be,if_false,gO];simpa only [fE,ah] using ih
        ·simp only [fE,gO,ae];simpa only [fE,ah] using ih
theorem asf {P:Program} {t:TypeId} {zs:List Value} {fs:Array Field} (hu:P.underlying t=some (.struct fs)) (h:ahC P 8 t zs=true) (a b:List Cl) (r:Bool) (xs ys:List Value) (ha:wx zs a=true) (hb:wx zs b=true) (he:MT a b=some r) (hx:a=xs.map (fun x=> .c (.sc x))) (hy:b=ys.map (fun x=> .c (.sc x))):
  f7 P (Op.equal t (.agg xs.toArray) (.agg ys.toArray))=some r:=by
 subst hx hy;have:=alq P 8 9992 h (YZ ha) (YZ hb) (by rw [<-amc]; exact he);unfold abv at this;rw [hu] at this;exact this
end
section
open Go
def fdL (P:Program):List Field->Option (List (Nat×Nat×Bool))
 | [] =>some []
 | f::fs=>match agT P f.type,fdL P fs with
   | some ag,some l=>some ((f.offset,P.cellsOf f.type,ag)::l)
   | _,_=>none
def fdA (P:Program) (t:TypeId):Option (List (Nat×Nat×Bool)):=match P.underlying t with | some (.struct fs)=>fdL P fs.toList | _=>none
theorem alr {P:Program}: ∀ {fs:List Field} {l:List (Nat×Nat×Bool)},fdL P fs=some l-> ∀ k,(fs[k]?).bind (fun f=>(agT P f.type).map fun ag=>(f.offset,P.cellsOf f.type,ag))=C1 l k
 | [],l,h,k=>by cases h; rfl
 | f::fs,l,h,k=>by
   unfold fdL at h;split at h
   ·rename_i ag l' h1 h2;cases h;cases k with
    | zero=>simp [h1,C1]
    | succ k=>
      show _=C1 l' (k+1 - 1);rw [cz,<-alr h2 k,cc]
   ·cases h
theorem aqc {P:Program} {t:TypeId} {l:List (Nat×Nat×Bool)} (h:fdA P t=some l) (k:Nat):fdT P t k=C1 l k:=by
 unfold fdA at h;unfold fdT;split at h
 ·rename_i fs hu;simp only [hu];rw [<-alr h k,cy]
 ·cases h
theorem aqd (P:Program):mu P [] :=fun _ _ h=>by cases h
theorem fS {P:Program} {t:Nat} {ti:TI} {l:Du} (h:ti.ok P t) (hl:mu P l):mu P ((t,ti)::l):=by
 intro u ui hu;unfold yX at hu;cases hb:Nat.beq t u with
 | true=>
   rw [hb] at hu;have:=ay hb;subst this;cases hu;exact h
 | false=>
   rw [hb] at hu;exact hl u ui hu
def asg (P:Program) (t:TypeId):Bool:=match P.underlying t with | some (.struct _)=>true | _=>false
section
variable {P:Program} {t:TypeId}
theorem Bh {n:Sn} {fds:List (Nat×Nat×Bool)} {by':Nat} (h1:asg P t=true) (h2:P.cellsOf t=(Ty.st n).width) (h3:C0 P 9 t=(Ty.st n).shs) (h4:S5 P t=some (Ty.st n).zvs) (h5:fdA P t=some fds)
  (h6:plT P t=some (fds.map fun x=>(x.1,x.2.1))) (h7: ((Ty.st n).flatB=true->P.eqGuardType P.depth t=false/\ahC P 8 t (Ty.st n).zvs=true)) (hz: (Ty.st n).flatB=false-> ∀ xs:List Value,wx (Ty.st n).zvs (xs.map fun x=> .c (.sc x))=false):TI.ok P t ⟨.st n,0,fds,by'⟩:=by
 unfold asg at h1;split at h1
 case h_2=>cases h1
 rename_i fs hu;refine⟨?_,h2,h3,h4,aqc h5,fun _=>h6,fun e he=>(by cases he),fun hb=>(by cases hb),fun _ hf=>(h7 hf).1,fun _ a b r xs ys ha hb he hx hy=> ?_,?_,fun k hk=>(by cases hk)⟩
 ·simp [agT,hu,Ty.ag]
 ·cases hf: (Ty.st n).flatB with
  | true=>exact asf hu (h7 hf).2 a b r xs ys ha hb he hx hy
  | false=>
    subst hx;have:=hz hf xs;rw [show wx (Ty.st n).zvs _=true from ha] at this;cases this
 ·simp [ad0,hu]
theorem J1 {e:Ty} {el:Nat} {by':Nat} {u:TypeId} (h1:Nk P t=some u) (h2:P.cellsOf t=1) (h4:S5 P t=some [.slice none 0 0]) (h5:P.cellsOf u=e.width) (h6:P.bytesOf u=el) (h7:Nat.blt 0 el=true) (h8:C0 P 9 u=e.shs) (h9:S5 P u=some e.zvs):TI.ok P t ⟨.ls e,el,[],by'⟩:=by
 have hu:P.underlying t=some (.slice u):=by
  unfold Nk at h1;split at h1
  ·rename_i e hu; cases h1; exact hu
  ·cases h1
 refine⟨?_,h2,?_,h4,fun k=> ?_,fun h=>(by cases h),fun e' he=> ?_,fun hb=>(by cases hb),fun h=>(by cases h),fun h=>(by cases h),?_,fun k hk=>(by cases hk)⟩
 ·simp [agT,hu,Ty.ag]
 ·simp [C0,hu,Ty.shs,Ty.csh,h5]
 ·simp [fdT,hu,C1]
 ·cases he;exact⟨u,h1,h5,h6,aF h7,h8,h9⟩
 ·simp [ad0,hu]
def scT (P:Program) (t:TypeId) (y:Ty):Bool:=match P.underlying t,y with
 | some (.int k), .i k'=>decide (k=k')
 | some .bool, .b=>true
 | some .string, .s=>true
 | _,_=>false
theorem NR {y:Ty} {by':Nat} (h1:scT P t y=true) (h2:P.cellsOf t=1) (h4:S5 P t=some y.zvs):TI.ok P t ⟨y,0,[],by'⟩:=by
 unfold scT at h1;split at h1
 ·rename_i k k' hu;refine⟨(by simp [agT,hu,Ty.ag]),h2,(by simp [C0,hu,Ty.shs,Ty.csh]),h4,fun k=>(by simp [fdT,hu,C1]),fun h=>(by cases h),fun e' he=>(by cases he),fun hb=>(by cases hb),fun h=>(by cases h),fun h=>(by cases h),by simp [ad0,hu],fun q hq=>(by cases hq; rw [hu]; simp only [decide_eq_true_eq] at h1; rw [h1])⟩
 ·rename_i hu;refine⟨(by simp [agT,hu,Ty.ag]),h2,(by simp [C0,hu,Ty.shs,Ty.csh]),h4,fun k=>(by simp [fdT,hu,C1]),fun h=>(by cases h),fun e' he=>(by cases he),fun hb=>hu,fun h=>(by cases h),fun h=>(by cases h),by simp [ad0,hu],fun q hq=>(by cases hq)⟩
 ·rename_i hu;refine⟨(by simp [agT,hu,Ty.ag]),h2,(by simp [C0,hu,Ty.shs,Ty.csh]),h4,fun k=>(by simp [fdT,hu,C1]),fun h=>(by cases h),fun e' he=>(by cases he),fun hb=>(by cases hb),fun h=>(by cases h),fun h=>(by cases h),by simp [ad0,hu],fun q hq=>(by cases hq)⟩
 ·cases h1
end
theorem p9: ∀ {zs:List Value} (xs:List Value),zs.any (fun z=>match z with | .int _ _=>false | .bool _=>false | _=>true)=true->wx zs (xs.map fun x=> .c (.sc x))=false
 | [],xs,h=>by cases h
 | z::zs,xs,h=>by
   cases hb:wx (z::zs) (xs.map fun x=> .c (.sc x)) with
   | false=>rfl
   | true=>
     exfalso;cases xs with
     | nil=>cases z <;> simp [wx] at hb
     | cons x xs=>
       cases z <;> simp only [wx,aX,be] at hb
       all_goals cases x <;> simp only [wx,cond_eq_ite,be] at hb
       ·rw [p9 xs (by simpa using h)] at hb; cases hb
       ·split at hb
        ·rw [p9 xs (by simpa using h)] at hb; cases hb
        ·cases hb
end
end Go.Proofs.YtkcgfceffffmoaaGreat.En
