import Derived.Test.YtjnleglhcppgcaaGreatZX7
namespace Go.Proofs.YtjnleglhcppgcaaGreat.En
section
open Go
section
variable {ρ:Type} {P:Program} {Θ:pp} {S:TS} {Y:yX}
open Classical in
noncomputable def zg (d:Option Tmp) (D1 D2:sE):sE:=fun d'=>if d'=d then D1 d' else D2 d'
theorem II {d:Option Tmp} {D1 D2:sE} (h1:oL P D1) (h2:oL P D2):oL P (zg d D1 D2):=by
 intro d' f args gs res out h;unfold zg at h;split at h
 ·exact h1 _ _ _ _ _ _ h
 ·exact h2 _ _ _ _ _ _ h
theorem N9 (d:Option Tmp) (D1 D2:sE):zg d D1 D2 d=D1 d:=by unfold zg; rw[if_pos rfl]
theorem Oa {d d':Option Tmp} (D1 D2:sE) (h:d'≠d):zg d D1 D2 d'=D2 d':=by unfold zg; rw[if_neg h]
theorem PU (hΘ:gC P Θ) (hY:mJ P Y) {ops:Array Oper}: ∀ (os:List Oper) (S:TS) (ms:List jq) (κ:TS->List jq->Option ρ) (r:ρ),S.ok->Io Θ Y ops.toList os S ms κ=some r->
  ∃D SV ms',oL P D/\Cv D P ops os S.st=some (TS.st SV,ms')/\SV.ok/\κ SV (ms++ms')=some r:=by
 intro os
 induction os with
 |nil=>intro S ms κ r hS h; exact⟨HC,S,[],jI,rfl,hS,by rw[bw]; exact h⟩
 |cons o os ih=>
  intro S ms κ r hS h;unfold Io at h;cases hst:ed o with
  |true=>
   rw[hst] at h;simp only[cond_true] at h;obtain⟨D,SV,ms',h1,h2,h3,h4⟩:=ih _ _ _ _ hS h;refine⟨D,SV,⟨S.gh.length,[],[]⟩::ms',h1,?_,h3,?_⟩
   ·simp only[Cv,hst,if_true,h2,aB];rfl
   ·rw[aU] at h4;exact h4
  |false=>
   rw[hst] at h;simp only[cond_false] at h;cases hbo:fY o with
   |true=>
    rw[hbo] at h;simp only[cond_true] at h;cases hgn:o.guard.isNone with
    |false=>rw[hgn] at h; cases h
    |true=>
    rw[hgn] at h;simp only[cond_true] at h;obtain⟨S3,g5,g6,_,h⟩:=nZ (v:=V.v (.cl (.ptrB (S.bx.length-1-fP os) 0))) hS trivial h;obtain⟨D,SV,ms',k1,k2,k3,k4⟩:=ih _ _ _ _ g6 h;refine⟨D,SV,⟨S.gh.length,[],[]⟩::ms',k1,?_,k3,?_⟩
    ·simp only[Cv,hst,aY,if_false,hbo,if_true,hgn];rw[show S.st.put o.dst (.ptrB (S.st.nb-1-fP os) 0)=some S3.st from g5];simp only[ae,k2,aB];rfl
    ·rw[aU] at k4;exact k4
   |false=>
   rw[hbo] at h;simp only[cond_false] at h;obtain⟨b,S1,h1,h2,h3,h4,h⟩:=IC hS h;have hng:S.st.ng=S1.st.ng:=by rw[h2]
   cases b with
   |false=>
    simp only[cond_false] at h;obtain⟨S3,g5,g6,_,h⟩:=nZ (v:= .tup []) h3 (fun x hx=>by cases hx) h;obtain⟨D,SV,ms',k1,k2,k3,k4⟩:=ih _ _ _ _ g6 h;refine⟨D,SV,⟨S1.gh.length,[],[]⟩::ms',k1,?_,k3,?_⟩
    ·simp only[Cv,hst,hbo,aY,if_false,h1,ae];rw[<-h2,show S1.st.put o.dst (.tup [])=some S3.st from g5];simp only[ae,k2,aB];rfl
    ·rw[aU] at k4;exact k4
   |true=>
    simp only[cond_true] at h;cases hnw:ku o with
    |false=>
     rw[hnw] at h;simp only[cond_false] at h;obtain⟨v,S2,m1,m2,m3,m4,m5,h⟩:=FJ (D:=HC) hΘ h3 h;obtain⟨S3,g5,g6,_,h⟩:=nZ m3 (by rw[m4]; exact m5) h;obtain⟨D,SV,ms',k1,k2,k3,k4⟩:=ih _ _ _ _ g6 h;refine⟨D,SV,⟨S1.gh.length,[],[]⟩::ms',k1,?_,k3,?_⟩
     ·have hV:eh D P S1.st o=some v.av:=by
       rw[<-m1]
       have : ∀D':sE,eh D P S1.st o=eh D' P S1.st o:=by
        intro D';obtain⟨dst,op,ty,pos,aft,gd⟩:=o;cases op with
        |call c=>
         obtain⟨cl,as,ts⟩:=c;cases cl with
         |value f=>cases hnw
         |invoke a b=>rfl
         |builtin b=>cases b<;>rfl
        |unOp op t x=>cases op<;>rfl
        |binOp op t x y t'=>cases op<;>rfl
        |makeFunc fn first caps=>cases fn<;>rfl
        |slice t x lo hi mx=>cases mx<;>rfl
        | _=>rfl
       exact this HC
      simp only[Cv,hst,hbo,aY,if_false,h1,ae,if_true,hnw];rw[<-h2,hV];simp only[ae];rw[<-m2,g5];simp only[ae,k2,aB];rw[m2]; first |rfl|skip
     ·rw[aU] at k4;exact k4
    |true=>
     rw[hnw] at h;simp only[cond_true] at h;obtain⟨hc,h⟩:=ef h;simp only[ar] at hc;obtain⟨D1,v0,v,adds,cons,S2,m1,m2,m3,m4,m5,m6,m7,h⟩:=PT hΘ hY h3 hnw hc.1.2 hc.2 h;obtain⟨S3,g5,g6,_,h⟩:=nZ m6 m7 h;obtain⟨D,SV,ms',k1,k2,k3,k4⟩:=ih _ _ _ _ g6 h;refine⟨zg o.dst D1 D,SV,⟨S1.st.ng,adds,cons⟩::ms',II m1 k1,?_,k3,?_⟩
     ·have hN:gO (zg o.dst D1 D) P S1.st o=some (v0,adds,cons):=by
       rw[<-m2];exact Lx (N9 _ _ _)
      have hrest:Cv (zg o.dst D1 D) P ops os S3.st=some (SV.st,ms'):=by
       rw[<-k2];refine Sk os _ (fun o' ho'=>Oa _ _ (fun e=> ?_));have hl:=hc.1.1;unfold Se at hl;split at hl
       ·rename_i d hd;have:=aA.1 hl o' ho';unfold QL at this;rw[e,hd] at this;simp only[cE,bg] at this;cases this
       ·cases hl
      simp only[Cv,hst,hbo,aY,if_false,h1,ae,if_true,hnw];rw[<-h2,hN];simp only[ae];rw[m4,m3,g5];simp only[ae,hrest,aB]
      first |rfl|skip
     ·rw[aU,m5] at k4;exact k4
theorem PV (hΘ:gC P Θ) (hY:mJ P Y) {ops:Array Oper} {D:sE}: ∀ (os:List Oper) (S:TS) (κ:TS->Option ρ) (r:ρ),S.ok->NG Θ Y os S κ=some r->
  ∃S',Ep D P ops os S.st=some (TS.st S')/\S'.ok/\κ S'=some r:=by
 intro os
 induction os with
 |nil=>intro S κ r hS h; exact⟨S,rfl,hS,h⟩
 |cons o os ih=>
  intro S κ r hS h;unfold NG at h;cases hst:ed o with
  |false=>rw[hst] at h;obtain⟨S',h1,h2,h3⟩:=ih S κ r hS h;exact⟨S',by simp only[Ep,hst,aY,if_false]; exact h1,h2,h3⟩
  |true=>
   rw[hst] at h;simp only[cond_true] at h;obtain⟨hc,h⟩:=ef h;simp only[ar] at hc;obtain⟨D',v,S1,g1,g2,g3,g4,h⟩:=IB hΘ hY hS h;obtain⟨S',h1,h2,h3⟩:=ih S1 κ r g3 h;refine⟨S',?_,h2,h3⟩;have hd:o.dst=none:=dq.1 hc.2
   have hs:jg D P S.st o=some (v.av,S1.st):=by
    rw[<-g2];obtain⟨dst,op,ty,pos,aft,gd⟩:=o;cases op with
    |store t a x=>rfl
    | _=>cases hst
   have ho:one D P S.st o=some S1.st:=by unfold one;rw[hs];simp only[ae,hd,St.put]
   simp only[Ep,hst,if_true,ho,ae,h1];rw[if_pos ⟨hc.1,by rw[hd]; rfl⟩]
theorem PW (hΘ:gC P Θ): ∀ (os:List Oper) (S:TS) (κ:TS->Option ρ) (r:ρ),S.ok->NF Θ os S κ=some r-> ∃S0,F6 P os S.st=some (TS.st S0)/\S0.ok/\κ S0=some r:=by
 intro os
 induction os with
 |nil=>intro S κ r hS h; exact⟨S,rfl,hS,h⟩
 |cons o os ih=>
  intro S κ r hS h;unfold NF at h;unfold F6;split at h
  ·rename_i t hop;split at h
   ·rename_i ti hti
    obtain⟨S0,h1,h2,h3⟩:=ih { S with bx:=S.bx++ [ti.ty.zvs.map cC] } κ r ⟨hS.env,fun cs hcs c hc=>by
     rcases bq.1 hcs with h1|h1
     ·exact hS.bx cs h1 c hc
     ·simp only[ax] at h1;subst h1;exact NL _ _ c hc⟩ h
    refine⟨S0,?_,h2,h3⟩;rw[hop];simp only[(hΘ _ _ hti).ze,ae];rw[<-h1]
    congr 1
    rw[Kj,NK];rfl
   ·cases h
  ·rename_i hno;obtain⟨S0,h1,h2,h3⟩:=ih S κ r hS h;exact⟨S0,by rw[<-h1]; split<;>first | (rename_i t ht; exact absurd ht (hno t))|rfl,h2,h3⟩
theorem Ko {f g:TypeId->Bool} (h: ∀t,f t=true->g t=true) {t:TypeId} {a:AV} (hs:Fx f t a=true):Fx g t a=true:=by cases a<;>simp only[Fx] at hs ⊢<;>first |exact h t hs|exact hs
theorem IJ {f g:TypeId->Bool} (h: ∀t,f t=true->g t=true) {ops:List Oper} {B:List (List Nat)} {S SV:St} {i j:Nat} {oi oj:Oper} (hs:uj f ops B S SV i j oi oj=true):uj g ops B S SV i j oi oj=true:=by
 unfold uj at hs ⊢;split at hs
 ·simp only[ar] at hs ⊢;exact⟨Ko h hs.1,hs.2⟩
 ·cases hs
theorem IK {ops:List Oper} {B:List (List Nat)} {f g:Nat->Nat->Oper->Oper->Bool} (h: ∀i j oi oj,f i j oi oj=true->g i j oi oj=true) (hs:xT ops B f=true):xT ops B g=true:=by
 unfold xT at hs ⊢;refine aA.2 fun j hj=> ?_;have h1:=aA.1 hs j hj;split at h1
 ·cases h1
 ·simp only[bH] at h1 ⊢;refine h1.imp id fun h1=>aA.2 fun i hi=> ?_;have h2:=aA.1 h1 i hi;split at h2
  ·cases h2
  ·simp only[bH] at h2 ⊢;exact h2.imp id (h _ _ _ _)
theorem Ms {f g:TypeId->Bool} (h: ∀t,f t=true->g t=true) {ops:List Oper} {B:List (List Nat)} {S SV:St} {ms:List jq} (hs:JN f ops B S ms SV=true):JN g ops B S ms SV=true:=by unfold JN at hs ⊢;simp only[ar,bH] at hs ⊢;exact⟨⟨hs.1.1,hs.1.2.imp (IK fun _ _ _ _=>IJ h) id⟩,hs.2⟩
theorem PX (hΘ:gC P Θ) (t:TypeId) (h:NH Θ t=true):yJ P t=true:=by
 unfold NH at h;split at h
 ·rename_i ti hti;unfold yJ;rw[(hΘ t ti hti).sh];unfold Ty.flatB at h;unfold Ty.shs;rw[List.all_map,aA];intro x hx;have:=aA.1 h x hx;cases x with
  |none=>rfl
  |some e=>cases this
 ·cases h
theorem PY (hΘ:gC P Θ) (hY:mJ P Y) (hm:P.follows .mixedOrders=true) {id:Nat} {ops:Array Oper} (hok:zW P ops=true) (hS:S.ok) {κ:TS->Option ρ} {r:ρ} (h:Rc Θ Y ops.toList S κ=some r):
  rj P (.region id ops true) S.st (fun x S'=>x= .nor/\ ∃S1:TS,S'=S1.st/\S1.ok/\κ S1=some r):=by
 unfold Rc at h;obtain⟨S0,h0,hS0,h⟩:=PW hΘ _ _ _ _ hS h;obtain⟨D,SV,ms,h1,h2,h3,h4⟩:=PU hΘ hY _ _ _ _ _ hS0 h;obtain⟨h5,h6⟩:=ef h4;rw[bi] at h5;obtain⟨S',h7,h8,h9⟩:=PV (D:=D) (ops:=ops) hΘ hY _ _ _ _ h3 h6;exact rj.draw h1 hm hok h0 h2 (Ms (PX hΘ) h5) h7 ⟨rfl,S',rfl,h8,h9⟩
def fT:Code->List Code
 | .seq a b=>fT a++fT b
 | .cond _ a b=>fT a++fT b
 | .block _ c=>fT c
 | .loop c=> [c]
 | _=> []
def i9 (P:Program) (Λ:qh) (cs:List Code):Prop:= ∀c∈cs,∀ (S:TS) (ρ:Type) (κ:X->TS->Option ρ) (r:ρ),S.ok->Λ (gA c) S ρ κ=some r->rj P (.loop c) S.st (fun x S'=> ∃S1:TS,S'=S1.st/\S1.ok/\κ x S1=some r)
theorem zh (hΘ:gC P Θ) (hY:mJ P Y) (hm:P.follows .mixedOrders=true) {Λ:qh}: ∀ (c:Code) (S:TS) (κ:X->TS->Option ρ) (r:ρ),mh P c=true->i9 P Λ (fT c)->S.ok->yb Θ Y Λ c S κ=some r->
  rj P c S.st (fun x S'=> ∃S1:TS,S'=S1.st/\S1.ok/\κ x S1=some r):=by
 intro c
 induction c with
 |skip=>intro S κ r _ _ hS h; exact rj.skip ⟨S,rfl,hS,h⟩
 |exit i=>intro S κ r _ _ hS h; exact rj.exit ⟨S,rfl,hS,h⟩
 |ret=>intro S κ r _ _ hS h; exact rj.ret ⟨S,rfl,hS,h⟩
 |region id ops dr=>
  intro S κ r hok _ hS h;cases dr with
  |false=>exact rj.region (PN hΘ hY _ _ _ _ (fun o ho=>aA.1 hok o ho) hS h)
  |true=>refine (PY hΘ hY hm hok hS h).mono (fun x S' hx=> ?_);obtain⟨rfl,hx⟩:=hx;exact⟨S',po.refl,hx⟩
 |seq a b iha ihb=>
  intro S κ r hok hL hS h;simp only[mh,ar] at hok;have hLa:i9 P Λ (fT a):=fun c hc=>hL c (bW _ hc);have hLb:i9 P Λ (fT b):=fun c hc=>hL c (cM _ hc);unfold yb at h;refine rj.seq ((iha S _ r hok.1 hLa hS h).mono (fun x S' hx=>⟨S',po.refl,?_⟩));obtain⟨S1,rfl,h1,h2⟩:=hx;cases x with
  |nor=>exact ihb S1 κ r hok.2 hLb h1 h2
  |ret=>exact⟨S1,rfl,h1,h2⟩
  |ext i=>exact⟨S1,rfl,h1,h2⟩
 |cond t a b iha ihb=>
  intro S κ r hok hL hS h;simp only[mh,ar] at hok;have hLa:i9 P Λ (fT a):=fun c hc=>hL c (bW _ hc);have hLb:i9 P Λ (fT b):=fun c hc=>hL c (cM _ hc);unfold yb at h;obtain⟨v,S1,h1,h2,h3,h4,h⟩:=C6 hS h;refine rj.cond h1 ?_;rw[<-h2];cases v with
  |true=>exact iha S1 κ r hok.1 hLa h3 h
  |false=>exact ihb S1 κ r hok.2 hLb h3 h
 |block i c ih=>
  intro S κ r hok hL hS h;unfold yb at h;refine rj.block ((ih S _ r hok hL hS h).mono (fun x S' hx=>⟨S',po.refl,?_⟩));obtain⟨S1,rfl,h1,h2⟩:=hx;cases x with
  |nor=>exact⟨S1,rfl,h1,h2⟩
  |ret=>exact⟨S1,rfl,h1,h2⟩
  |ext j=>
   simp only at h2 ⊢;cases hb:Nat.beq j i with
   |true=>rw[hb] at h2;rw[if_pos (au hb)];exact⟨S1,rfl,h1,h2⟩
   |false=>rw[hb] at h2;rw[if_neg (by intro e; subst e; rw[cE] at hb; cases hb)];exact⟨S1,rfl,h1,h2⟩
 |loop c ih=>intro S κ r hok hL hS h;exact hL c (ax.2 rfl) S ρ κ r hS h
 | _=>intro S κ r hok; cases hok
end
end
section
open Go
section
variable {ρ:Type} {P:Program} {Θ:pp} {S:TS} {Y:yX}
theorem Lz (hS:S.ok) {gs:List eL} {et:Option Ty} {c:Cl} (hc:c.ok S.gh) {κ:Cl->List eL->TS->Option ρ} {r:ρ} (h:Py S gs et c κ=some r):
  ∃c' gs' S',Bw S.st (gs.map eL.tree) (De et) c.av=some (Cl.av c',gs'.map eL.tree,TS.st S')/\S'.ok/\jd S.gh S'.gh/\jd (gs.map some) (gs'.map some)/\c'.ok (gs'.map some)/\κ c' gs' S'=some r:=by
 have new: ∀ (t:Ty) (l:List t.D) (n:Nat),n=l.length->(Cl.own ⟨gs.length,[]⟩ t.width 0 n true).ok ((gs++ [(⟨t,l,none⟩:eL)]).map some):=by intro t l n hn;refine⟨by simp,fun _=>⟨rfl,rfl,fun tr htr=> ?_⟩⟩;rw[bS] at htr;have e:=mH (G:=gs.map some) (x:=some (⟨t,l,none⟩:eL)) gs.length;simp only[aD,if_true] at e;have htr':fA (gs.map some++ [some (⟨t,l,none⟩:eL)]) gs.length=some tr:=htr;rw[e] at htr';cases htr';exact hn
 have grow: ∀ (x:eL),jd (gs.map some) ((gs++ [x]).map some):=fun x=>by rw[bS]; exact jd.app _ _
 unfold Py at h;split at h
 ·refine⟨_,_,_,rfl,hS,jd.refl _,jd.refl _,?_,h⟩;trivial
 ·rename_i t;refine⟨_,_,S,?_,hS,jd.refl _,grow _,new t [] 0 rfl,h⟩;simp only[Cl.av,Bw,De,aD,bS,aQ,ck];rfl
 ·rename_i p sz lo len w t';obtain⟨pr,pl⟩:=p;cases pl with
  |cons a l=>cases h
  |nil=>
   simp only at h;obtain⟨h1,h'⟩:=ef h;clear h;simp only[ar] at h1;have h2:S.fz<=pr:=az h1.1;have h3:t'.width=sz:=au h1.2;obtain⟨t,l,k1,k2,h⟩:=gY h';obtain⟨k3,h⟩:=ef h;have k3:t.width=sz:=au k3
   have fin: ∀ (len:Nat),len<=l.length->Bw S.st (gs.map eL.tree) (De (some t')) (.own ⟨pr,[]⟩ sz 0 len)=some (.own ⟨gs.length,[]⟩ sz 0 len,(gs++ [(⟨t,l.take len,none⟩:eL)]).map eL.tree,({ S with gh:=fK S.gh pr none }:TS).st):=by
    intro len hlen;simp only[Bw];have hrows:S.st.rows ⟨pr,[]⟩ sz=some (l.map t.row):=by rw[<-k3]; exact mn k1
    rw[if_pos ⟨trivial,by show sz=t'.width; exact h3.symm,trivial,h2⟩,hrows];simp only[ae,aD];rw[if_pos hlen,za];simp only[De,h3,bS,aQ,ck,eL.tree,bO,k3]
   cases w with
   |true=>obtain⟨e1,e2,e3⟩:=vy hc k2;refine⟨_,_,_,?_,TS.ok_gh hS (jd.gone _ _),jd.gone _ _,grow _,by rw[<-k3]; exact new t l _ rfl,h⟩;have:=fin l.length (ay _);rw[aX] at this;simp only[Cl.av];rw[e2,e3];exact this
   |false=>
    simp only[cond_false] at h;obtain⟨h4,h⟩:=fO h;refine⟨_,_,_,?_,TS.ok_gh hS (jd.gone _ _),jd.gone _ _,grow _,by rw[<-k3]; exact new t (l.take len) _ rfl,h⟩;have hl: (l.take len).length=len:=by simp; omega
    simp only[Cl.av];rw[h4.1,hl];exact fin len h4.2
 ·cases h
theorem Ob: ∀ (ets:List (Option Ty)) (cs:List Cl) (S:TS) (gs:List eL) (κ:List Cl->List eL->TS->Option ρ) (r:ρ),S.ok->(∀c∈cs,c.ok S.gh)->Lm S gs ets cs κ=some r->
  ∃cs' gs' S',uh S.st (gs.map eL.tree) (ets.map De) (cs.map Cl.av)=some (cs'.map Cl.av,gs'.map eL.tree,TS.st S')/\S'.ok/\jd S.gh S'.gh/\jd (gs.map some) (gs'.map some)/\(∀c∈cs',c.ok (gs'.map some))/\κ cs' gs' S'=some r:=by
 intro ets
 induction ets with
 |nil=>
  intro cs S gs κ r hS hcs h;cases cs with
  |nil=>exact⟨[],gs,S,rfl,hS,jd.refl _,jd.refl _,(fun c hc=>by cases hc),h⟩
  |cons c cs=>cases h
 |cons et ets ih=>
  intro cs S gs κ r hS hcs h;cases cs with
  |nil=>cases h
  |cons c cs=>
   unfold Lm at h;obtain⟨c',g1,S1,h1,h2,h3,h4,h5,h⟩:=Lz hS (hcs c aI) h;obtain⟨cs',g2,S2,k1,k2,k3,k4,k5,h⟩:=ih cs S1 g1 _ r h2 (fun x hx=>Cl.ok_mono h3 (hcs x (aE _ hx))) h;refine⟨c'::cs',g2,S2,?_,k2,h3.trans k3,h4.trans k4,fun x hx=> ?_,h⟩
   ·simp only[aQ,uh,h1,ae,k1,aB]
   ·rcases aR.1 hx with rfl|hx
    ·exact Cl.ok_mono k4 h5
    ·exact k5 x hx
theorem PZ (hΘ:gC P Θ) (hS:S.ok) {gs:List eL} {t:TypeId} {v:V} (hv:v.ok S.gh) {κ:V1->List eL->TS->Option ρ} {r:ρ} (h:Rd Θ S gs t v κ=some r):
  ∃v' gs' S',LW P S.st (gs.map eL.tree) t v.av=some (V1.av v',gs'.map eL.tree,TS.st S')/\S'.ok/\jd S.gh S'.gh/\jd (gs.map some) (gs'.map some)/\v'.ok (gs'.map some)/\κ v' gs' S'=some r:=by
 unfold Rd at h;split at h
 ·cases h
 ·rename_i ti hti;have hsh:=(hΘ _ _ hti).sh;split at h
  ·rename_i cs;obtain⟨cs',g1,S1,h1,h2,h3,h4,h5,h⟩:=Ob _ _ _ _ _ _ hS hv h;refine⟨.agg cs',g1,S1,?_,h2,h3,h4,h5,h⟩;simp only[V.av,V1.av,LW,hsh];rw[show ti.ty.shs=ti.ty.csh.map De from rfl,h1];rfl
  ·rename_i c;obtain⟨c',g1,S1,h1,h2,h3,h4,h5,h⟩:=Lz hS hv h;refine⟨.cl c',g1,S1,?_,h2,h3,h4,h5,h⟩
   have e:LW P S.st (gs.map eL.tree) t (V.v (.cl c)).av=Bw S.st (gs.map eL.tree) ((pn P 9 t).headD 0) c.av:=by
    cases c with
    |c x=>cases x<;>rfl
    | _=>rfl
   rw[e,hsh]
   have e2:ti.ty.shs.headD 0=De (ti.ty.csh.headD none):=by
    unfold Ty.shs;cases ti.ty.csh with
    |nil=>rfl
    |cons a l=>cases a<;>rfl
   rw[e2];exact h1
  ·cases h
theorem Dk (hΘ:gC P Θ): ∀ (rs:List (TypeId×V)) (S:TS) (gs:List eL) (κ:List V1->List eL->Option ρ) (r:ρ),S.ok->(∀x∈rs,x.2.ok S.gh)->tK Θ S gs rs κ=some r->
  ∃vs gs',HD P S.st (gs.map eL.tree) (rs.map fun x=>(x.1,x.2.av))=some (vs.map V1.av,gs'.map eL.tree)/\jd (gs.map some) (gs'.map some)/\(∀v∈vs,v.ok (gs'.map some))/\vs.length=rs.length/\κ vs gs'=some r:=by
 intro rs
 induction rs with
 |nil=>intro S gs κ r hS hrs h; exact⟨[],gs,rfl,jd.refl _,(fun v hv=>by cases hv),rfl,h⟩
 |cons x rs ih=>
  intro S gs κ r hS hrs h;obtain⟨t,v⟩:=x;unfold tK at h;obtain⟨v',g1,S1,h1,h2,h3,h4,h5,h⟩:=PZ hΘ hS (hrs _ aI) h;obtain⟨vs,g2,k1,k2,k3,k4,h⟩:=ih S1 g1 _ r h2 (fun x hx=>V.ok_mono h3 (hrs x (aE _ hx))) h;refine⟨v'::vs,g2,?_,h4.trans k2,fun y hy=> ?_,by simp[k4],h⟩
  ·simp only[aQ,HD,h1,ae,k1,aB]
  ·rcases aR.1 hy with rfl|hy
   ·exact V1.ok_mono k2 h5
   ·exact k3 y hy
theorem GC (hΘ:gC P Θ) (hS:S.ok): ∀ (rs:List ResultVar) (ts:List TypeId) (κ:List (TypeId×V)->Option ρ) (r:ρ),BC Θ S rs ts κ=some r->
  ∃l:List (TypeId×V),rs.mapM (yV P S.st)=some (l.map fun x=>x.2.av)/\l.map (·.1)=ts/\(∀x∈l,x.2.ok S.gh)/\κ l=some r:=by
 intro rs
 induction rs with
 |nil=>
  intro ts κ r h;cases ts with
  |nil=>exact⟨[],rfl,rfl,(fun x hx=>by cases hx),h⟩
  |cons t ts=>cases h
 |cons a rs ih=>
  intro ts κ r h;cases ts with
  |nil=>cases a<;>cases h
  |cons t ts=>
   cases a with
   |tmp a=>
    unfold BC at h;obtain⟨l,h1,h2,h3,h⟩:=ih ts _ r h;refine⟨(t,jr S.env a)::l,?_,by simp[h2],fun x hx=> ?_,h⟩
    ·simp only[dc,h1,yV];rfl
    ·rcases aR.1 hx with rfl|hx
     ·exact Ck hS a
     ·exact h3 x hx
   |cell a t'=>
    unfold BC at h
    have hw:0<P.cellsOf t':=by
     have h':=h;unfold Ig at h';split at h'
     ·rename_i ti hti;rw[(hΘ _ _ hti).cells];exact Ty.width_pos _
     ·cases h'
    obtain⟨u,g1,g2,h⟩:=Iu hΘ hS (Ck hS a) h;obtain⟨l,h1,h2,h3,h⟩:=ih ts _ r h;refine⟨(t,u)::l,?_,by simp[h2],fun x hx=> ?_,h⟩
    ·simp only[dc,h1,yV];rw[if_pos hw];have :load P S.st t' (S.st.env a)=some u.av:=g1;rw[this];rfl
    ·rcases aR.1 hx with rfl|hx
     ·exact g2
     ·exact h3 x hx
theorem Cn {α β γ:Type} (f:α×β->γ): ∀l:List (α×β),(l.map (·.1)).zip (l.map f)=l.map fun x=>(x.1,f x)
 | [] =>rfl
 |a::l=>by simp only[aQ,List.zip_cons_cons,Cn f l]
theorem GD (vs:List V1): (w7 vs).av=Sa (vs.map V1.av):=by
 match vs with
 | [] =>rfl
 | [v] =>rfl
 |v::u::vs=>rfl
theorem yf: ∀ (args:List V1) (n t:Nat),(jr (mF n args) (n+t)).av=(args.map V1.av).getD t .dead
 | [],n,t=>by simp[mF,jr]; rfl
 |a::l,n,0=>by simp[mF,jr]; rfl
 |a::l,n,t+1=>by
  have :Nat.beq n (n+(t+1))=false:=by
   cases h:Nat.beq n (n+(t+1)) with
   |false=>rfl
   |true=>have:=au h; omega
  simp only[mF,jr,this,cond_false];rw[show n+(t+1)=(n+1)+t by omega,yf l (n+1) t];simp
theorem uv: ∀ (args:List V1) (n:Nat) (x:Nat×V),x∈mF n args-> ∃a∈args,x.2= .v a
 | [],n,x,h=>by cases h
 |a::l,n,x,h=>by
  simp only[mF,aR] at h;rcases h with rfl|h
  ·exact⟨a,aI,rfl⟩
  ·obtain⟨b,hb,he⟩:=uv l (n+1) x h;exact⟨b,aE _ hb,he⟩
theorem Ri (hΘ:gC P Θ) (hY:mJ P Y) (hm:P.follows .mixedOrders=true) {Λ:qh} {f:FuncId} {fn:Func} (hf:EB P f=some fn) (hL: ∀c,fn.body=some c->i9 P Λ (fT c)) {args:List V1} (ha: ∀a∈args,a.ok []) {res:V} {out:List eL}
  (h:Sg Θ Y Λ fn args (fun v g=>some (v,g))=some (res,out)):s8 P f (args.map V1.av) [] res.av (out.map eL.tree):=by
 unfold Sg at h;split at h
 ·cases h
 ·rename_i c hc
  have hcok:mh P c=true:=by
   unfold EB at hf;simp only[aj] at hf;obtain⟨fn',g1,g2⟩:=hf;split at g2
   ·cases g2
   ·rename_i c' hc';split at g2
    ·cases g2
    ·rename_i hn;simp only[af] at g2;subst g2;rw[hc] at hc';simp only[af] at hc';subst hc';simp only[bH,not_or,dj,c9] at hn;exact hn.2
  have hS0: ({ env:=mF 0 args,bx:= [],gh:= [],fz:=0,nt:=args.length+(fn.ntmps-args.length) }:TS).ok:=
   ⟨fun x hx=>by obtain⟨a,h1,h2⟩:=uv _ _ _ hx; rw[h2]; exact ha a h1,fun cs hcs=>by cases hcs⟩
  have hbeg: ({ env:=mF 0 args,bx:= [],gh:= [],fz:=0,nt:=args.length+(fn.ntmps-args.length) }:TS).st=CV fn.ntmps (args.map V1.av) [] :=by
   unfold TS.st CV;simp only[aD,bX]
   congr 1
   funext t
   have:=yf args 0 t;rw[aV] at this;exact this
  have hW:=zh hΘ hY hm c _ _ _ hcok (hL c hc) hS0 h;rw[hbeg] at hW
  have gA: ∀ (x:X) (S1:TS),S1.ok->(match x with | .ext _=>none| _=>BC Θ S1 fn.results.toList fn.resultTypes.toList fun rs=>tK Θ S1 [] rs fun vs gs=>some (w7 vs,gs))=some (res,out)->
    (match x with | .ext _=>False| _=>yW P fn.results.toList fn.resultTypes.toList 0 S1.st=some (res.av,out.map eL.tree)):=by
   intro x S1 hS1 h
   have main: (BC Θ S1 fn.results.toList fn.resultTypes.toList fun rs=>tK Θ S1 [] rs fun vs gs=>some (w7 vs,gs))=some (res,out)->yW P fn.results.toList fn.resultTypes.toList 0 S1.st=some (res.av,out.map eL.tree):=by
    intro h;obtain⟨l,h1,h2,h3,h⟩:=GC (P:=P) hΘ hS1 _ _ _ _ h;obtain⟨vs,gs',k1,k2,k3,k4,h⟩:=Dk (P:=P) hΘ _ _ _ _ _ hS1 h3 h;simp only[af,an] at h;obtain⟨rfl,rfl⟩:=h;unfold yW;rw[h1];simp only[ae,aD]
    have hz: (fn.resultTypes.toList.zip (l.map fun x=>x.2.av))=l.map fun x=>(x.1,x.2.av):=by rw[<-h2];exact Cn _ l
    rw[if_pos (by rw[<-h2]; simp),hz];have k1':HD P S1.st [] (l.map fun x=>(x.1,x.2.av))=some (vs.map V1.av,gs'.map eL.tree):=k1;simp only[List.range_zero,ck,k1',aB,GD]
   cases x with
   |ext i=>cases h
   |nor=>exact main h
   |ret=>exact main h
  refine H6 hf hc (hW.mono (fun x S' hx=>⟨S',po.refl,?_⟩));obtain⟨S1,rfl,h1,h2⟩:=hx;have:=gA x S1 h1 h2;cases x<;>exact this
theorem Bd (a:List V1) (t:Nat): (jr (mF 0 a) t).av=(a.map V1.av).getD t .dead:=by
 have:=yf a 0 t
 rwa [aV] at this
theorem LA (hΘ:gC P Θ) (hY:mJ P Y) (hm:P.follows .mixedOrders=true) {Λ:qh} {f:FuncId} {fn:Func} (hf:EB P f=some fn) (hL: ∀c,fn.body=some c->i9 P Λ (fT c)) {m:Nat} (hm1:m<=1) {el:Ty} {l:List el.D} {args:List V1} (ha: ∀a∈args,a.ok []) {res:V} {out:List eL}
  (h:Mi Θ Y Λ fn m el l args (fun v g=>some (v,g))=some (res,out)):nu P f (.own ⟨0,[]⟩ el.width 0 l.length::args.map V1.av) [.sl el.width (l.map el.row)] m res.av (out.map eL.tree):=by
 unfold Mi at h;split at h
 ·cases h
 ·rename_i c hc
  have hcok:mh P c=true:=by
   unfold EB at hf;simp only[aj] at hf;obtain⟨fn',g1,g2⟩:=hf;split at g2
   ·cases g2
   ·rename_i c' hc';split at g2
    ·cases g2
    ·rename_i hn;simp only[af] at g2;subst g2;rw[hc] at hc';simp only[af] at hc';subst hc';simp only[bH,not_or,dj,c9] at hn;exact hn.2
  have hS0: ({ env:=mF 0 (.cl (.own ⟨0,[]⟩ el.width 0 l.length true)::args),bx:= [],gh:= [some ⟨el,l,none⟩],fz:=m,nt:=(args.length+1)+(fn.ntmps-(args.length+1)) }:TS).ok:=
   ⟨fun x hx=>by
    obtain⟨a,h1,h2⟩:=uv _ _ _ hx;rw[h2];rcases aR.1 h1 with rfl|h1
    ·refine⟨da,fun _=>⟨rfl,rfl,fun tr htr=> ?_⟩⟩;have htr:some (⟨el,l,none⟩:eL)=some tr:=htr;cases htr;rfl
    ·exact V1.ok_mono (G:= []) ⟨aF _,fun r tr hr=>by cases hr⟩ (ha a h1),fun cs hcs=>by cases hcs⟩
  have hbeg: ({ env:=mF 0 (.cl (.own ⟨0,[]⟩ el.width 0 l.length true)::args),bx:= [],gh:= [some ⟨el,l,none⟩],fz:=m,nt:=(args.length+1)+(fn.ntmps-(args.length+1)) }:TS).st=H9 fn.ntmps (.own ⟨0,[]⟩ el.width 0 l.length::args.map V1.av) [.sl el.width (l.map el.row)] m:=by
   unfold TS.st H9 CV;simp only[aD,ba,bX]
   congr 1
   ·funext t
    exact Bd _ t
   ·funext r
    show (fA [some ⟨el,l,none⟩] r).map eL.tree= [T.sl el.width (l.map el.row)][r]?;unfold fA;rw[fZ];cases r<;>rfl
  have hW:=zh hΘ hY hm c _ _ _ hcok (hL c hc) hS0 h;rw[hbeg] at hW
  have fin: ∀ (S1:TS),S1.ok-> ∀gs:List eL,((List.range m).map fun r=>(S1.st.gh r).getD .dd)=gs.map eL.tree-> ∀l,(fn.results.toList.mapM (yV P S1.st))=some (l.map fun x:TypeId×V=>x.2.av)->l.map (·.1)=fn.resultTypes.toList->(∀x∈l,x.2.ok S1.gh)->
    (tK Θ S1 gs l fun vs gs=>some (w7 vs,gs))=some (res,out)->yW P fn.results.toList fn.resultTypes.toList m S1.st=some (res.av,out.map eL.tree):=by
   intro S1 hS1 gs hgs l h1 h2 h3 h;obtain⟨vs,gs',k1,k2,k3,k4,h⟩:=Dk (P:=P) hΘ _ _ _ _ _ hS1 h3 h;simp only[af,an] at h;obtain⟨rfl,rfl⟩:=h;unfold yW;rw[h1];simp only[ae,aD]
   have hz: (fn.resultTypes.toList.zip (l.map fun x=>x.2.av))=l.map fun x=>(x.1,x.2.av):=by rw[<-h2];exact Cn _ l
   rw[if_pos (by rw[<-h2]; simp),hz,hgs,k1];simp only[aB,GD]
  have main: ∀ (S1:TS),S1.ok->(BC Θ S1 fn.results.toList fn.resultTypes.toList fun rs=>bif Nat.beq m 0 then tK Θ S1 [] rs fun vs gs=>some (w7 vs,gs) else match fA S1.gh 0 with
    |some ⟨t,l',none⟩=>tK Θ S1 [⟨t,l',none⟩] rs fun vs gs=>some (w7 vs,gs)
    | _=>none)=some (res,out)->yW P fn.results.toList fn.resultTypes.toList m S1.st=some (res.av,out.map eL.tree):=by
   intro S1 hS1 h0;obtain⟨l,h1,h2,h3,h⟩:=GC (P:=P) hΘ hS1 _ _ _ _ h0;clear h0;cases hm0:Nat.beq m 0 with
   |true=>rw[hm0] at h;have e:m=0:=au hm0;exact fin S1 hS1 [] (by rw[e]; rfl) l h1 h2 h3 h
   |false=>
    rw[hm0] at h;simp only[cond_false] at h
    have e:m=1:=by
     have :m≠0:=fun e=>by rw[e] at hm0; cases hm0
     omega
    split at h
    ·rename_i t l' hg
     exact fin S1 hS1 [⟨t,l',none⟩] (by
      rw[e];show [(S1.st.gh 0).getD .dd] =_
      have :S1.st.gh 0=some (eL.tree ⟨t,l',none⟩):=by show (fA S1.gh 0).map eL.tree=_;rw[hg];rfl
      rw[this];rfl) l h1 h2 h3 h
    ·cases h
  refine A8 hf hc (by simpa using hm1) (hW.mono (fun x S' hx=>⟨S',po.refl,?_⟩));obtain⟨S1,rfl,h1,h2⟩:=hx;cases x with
  |ext i=>cases h2
  |nor=>exact main S1 h1 h2
  |ret=>exact main S1 h1 h2
theorem Kp (_P:Program) (S:TS): ∀ (n r:Nat) (gs:List eL),wI S r n=some gs->((List.range' r n).map fun r=>(S.st.gh r).getD .dd)=gs.map eL.tree:=by
 intro n
 induction n with
 |zero=>intro r gs h;simp only[wI,af] at h;subst h;rfl
 |succ n ih=>
  intro r gs h;simp only[wI] at h;split at h
  ·rename_i t l hg;split at h
   ·rename_i ts hts;simp only[af] at h;subst h;rw[cj,aQ,aQ,ih _ _ hts]
    congr 1
    show ((fA S.gh r).map eL.tree).getD .dd=_;rw[hg];rfl
   ·cases h
  ·cases h
theorem zi: ∀ (cs:List C) (n:Nat) (G:List (Option eL)),(∀k t,(nw cs)[k]? =some t->fA G (n+k)=some t)-> ∀c∈vk cs n,c.ok G
 | [],n,G,h,c,hc=>by cases hc
 | .sc v::r,n,G,h,c,hc=>by
   simp only[vk,aR] at hc;rcases hc with rfl|hc
   ·trivial
   ·exact zi r n G h c hc
 | .ls t l::r,n,G,h,c,hc=>by
   simp only[vk,aR] at hc;have h0:=h 0 ⟨t,l,none⟩ rfl;rw[cd] at h0;rcases hc with rfl|hc
   ·refine⟨uu h0,fun _=>⟨rfl,rfl,fun tr htr=> ?_⟩⟩;have e:some (⟨t,l,none⟩:eL)=some tr:=h0.symm.trans htr;cases e;rfl
   ·exact zi r (n+1) G (fun k t' hk=>by
     have:=h (k+1) t' (by simpa [nw] using hk)
     rwa [show n+(k+1)=n+1+k by omega] at this) c hc
theorem P0 (hΘ:gC P Θ) (hY:mJ P Y) (hm:P.follows .mixedOrders=true) {Λ:qh} {f:FuncId} {fn:Func} (hf:EB P f=some fn) (hL: ∀c,fn.body=some c->i9 P Λ (fT c)) {t:Ty} {x:t.D} {args:List V1} (ha: ∀a∈args,a.ok []) {res:V} {out:List eL}
  (h:Pz Θ Y Λ fn t x args (fun v g=>some (v,g))=some (res,out)):nu P f ((C5 t x 0).av::args.map V1.av) ((nw (t.flat x)).map eL.tree) (bif true then (nw (t.flat x)).length else 0) res.av (out.map eL.tree):=by
 unfold Pz at h;split at h
 ·cases h
 ·rename_i c hc
  have hcok:mh P c=true:=by
   unfold EB at hf;simp only[aj] at hf;obtain⟨fn',g1,g2⟩:=hf;split at g2
   ·cases g2
   ·rename_i c' hc';split at g2
    ·cases g2
    ·rename_i hn;simp only[af] at g2;subst g2;rw[hc] at hc';simp only[af] at hc';subst hc';simp only[bH,not_or,dj,c9] at hn;exact hn.2
  generalize hgs:nw (t.flat x)=gs0 at*
  have hgh0: ∀k t',gs0[k]? =some t'->fA (gs0.map some) (0+k)=some t':=by intro k t' hk;unfold fA;rw[fZ,aV,ap,hk];rfl
  have h1ok: (C5 t x 0).ok (gs0.map some):=by
   unfold C5;cases t.ag with
   |true=>intro c hc;exact zi (t.flat x) 0 _ (by rw[hgs]; exact hgh0) c hc
   |false=>
    simp only[cond_false];split
    ·rename_i c hc;exact zi (t.flat x) 0 _ (by rw[hgs]; exact hgh0) c (by rw[hc]; exact ax.2 rfl)
    ·trivial
  have hS0: ({ env:=mF 0 (C5 t x 0::args),bx:= [],gh:=gs0.map some,fz:=gs0.length,nt:=(args.length+1)+(fn.ntmps-(args.length+1)) }:TS).ok:=
   ⟨fun x hx=>by
    obtain⟨a,h1,h2⟩:=uv _ _ _ hx;rw[h2];rcases aR.1 h1 with rfl|h1
    ·exact h1ok
    ·exact V1.ok_mono (G:= []) ⟨aF _,fun r tr hr=>by cases hr⟩ (ha a h1),fun cs hcs=>by cases hcs⟩
  have hbeg: ({ env:=mF 0 (C5 t x 0::args),bx:= [],gh:=gs0.map some,fz:=gs0.length,nt:=(args.length+1)+(fn.ntmps-(args.length+1)) }:TS).st=H9 fn.ntmps ((C5 t x 0).av::args.map V1.av) (gs0.map eL.tree) gs0.length:=by
   unfold TS.st H9 CV;simp only[aD,ba]
   congr 1
   ·funext t
    exact Bd _ t
   ·funext r
    show (fA (gs0.map some) r).map eL.tree=(gs0.map eL.tree)[r]?;unfold fA;rw[fZ,ap,ap];cases gs0[r]?<;>rfl
  have hW:=zh hΘ hY hm c _ _ _ hcok (hL c hc) hS0 h;rw[hbeg] at hW
  have main: ∀ (S1:TS),S1.ok->(BC Θ S1 fn.results.toList fn.resultTypes.toList fun rs=>match wI S1 0 gs0.length with
    |some gs=>tK Θ S1 gs rs fun vs gs'=>some (w7 vs,gs')
    |none=>none)=some (res,out)->yW P fn.results.toList fn.resultTypes.toList gs0.length S1.st=some (res.av,out.map eL.tree):=by
   intro S1 hS1 h0;obtain⟨l,h1,h2,h3,h⟩:=GC (P:=P) hΘ hS1 _ _ _ _ h0;clear h0;split at h
   ·rename_i gs hgs';have hgs2:=Kp P S1 _ _ _ hgs';rw[<-co] at hgs2;obtain⟨vs,gs',k1,k2,k3,k4,h⟩:=Dk (P:=P) hΘ _ _ _ _ _ hS1 h3 h;simp only[af,an] at h;obtain⟨rfl,rfl⟩:=h;unfold yW;rw[h1];simp only[ae,aD]
    have hz: (fn.resultTypes.toList.zip (l.map fun x=>x.2.av))=l.map fun x=>(x.1,x.2.av):=by rw[<-h2];exact Cn _ l
    rw[if_pos (by rw[<-h2]; simp),hz,hgs2,k1];simp only[aB,GD]
   ·cases h
  refine A8 hf hc (by simp) (hW.mono (fun x S' hx=>⟨S',po.refl,?_⟩));obtain⟨S1,rfl,h1,h2⟩:=hx;cases x with
  |ext i=>cases h2
  |nor=>exact main S1 h1 h2
  |ret=>exact main S1 h1 h2
end
end
section
open Go
def BD:List Nat->Nat->Nat->Option Nat
 | [],_,_=>none
 |a::l,x,n=>bif Nat.beq a x then some n else BD l x (n+1)
def yg (bs ls:List Nat):Cl->Cl
 | .own p sz lo len w=>match BD ls p.r 0 with |some k=> .own ⟨k,p.l⟩ sz lo len w|none=> .dead
 | .ptrT p sz i j=>match BD ls p.r 0 with |some k=> .ptrT ⟨k,p.l⟩ sz i j|none=> .dead
 | .ptrB n j=>match BD bs n 0 with |some k=> .ptrB k j|none=> .dead
 |c=>c
def Oc (bs ls:List Nat):V1->V1
 | .cl c=> .cl (yg bs ls c)
 | .agg cs=> .agg (cs.map (yg bs ls))
 | .fn f cs=> .fn f (cs.map (yg bs ls))
def Od (bs ls:List Nat):V->V
 | .v x=> .v (Oc bs ls x)
 | .tup _=>V.dead
def LB:List Nat->List Nat->List Nat
 | [],acc=>acc
 |a::l,acc=>match BD acc a 0 with |some _=>LB l acc|none=>LB l (acc++ [a])
def Dl:List Nat->Bool
 | [] =>true
 |a::l=>(match BD l a 0 with |some _=>false|none=>true)&&Dl l
def Tw:Cl->List Nat| .ptrB n _=> [n] | _=> []
def Sl:Cl->List Nat| .own p _ _ _ _=> [p.r] | .ptrT p _ _ _=> [p.r] | _=> []
def V1.all:V1->List Cl| .cl c=> [c] | .agg cs=>cs| .fn _ cs=>cs
def V.all:V->List Cl| .v x=>x.all| .tup _=> []
def LC (S:TS) (keep:List Nat):List Nat:=LB (keep.flatMap fun t=>(jr S.env t).all.flatMap Tw) []
def QN (S:TS) (keep bs:List Nat):List Nat:=LB (List.range S.fz++(keep.flatMap fun t=>(jr S.env t).all.flatMap Sl)++bs.flatMap fun b=>((pq S.bx b).getD []).flatMap Sl) []
def js (S:TS) (keep bs ls:List Nat):TS where
 env:=keep.map fun t=>(t,Od bs ls (jr S.env t))
 bx:=bs.map fun b=>((pq S.bx b).getD []).map (yg bs ls)
 gh:=ls.map fun r=>fA S.gh r
 fz:=S.fz
 nt:=S.nt
def GF (S:TS) (bs ls:List Nat):Bool:=Dl bs&&Dl ls&&bs.all (fun b=>Nat.blt b S.bx.length)&&Sc (ls.take S.fz) (List.range S.fz)&&ls.all (fun r=>Nat.blt r S.gh.length)
def Mt (G:List (Option eL)):Cl->Cl
 | .own p sz lo len true=> .own p sz lo (match pq G p.r with |some (some tr)=>tr.l.length| _=>len) true
 |c=>c
def Oe (G:List (Option eL)):V1->V1
 | .cl c=> .cl (Mt G c)
 | .agg cs=> .agg (cs.map (Mt G))
 | .fn f cs=> .fn f (cs.map (Mt G))
def So (G:List (Option eL)):V->V
 | .v x=> .v (Oe G x)
 | .tup l=> .tup (l.map (Oe G))
def Rj (S:TS):TS:= { S with env:=S.env.map (fun x=>(x.1,So S.gh x.2)),bx:=S.bx.map (fun cs=>cs.map (Mt S.gh)) }
def An {ρ:Type} (keep:List Nat) (S:TS) (κ:TS->Option ρ):Option ρ:=bif GF S (LC S keep) (QN S keep (LC S keep)) then κ (Rj (js S keep (LC S keep) (QN S keep (LC S keep)))) else none
theorem Ao: ∀ {l:List Nat} {x n k:Nat},BD l x n=some k->n<=k/\l[k-n]? =some x
 | [],x,n,k,h=>by cases h
 |a::l,x,n,k,h=>by
  simp only[BD] at h;cases hb:Nat.beq a x with
  |true=>rw[hb] at h;simp only[cond_true,af] at h;subst h;exact⟨ay _,by simp[au hb]⟩
  |false=>rw[hb] at h;obtain⟨h1,h2⟩:=Ao (l:=l) h;refine⟨by omega,?_⟩;rw[show k-n=(k-(n+1))+1 by omega,ca];exact h2
theorem FP: ∀ {l:List Nat} {x n:Nat},BD l x n=none->x∉l
 | [],x,n,_=>by simp
 |a::l,x,n,h=>by
  simp only[BD] at h;cases hb:Nat.beq a x with
  |true=>rw[hb] at h; cases h
  |false=>
   rw[hb] at h;have:=FP (l:=l) h;intro hm;rcases aR.1 hm with rfl|hm
   ·rw[cE] at hb; cases hb
   ·exact this hm
theorem yh: ∀ {l:List Nat},Dl l=true-> ∀ (i j x:Nat),l[i]? =some x->l[j]? =some x->i=j
 | [],_,i,j,x,hi,_=>by simp at hi
 |a::l,h,i,j,x,hi,hj=>by
  simp only[Dl,ar] at h
  have hna:a∉l:=by
   have h1:=h.1;split at h1
   ·cases h1
   ·rename_i hp; exact FP hp
  cases i with
  |zero=>
   simp only[aG,af] at hi;subst hi;cases j with
   |zero=>rfl
   |succ j=>simp only[ca] at hj; exact absurd (aq hj) hna
  |succ i=>
   simp only[ca] at hi;cases j with
   |zero=>simp only[aG,af] at hj;subst hj;exact absurd (aq hi) hna
   |succ j=>simp only[ca] at hj;rw[yh h.2 i j x hi hj]
def Bt.ren (bt:Bt) (bs ls:List Nat):Bt where
 β:=fun p=>bt.β ⟨ls.getD p.r 0,p.l⟩
 κ:=fun p=>bt.κ ⟨ls.getD p.r 0,p.l⟩
 bb:=fun n=>bt.bb (bs.getD n 0)
 nb:=bs.length
 ng:=ls.length
 A:=bt.A
theorem GG {w:World} {bt:Bt} {bs ls:List Nat} {c:Cl} {u:Value} (h:VR w bt c.av u):VR w (bt.ren bs ls) (yg bs ls c).av u:=by
 have lt: ∀ {l:List Nat} {x k:Nat},BD l x 0=some k->k<l.length/\l.getD k 0=x:=by intro l x k hk;obtain⟨_,h2⟩:=Ao hk;rw[cK] at h2;exact⟨(ai.1 h2).1,by simp[aw,h2]⟩
 cases c with
 |c x=>
  cases x with
  |sc v=>cases h with |sc h=>exact .sc h
  |ls t l=>cases h with |ro h=>exact .ro h
 |em=>cases h with |em a=>exact .em a
 |own p sz lo len wh=>
  simp only[yg];split
  ·rename_i k hk;obtain⟨h1,h2⟩:=lt hk;have hp: (⟨ls.getD k 0,p.l⟩:eT)=p:=by rw[h2]
   have e1: (bt.ren bs ls).κ ⟨k,p.l⟩=bt.κ p:=by have e: (bt.ren bs ls).κ ⟨k,p.l⟩=bt.κ (eT.mk (ls.getD k 0) p.l):=rfl;rw[e,hp]
   have e2: (bt.ren bs ls).β ⟨k,p.l⟩=bt.β p:=by have e: (bt.ren bs ls).β ⟨k,p.l⟩=bt.β (eT.mk (ls.getD k 0) p.l):=rfl;rw[e,hp]
   cases h with
   |own hp' hc hkk ha=>exact .own h1 hc (by rw[e1]; exact hkk) (by rw[e2]; exact ha)
  ·exact .dead _
 |pro cs=>cases h with |pro cs hs hA hr ht=>exact .pro cs hs hA hr ht
 |ptrB n j=>
  simp only[yg];split
  ·rename_i k hk;obtain⟨h1,h2⟩:=lt hk;cases h with
   |ptrB j hn=>
    have :bt.bb n=(bt.ren bs ls).bb k:=by show bt.bb n=bt.bb (bs.getD k 0); rw[h2]
    rw[this];exact .ptrB j h1
  ·exact .dead _
 |ptrT p sz i j=>
  simp only[yg];split
  ·rename_i k hk;obtain⟨h1,h2⟩:=lt hk;have hp: (⟨ls.getD k 0,p.l⟩:eT)=p:=by rw[h2]
   cases h with
   |ptrT sz i j hp' hkk=>
    have e1:bt.β p=(bt.ren bs ls).β ⟨k,p.l⟩:=by show bt.β p=bt.β ⟨ls.getD k 0,p.l⟩; rw[hp]
    rw[e1];exact .ptrT sz i j h1 (by show _<bt.κ ⟨ls.getD k 0,p.l⟩; rw[hp]; exact hkk)
  ·exact .dead _
 |dead=>exact .dead _
theorem Of {w:World} {bt:Bt} {bs ls:List Nat} {v:V1} {u:Value} (h:VR w bt v.av u):VR w (bt.ren bs ls) (Oc bs ls v).av u:=by
 have cells: ∀ (cs:List Cl) (us:List Value),us.length=cs.length->(∀ (k:Nat) (c:AV) (u:Value),(cs.map Cl.av)[k]? =some c->us[k]? =some u->VR w bt c u)-> ∀ (k:Nat) (c:AV) (u:Value),((cs.map (yg bs ls)).map Cl.av)[k]? =some c->us[k]? =some u->VR w (bt.ren bs ls) c u:=by intro cs us _ hr k c u hk hu;rw[ap,ap] at hk;simp only[ak] at hk;obtain⟨c1,⟨c0,hc0,rfl⟩,rfl⟩:=hk;exact GG (hr k c0.av u (by rw[ap,hc0]; rfl) hu)
 cases v with
 |cl c=>exact GG h
 |agg cs=>
  simp only[V1.av] at h;cases h with
  |agg hl ho hr=>exact .agg (by simpa using hl) ho (cells cs _ (by simpa using hl) hr)
 |fn f cs=>
  simp only[V1.av] at h;cases h with
  |fn f hl hr=>exact .fn f (by simpa using hl) (cells cs _ (by simpa using hl) hr)
theorem P1 {w:World} {bt:Bt} {bs ls:List Nat} {v:V} {u:Value} (h:VR w bt v.av u):VR w (bt.ren bs ls) (Od bs ls v).av u:=by
 cases v with
 |v x=>exact Of h
 |tup l=>exact .dead _
theorem FQ (S:TS) (f:V->V): ∀ (keep:List Nat) (t:Nat),jr (keep.map fun t=>(t,f (jr S.env t))) t=V.dead\/jr (keep.map fun t=>(t,f (jr S.env t))) t=f (jr S.env t)
 | [],t=> .inl rfl
 |u::l,t=>by
  simp only[aQ,jr];cases hb:Nat.beq u t with
  |true=>rw[au hb]; exact .inr rfl
  |false=>exact FQ S f l t
theorem wN (S:TS) (keep bs ls:List Nat) (r:Nat):fA (js S keep bs ls).gh r=(ls[r]?).bind fun q=>fA S.gh q:=by show (pq (ls.map fun r=>fA S.gh r) r).getD none=_;rw[fZ,ap];cases ls[r]?<;>rfl
theorem IL {S:TS} {keep bs ls:List Nat} (h:GF S bs ls=true):po S.st (js S keep bs ls).st:=by
 unfold GF at h;simp only[ar] at h;obtain⟨⟨⟨⟨hnb,hnl⟩,hbs⟩,hfz⟩,hlt⟩:=h;have hfz:=Gy hfz;intro w0 W btI SI bt a w hl;have inv:=hl.inv
 have hls: ∀ (k:Nat),k<S.fz->ls[k]? =some k:=by
  intro k hk;have : (ls.take S.fz)[k]? =(List.range S.fz)[k]? :=by rw[hfz]
  rw[aZ,if_pos hk,List.getElem?_range hk] at this;exact this
 have look: ∀p s rs,(js S keep bs ls).st.look p= .sl s rs-> ∃q,ls[p.r]? =some q/\S.st.look ⟨q,p.l⟩= .sl s rs/\ls.getD p.r 0=q:=by
  intro p s rs hp;unfold St.look at hp
  have e: (js S keep bs ls).st.gh p.r=((ls[p.r]?).bind fun q=>fA S.gh q).map eL.tree:=by show (fA _ _).map eL.tree=_;rw[wN]
  rw[e] at hp;cases hq:ls[p.r]? with
  |none=>rw[hq] at hp; cases hp
  |some q=>refine⟨q,rfl,?_,by simp[aw,hq]⟩;rw[hq] at hp;exact hp
 have box: ∀n cells,(js S keep bs ls).st.bx n=some cells-> ∃b cs,bs[n]? =some b/\S.bx[b]? =some cs/\cells=(cs.map (yg bs ls)).map Cl.av/\bs.getD n 0=b:=by intro n cells hn;have hn': (pq (bs.map fun b=>((pq S.bx b).getD []).map (yg bs ls)) n).map (fun cs=>cs.map Cl.av)=some cells:=hn;rw[fZ,ap] at hn';simp only[ak] at hn';obtain⟨x,⟨b,hb,rfl⟩,rfl⟩:=hn';have hlt':b<S.bx.length:=az (aA.1 hbs b (aq hb));refine⟨b,S.bx[b],hb,ah hlt',?_,by simp[aw,hb]⟩;rw[fZ,ah hlt'];rfl
 have bxS: ∀ {b:Nat} {cs:List Cl},S.bx[b]? =some cs->S.st.bx b=some (cs.map Cl.av):=by intro b cs hb;show (pq S.bx b).map _=_;rw[fZ,hb];rfl
 refine⟨bt.ren bs ls,?_⟩
 refine⟨{ os:=inv.os,tape:=inv.tape,output:=inv.output,size:=inv.size,keep:=inv.keep
          nb:=by show bs.length=_; simp[TS.st,js]
          ng:=by show ls.length=_; simp[TS.st,js]
          bx:=fun n cells hn=> ?_
          gh:=fun r t hr=> ?_
          tr:=fun p sz rows hp=> ?_
          inj:=fun p q s rs s' rs' hp hq hk hk' he=> ?_
          bbinj:=fun n m cs cs' hn hm he=> ?_
          bbtr:=fun n cs p s rs hn hp hk=> ?_
          alt:=inv.alt
          atr:=fun p s rs hp hk=> ?_
          abb:=fun n cs hn=> ?_ },⟨hl.er.1,fun t=> ?_⟩,hl.defers,hl.fz,?_,fun p hp=> ?_,fun r hr hn=> ?_⟩
 ·obtain⟨b,cs,h1,h2,rfl,h4⟩:=box n cells hn;obtain⟨g1,g2,arr,e,g3,g4,g5⟩:=inv.bx b _ (bxS h2);refine⟨by show n<_; have:=(ai.1 h1).1; simpa [TS.st,js] using this,by show _<=bt.bb (bs.getD n 0); rw[h4]; exact g2,arr,e,by show w.heap[bt.bb (bs.getD n 0)]? =_; rw[h4]; exact g3,by simpa using g4,fun j v hj=> ?_⟩;rw[ap,ap] at hj;simp only[ak] at hj;obtain⟨c1,⟨c0,hc0,rfl⟩,rfl⟩:=hj;obtain⟨c,k1,k2,k3⟩:=g5 j c0.av (by rw[ap,hc0]; rfl);exact⟨c,k1,GG k2,k3⟩
 ·have hr': (fA (js S keep bs ls).gh r).map eL.tree=some t:=hr;rw[wN] at hr';show r<_;cases hq:ls[r]? with
  |none=>rw[hq] at hr'; cases hr'
  |some q=>have:=(ai.1 hq).1;simpa [TS.st,js] using this
 ·obtain⟨q,h1,h2,h3⟩:=look p sz rows hp;obtain⟨g1,g2⟩:=inv.tr _ _ _ h2;have eκ: (bt.ren bs ls).κ p=bt.κ ⟨q,p.l⟩:=by show bt.κ ⟨ls.getD p.r 0,p.l⟩=_; rw[h3]
  have eβ: (bt.ren bs ls).β p=bt.β ⟨q,p.l⟩:=by show bt.β ⟨ls.getD p.r 0,p.l⟩=_; rw[h3]
  rw[eκ,eβ];refine⟨g1,fun hk=>⟨(g2 hk).1,?_⟩⟩;obtain⟨_,cs,e,k1,k2,k3,k4⟩:=g2 hk;refine⟨cs,e,by rw[eβ]; exact k1,by rw[eκ]; exact k2,k3,fun i r hi=> ?_⟩;obtain⟨m1,m2⟩:=k4 i r hi;refine⟨m1,fun j x hj=> ?_⟩;obtain⟨c,n1,n2⟩:=m2 j x hj;refine⟨c,n1,?_⟩;have f1: (bt.ren bs ls).κ (p.sub i j)=bt.κ (eT.sub ⟨q,p.l⟩ i j):=by show bt.κ ⟨ls.getD p.r 0,p.l++ [(i,j)]⟩=bt.κ ⟨q,p.l++ [(i,j)]⟩; rw[h3]
  have f2: (bt.ren bs ls).β (p.sub i j)=bt.β (eT.sub ⟨q,p.l⟩ i j):=by show bt.β ⟨ls.getD p.r 0,p.l++ [(i,j)]⟩=bt.β ⟨q,p.l++ [(i,j)]⟩; rw[h3]
  cases n2 with
  |sc h=>exact .sc h
  |dd u=>exact .dd _
  |sl q1 q2 q3=>exact .sl q1 (by rw[f1]; exact q2) (by rw[f2]; exact q3)
 ·obtain⟨p',h1,h2,h3⟩:=look p s rs hp;obtain⟨q',g1,g2,g3⟩:=look q s' rs' hq;have:=inv.inj ⟨p',p.l⟩ ⟨q',q.l⟩ _ _ _ _ h2 g2 (by rw[<-h3]; exact hk) (by rw[<-g3]; exact hk') (by rw[<-h3,<-g3]; exact he);simp only[eT.mk.injEq] at this;obtain⟨e1,e2⟩:=this;subst e1;have e3:=yh hnl _ _ _ h1 g1;cases p; cases q;simp only at e3 e2;rw[e3,e2]
 ·obtain⟨b,c,h1,h2,_,h4⟩:=box n cs hn;obtain⟨b',c',g1,g2,_,g4⟩:=box m cs' hm
  have:=inv.bbinj b b' _ _ (bxS h2) (bxS g2) (by have he':bt.bb (bs.getD n 0)=bt.bb (bs.getD m 0):=he;rw[h4,g4] at he';exact he')
  subst this;exact yh hnb _ _ _ h1 g1
 ·obtain⟨b,c,h1,h2,_,h4⟩:=box n cs hn;obtain⟨q,g1,g2,g3⟩:=look p s rs hp;have hk':0<bt.κ ⟨ls.getD p.r 0,p.l⟩:=hk;rw[g3] at hk';show bt.bb (bs.getD n 0)≠bt.β ⟨ls.getD p.r 0,p.l⟩;rw[h4,g3];exact inv.bbtr _ _ _ _ _ (bxS h2) g2 hk'
 ·obtain⟨q,g1,g2,g3⟩:=look p s rs hp;have hk':0<bt.κ ⟨ls.getD p.r 0,p.l⟩:=hk;rw[g3] at hk';show ¬bt.A (bt.β ⟨ls.getD p.r 0,p.l⟩);rw[g3];exact inv.atr _ _ _ g2 hk'
 ·obtain⟨b,c,h1,h2,_,h4⟩:=box n cs hn;show ¬bt.A (bt.bb (bs.getD n 0));rw[h4];exact inv.abb _ _ (bxS h2)
 ·show VR w _ (jr (js S keep bs ls).env t).av _;rcases FQ S (Od bs ls) keep t with h1|h1
  ·have :jr (js S keep bs ls).env t=V.dead:=h1;rw[this];exact .dead _
  ·have :jr (js S keep bs ls).env t=Od bs ls (jr S.env t):=h1;rw[this];exact P1 (hl.er.2 t)
 ·show S.fz<=(js S keep bs ls).gh.length;rcases bh S.fz with h0|h0
  ·omega
  ·have:=(ai.1 (hls (S.fz-1) (by omega))).1;simp[js];omega
 ·have hp':p.r<S.fz:=by have:=hl.fz; have e:S.st.fz=S.fz:=rfl; omega
  have h3:ls.getD p.r 0=p.r:=by simp[aw,hls p.r hp']
  have:=hl.keep p hp;show bt.β ⟨ls.getD p.r 0,p.l⟩=_/\bt.κ ⟨ls.getD p.r 0,p.l⟩=_;rw[h3];exact this
 ·have hr':r<S.fz:=by have:=hl.fz; have e:S.st.fz=S.fz:=rfl; omega
  refine hl.gone r hr ?_;have hn': (fA (js S keep bs ls).gh r).map eL.tree=none:=hn;rw[wN,hls r hr'] at hn';exact hn'
theorem Co {S:TS} {bs ls:List Nat} {keep:List Nat} {c:Cl} (h:c.ok S.gh): (yg bs ls c).ok (js S keep bs ls).gh:=by
 have lt: ∀ {x k:Nat},BD ls x 0=some k->k< (js S keep bs ls).gh.length/\ls[k]? =some x:=by intro x k hk;obtain⟨_,h2⟩:=Ao hk;rw[cK] at h2;exact⟨by have:=(ai.1 h2).1; simpa [js] using this,h2⟩
 cases c with
 |own p sz lo len w=>
  simp only[yg];split
  ·rename_i k hk;obtain⟨h1,h2⟩:=lt hk;refine⟨h1,fun hw=> ?_⟩;obtain⟨a,b,c⟩:=h.2 hw;refine⟨a,b,fun tr htr=>c tr ?_⟩;rw[wN,h2] at htr;exact htr
  ·trivial
 |ptrT p sz i j=>
  simp only[yg];split
  ·rename_i k hk; exact (lt hk).1
  ·trivial
 |ptrB n j=>simp only[yg]; split<;>trivial
 | _=>trivial
theorem P2 {S:TS} {bs ls:List Nat} {keep:List Nat} {v:V} (h:v.ok S.gh): (Od bs ls v).ok (js S keep bs ls).gh:=by
 have one: ∀ {v:V1},v.ok S.gh->(Oc bs ls v).ok (js S keep bs ls).gh:=by
  intro v h;cases v with
  |cl c=>exact Co h
  |agg cs=>intro c hc; obtain⟨x,hx,rfl⟩:=aL.1 hc; exact Co (h x hx)
  |fn f cs=>intro c hc; obtain⟨x,hx,rfl⟩:=aL.1 hc; exact Co (h x hx)
 cases v with
 |v x=>exact one h
 |tup l=>trivial
theorem FR {S:TS} (hS:S.ok) (keep bs ls:List Nat): (js S keep bs ls).ok:=by
 refine⟨fun x hx=> ?_,fun cs hcs c hc=> ?_⟩
 ·obtain⟨t,_,rfl⟩:=aL.1 hx;exact P2 (Ck hS t)
 ·obtain⟨b,_,rfl⟩:=aL.1 hcs;obtain⟨x,hx,rfl⟩:=aL.1 hc;cases hb:pq S.bx b with
  |none=>rw[hb] at hx; cases hx
  |some cs=>rw[hb] at hx;rw[fZ] at hb;exact Co (hS.bx cs (aq hb) x hx)
theorem Cp {G:List (Option eL)} {c:Cl} (h:c.ok G):Mt G c=c:=by
 unfold Mt;split
 ·rename_i p sz lo len;split
  ·rename_i tr htr;rw[(h.2 rfl).2.2 tr (by unfold fA; rw[htr]; rfl)]
  ·rfl
 ·rfl
theorem IM {G:List (Option eL)} {v:V1} (h:v.ok G):Oe G v=v:=by
 cases v with
 |cl c=>exact congrArg V1.cl (Cp h)
 |agg cs=>exact congrArg V1.agg ((aJ fun c hc=>Cp (h c hc)).trans (List.map_id' cs))
 |fn f cs=>exact congrArg (V1.fn f) ((aJ fun c hc=>Cp (h c hc)).trans (List.map_id' cs))
theorem P3 {G:List (Option eL)} {v:V} (h:v.ok G):So G v=v:=by
 cases v with
 |v x=>exact congrArg V.v (IM h)
 |tup l=>exact congrArg V.tup ((aJ fun c hc=>IM (h c hc)).trans (List.map_id' l))
theorem P4 {S:TS} (h:S.ok):Rj S=S:=by unfold Rj;rw[aJ (g:=id) (fun x hx=>by rw[P3 (h.env x hx)]; rfl),aJ (g:=id) (l:=S.bx) (fun cs hcs=>(aJ fun c hc=>Cp (h.bx cs hcs c hc)).trans (List.map_id' cs)),List.map_id,List.map_id]
theorem tM {ρ:Type} {S:TS} (hS:S.ok) {keep:List Nat} {κ:TS->Option ρ} {r:ρ} (h:An keep S κ=some r): ∃S1:TS,po S.st S1.st/\S1.ok/\κ S1=some r:=by unfold An at h;obtain⟨h1,h⟩:=ef h;rw[P4 (FR hS _ _ _)] at h;exact⟨_,IL h1,FR hS _ _ _,h⟩
end
section
open Go
inductive Sh where
 |int (k:IntKind)|bl|str|ro (t:Ty)|own (r:Nat) (t:Ty)|ptr (n j:Nat)|em|dead|pro (t:Ty)|fc (g:Nat)|sub (r:Nat) (t:Ty)
abbrev Sh.D:Sh->Type
 | .int _=>Int| .bl=>Bool| .str=>ByteArray| .ro t=>List t.D| .pro t=>t.D| .sub _ _=>Nat×Nat| _=>Unit
abbrev wO.D:List Sh->Type
 | [] =>Unit
 |s::l=>s.D×wO.D l
inductive zP where
 |cl (s:Sh)|agg (l:List Sh)|st (n:Sn)|fn (f:FuncId) (l:List Sh)
abbrev zP.D:zP->Type
 | .cl s=>s.D| .agg l=>wO.D l| .st n=>n.D| .fn _ l=>wO.D l
abbrev EE.D:List (Nat×zP)->Type
 | [] =>Unit
 |x::l=>x.2.D×EE.D l
abbrev EF.D:List (List Sh)->Type
 | [] =>Unit
 |x::l=>wO.D x×EF.D l
abbrev te.D:List Ty->Type
 | [] =>Unit
 |t::l=>List t.D×te.D l
structure w8 where
 env:List (Nat×zP)
 bx:List (List Sh)
 gh:List Ty
 fz:Nat
 nt:Nat
abbrev w8.D (L:w8):Type:=EE.D L.env×EF.D L.bx×te.D L.gh
def Rk (G:List (Option eL)) (r:Nat):Nat:=match pq G r with |some (some tr)=>tr.l.length| _=>0
def Sh.mk (G:List (Option eL)): (s:Sh)->s.D->Cl
 | .int k,n=> .c (.sc (.int k n))| .bl,v=> .c (.sc (.bool v))| .str,v=> .c (.sc (.string v))| .ro t,l=> .c (.ls t l)
 | .own r t,_=> .own ⟨r,[]⟩ t.width 0 (Rk G r) true| .ptr n j,_=> .ptrB n j| .em,_=> .em| .dead,_=> .dead| .pro t,x=> .pro (t.flat x)| .fc g,_=> .c (.sc (.func (.func g) #[] #[]))| .sub r t,x=> .own ⟨r,[]⟩ t.width x.1 x.2 false
def wO.mk (G:List (Option eL)): (l:List Sh)->wO.D l->List Cl
 | [],_=> []
 |s::l,x=>s.mk G x.1::wO.mk G l x.2
def zP.mk (G:List (Option eL)): (v:zP)->v.D->V
 | .cl s,x=> .v (.cl (s.mk G x))| .agg l,x=> .v (.agg (wO.mk G l x))| .st n,x=> .v (.agg ((n.flat x).map .c))| .fn f l,x=> .v (.fn f (wO.mk G l x))
def EE.mk (G:List (Option eL)): (l:List (Nat×zP))->EE.D l->List (Nat×V)
 | [],_=> []
 |x::l,d=>(x.1,x.2.mk G d.1)::EE.mk G l d.2
def EF.mk (G:List (Option eL)): (l:List (List Sh))->EF.D l->List (List Cl)
 | [],_=> []
 |x::l,d=>wO.mk G x d.1::EF.mk G l d.2
def te.mk: (l:List Ty)->te.D l->List (Option eL)
 | [],_=> []
 |t::l,d=>some ⟨t,d.1,none⟩::te.mk l d.2
def w8.mk' (L:w8) (d:L.D):TS:= { env:=EE.mk (te.mk L.gh d.2.2) L.env d.1,bx:=EF.mk (te.mk L.gh d.2.2) L.bx d.2.1,gh:=te.mk L.gh d.2.2,fz:=L.fz,nt:=L.nt }
section
variable {ρ:Type}
def Sh.un: (s:Sh)->Cl->(s.D->Option ρ)->Option ρ
 | .int k, .c (.sc (.int k' n)),κ=>bif decide (k'=k) then κ n else none
 | .bl, .c (.sc (.bool v)),κ=>κ v
 | .str, .c (.sc (.string v)),κ=>κ v
 | .ro t, .c (.ls t' l),κ=>match vw t' t l with |some l=>κ l|none=>none
 | .own r t, .own p sz _ _ w,κ=>match p.l with | [] =>(bif w&&Nat.beq p.r r&&Nat.beq sz t.width then κ () else none)| _=>none
 | .ptr n i, .ptrB m j,κ=>bif Nat.beq m n&&Nat.beq j i then κ () else none
 | .em, .em,κ=>κ ()
 | .dead, .dead,κ=>κ ()
 | .pro t, .pro xs,κ=>(match t.unflat xs with |some x=>κ x|none=>none)
 | .fc g, .c (.sc (.func (.func g') cs ts)),κ=>bif Nat.beq g' g&&Nat.beq cs.size 0&&Nat.beq ts.size 0 then κ () else none
 | .sub r t, .own p sz lo len w,κ=>match p.l with | [] =>(bif !w&&Nat.beq p.r r&&Nat.beq sz t.width then κ (lo,len) else none)| _=>none
 | _,_,_=>none
def wO.un: (l:List Sh)->List Cl->(wO.D l->Option ρ)->Option ρ
 | [],[],κ=>κ ()
 |s::l,c::cs,κ=>s.un c fun x=>wO.un l cs fun y=>κ (x,y)
 | _,_,_=>none
def zP.un: (v:zP)->V->(v.D->Option ρ)->Option ρ
 | .cl s, .v (.cl c),κ=>s.un c κ
 | .agg l, .v (.agg cs),κ=>wO.un l cs κ
 | .st n, .v (.agg cs),κ=>match Gw cs with |some xs=>(match n.unflat xs with |some x=>κ x|none=>none)|none=>none
 | .fn f l, .v (.fn g cs),κ=>bif Nat.beq f g then wO.un l cs κ else none
 | _,_,_=>none
def EE.un: (l:List (Nat×zP))->List (Nat×V)->(EE.D l->Option ρ)->Option ρ
 | [],[],κ=>κ ()
 |x::l,y::m,κ=>bif Nat.beq x.1 y.1 then x.2.un y.2 fun a=>EE.un l m fun b=>κ (a,b) else none
 | _,_,_=>none
def EF.un: (l:List (List Sh))->List (List Cl)->(EF.D l->Option ρ)->Option ρ
 | [],[],κ=>κ ()
 |x::l,y::m,κ=>wO.un x y fun a=>EF.un l m fun b=>κ (a,b)
 | _,_,_=>none
def te.un: (l:List Ty)->List (Option eL)->(te.D l->Option ρ)->Option ρ
 | [],[],κ=>κ ()
 |t::l,some tr::m,κ=>match tr.hole with
  |none=>(match vw tr.t t tr.l with |some a=>te.un l m fun b=>κ (a,b)|none=>none)
  |some _=>none
 | _,_,_=>none
def w8.un (L:w8) (S:TS) (κ:L.D->Option ρ):Option ρ:=te.un L.gh S.gh fun g=>EE.un L.env S.env fun e=>EF.un L.bx S.bx fun b=>bif Nat.beq S.fz L.fz&&Nat.beq S.nt L.nt then κ (e,b,g) else none
theorem Sh.un_some {G:List (Option eL)} (hG: ∀r,r<G.length-> ∃tr,pq G r=some (some tr)): ∀ {s:Sh} {c:Cl} {κ:s.D->Option ρ} {r:ρ},c.ok G->s.un c κ=some r-> ∃x,c=s.mk G x/\κ x=some r:=by
 intro s c κ r hc h;cases s with
 |int k=>
  cases c with
  |c y=>cases y with
   |sc v=>cases v with
    |int k' n=>simp only[Sh.un] at h;obtain⟨h1,h⟩:=ef h;have:=of_decide_eq_true h1;subst this;exact⟨n,rfl,h⟩
    | _=>simp[Sh.un] at h
   |ls t l=>simp[Sh.un] at h
  | _=>simp[Sh.un] at h
 |bl=>
  cases c with
  |c y=>cases y with
   |sc v=>cases v with
    |bool v=>exact⟨v,rfl,h⟩
    | _=>simp[Sh.un] at h
   |ls t l=>simp[Sh.un] at h
  | _=>simp[Sh.un] at h
 |str=>
  cases c with
  |c y=>cases y with
   |sc v=>cases v with
    |string v=>exact⟨v,rfl,h⟩
    | _=>simp[Sh.un] at h
   |ls t l=>simp[Sh.un] at h
  | _=>simp[Sh.un] at h
 |ro t=>
  cases c with
  |c y=>cases y with
   |sc v=>simp[Sh.un] at h
   |ls t' l=>
    simp only[Sh.un] at h;split at h
    ·rename_i l' hl;obtain⟨e,hl⟩:=iu hl;subst e;simp only at hl;subst hl;exact⟨l,rfl,h⟩
    ·cases h
  | _=>simp[Sh.un] at h
 |own q t=>
  cases c with
  |own p sz lo len w=>
   obtain⟨pr,pl⟩:=p;cases pl with
   |cons a l=>simp[Sh.un] at h
   |nil=>simp only[Sh.un] at h;obtain⟨h1,h'⟩:=ef h;clear h;simp only[ar] at h1;obtain⟨⟨h0,h2⟩,h3⟩:=h1;have h2:pr=q:=au h2;have h3:sz=t.width:=au h3;subst h0 h2 h3;obtain⟨k1,k2⟩:=hc;obtain⟨_,k3,k4⟩:=k2 rfl;obtain⟨tr,htr⟩:=hG _ k1;have k5:=k4 tr (eL.look htr);refine⟨(),?_,h'⟩;simp only[Sh.mk,Rk,k3,k5,htr]
  |c y=>cases y<;>simp[Sh.un] at h
  | _=>simp[Sh.un] at h
 |sub q t=>
  cases c with
  |own p sz lo len w=>
   obtain⟨pr,pl⟩:=p;cases pl with
   |cons a l=>simp[Sh.un] at h
   |nil=>simp only[Sh.un] at h;obtain⟨h1,h'⟩:=ef h;clear h;simp only[ar,b7] at h1;obtain⟨⟨h0,h2⟩,h3⟩:=h1;have h2:pr=q:=au h2;have h3:sz=t.width:=au h3;subst h0 h2 h3;exact⟨(lo,len),rfl,h'⟩
  |c y=>cases y<;>simp[Sh.un] at h
  | _=>simp[Sh.un] at h
 |ptr n i=>
  cases c with
  |ptrB m j=>simp only[Sh.un] at h;obtain⟨h1,h'⟩:=ef h;clear h;simp only[ar] at h1;have h2:=au h1.1;have h3:=au h1.2;subst h2 h3;exact⟨(),rfl,h'⟩
  |c y=>cases y<;>simp[Sh.un] at h
  | _=>simp[Sh.un] at h
 |em=>
  cases c with
  |em=>exact⟨(),rfl,h⟩
  |c y=>cases y<;>simp[Sh.un] at h
  | _=>simp[Sh.un] at h
 |dead=>
  cases c with
  |dead=>exact⟨(),rfl,h⟩
  |c y=>cases y<;>simp[Sh.un] at h
  | _=>simp[Sh.un] at h
 |pro t=>
  cases c with
  |pro xs=>
   simp only[Sh.un] at h;split at h
   ·rename_i x hx;exact⟨x,by simp only[Sh.mk]; rw[t.unflat_some _ _ hx],h⟩
   ·cases h
  |c y=>cases y<;>simp[Sh.un] at h
  | _=>simp[Sh.un] at h
 |fc g=>
  unfold Sh.un at h;split at h
  all_goals first | (rename_i hh; cases hh; done)|skip
  all_goals try (rename_i hh _; cases hh; done)
  ·rename_i e;cases e;obtain⟨h1,h'⟩:=ef h;simp only[ar] at h1;obtain⟨⟨h1,h2⟩,h3⟩:=h1;have h1:=au h1;have h2:=cF (au h2);have h3:=cF (au h3);exact⟨(),by rw[h1,h2,h3]; rfl,h'⟩
  ·cases h
theorem wO.un_some {G:List (Option eL)} (hG: ∀r,r<G.length-> ∃tr,pq G r=some (some tr)): ∀ {l:List Sh} {cs:List Cl} {κ:wO.D l->Option ρ} {r:ρ},(∀c∈cs,c.ok G)->wO.un l cs κ=some r-> ∃x,cs=wO.mk G l x/\κ x=some r
 | [],[],κ,r,_,h=>⟨(),rfl,h⟩
 |s::l,c::cs,κ,r,hc,h=>by unfold wO.un at h;obtain⟨x,h1,h⟩:=Sh.un_some hG (hc c aI) h;obtain⟨y,h2,h⟩:=wO.un_some hG (fun z hz=>hc z (aE _ hz)) h;exact⟨(x,y),by rw[h1,h2]; rfl,h⟩
 | [],c::cs,κ,r,_,h=>by simp[wO.un] at h
 |s::l,[],κ,r,_,h=>by simp[wO.un] at h
theorem Ap: ∀ {cs:List Cl} {xs:List C},Gw cs=some xs->cs=xs.map .c
 | [],xs,h=>by simp only[Gw,af] at h; subst h; rfl
 |c::cs,xs,h=>by
  cases c with
  |c y=>
   simp only[Gw] at h;split at h
   ·rename_i r hr;simp only[af] at h;subst h;rw[Ap hr];rfl
   ·cases h
  | _=>simp[Gw] at h
theorem zP.un_some {G:List (Option eL)} (hG: ∀r,r<G.length-> ∃tr,pq G r=some (some tr)) {s:zP} {v:V} {κ:s.D->Option ρ} {r:ρ} (hv:v.ok G) (h:s.un v κ=some r): ∃x,v=s.mk G x/\κ x=some r:=by
 cases v with
 |tup l=>cases s<;>simp[zP.un] at h
 |v y=>
  cases s with
  |cl s=>cases y with
   |cl c=>obtain⟨x,h1,h⟩:=Sh.un_some hG hv h;exact⟨x,by rw[h1]; rfl,h⟩
   | _=>simp[zP.un] at h
  |agg l=>cases y with
   |agg cs=>obtain⟨x,h1,h⟩:=wO.un_some hG hv h;exact⟨x,by rw[h1]; rfl,h⟩
   | _=>simp[zP.un] at h
  |st n=>cases y with
   |agg cs=>
    simp only[zP.un] at h;split at h
    ·rename_i xs hxs;split at h
     ·rename_i x hx;exact⟨x,by rw[Ap hxs]; simp only[zP.mk]; rw[n.unflat_some _ _ hx],h⟩
     ·cases h
    ·cases h
   | _=>simp[zP.un] at h
  |fn f l=>cases y with
   |fn g cs=>simp only[zP.un] at h;obtain⟨h0,h'⟩:=ef h;clear h;have h0:=au h0;subst h0;obtain⟨x,h1,h⟩:=wO.un_some hG hv h';exact⟨x,by rw[h1]; rfl,h⟩
   | _=>simp[zP.un] at h
theorem EE.un_some {G:List (Option eL)} (hG: ∀r,r<G.length-> ∃tr,pq G r=some (some tr)): ∀ {l:List (Nat×zP)} {m:List (Nat×V)} {κ:EE.D l->Option ρ} {r:ρ},(∀x∈m,x.2.ok G)->EE.un l m κ=some r-> ∃x,m=EE.mk G l x/\κ x=some r
 | [],[],κ,r,_,h=>⟨(),rfl,h⟩
 |s::l,c::cs,κ,r,hc,h=>by unfold EE.un at h;obtain⟨h0,h⟩:=ef h;have h0:=au h0;obtain⟨x,h1,h⟩:=zP.un_some hG (hc c aI) h;obtain⟨y,h2,h⟩:=EE.un_some hG (fun z hz=>hc z (aE _ hz)) h;refine⟨(x,y),?_,h⟩;rw[h2];obtain⟨c1,c2⟩:=c;simp only at h0 h1;rw[h1,<-h0];rfl
 | [],c::cs,κ,r,_,h=>by simp[EE.un] at h
 |s::l,[],κ,r,_,h=>by simp[EE.un] at h
theorem EF.un_some {G:List (Option eL)} (hG: ∀r,r<G.length-> ∃tr,pq G r=some (some tr)): ∀ {l:List (List Sh)} {m:List (List Cl)} {κ:EF.D l->Option ρ} {r:ρ},(∀cs∈m,∀c∈cs,c.ok G)->EF.un l m κ=some r-> ∃x,m=EF.mk G l x/\κ x=some r
 | [],[],κ,r,_,h=>⟨(),rfl,h⟩
 |s::l,c::cs,κ,r,hc,h=>by unfold EF.un at h;obtain⟨x,h1,h⟩:=wO.un_some hG (hc c aI) h;obtain⟨y,h2,h⟩:=EF.un_some hG (fun z hz=>hc z (aE _ hz)) h;exact⟨(x,y),by rw[h1,h2]; rfl,h⟩
 | [],c::cs,κ,r,_,h=>by simp[EF.un] at h
 |s::l,[],κ,r,_,h=>by simp[EF.un] at h
theorem te.un_some: ∀ {l:List Ty} {m:List (Option eL)} {κ:te.D l->Option ρ} {r:ρ},te.un l m κ=some r-> ∃x,m=te.mk l x/\κ x=some r
 | [],[],κ,r,h=>⟨(),rfl,h⟩
 |t::l,some tr::m,κ,r,h=>by
  unfold te.un at h;split at h
  ·rename_i hh;split at h
   ·rename_i a ha;obtain⟨e,hl⟩:=iu ha;obtain⟨y,h2,h⟩:=te.un_some h;obtain⟨t',l',hole⟩:=tr;simp only at hh e hl ha;subst hh e;simp only at hl;subst hl;exact⟨(l',y),by rw[h2]; rfl,h⟩
   ·cases h
  ·cases h
 | [],c::cs,κ,r,h=>by simp[te.un] at h
 |t::l,[],κ,r,h=>by simp[te.un] at h
 |t::l,none::m,κ,r,h=>by simp[te.un] at h
theorem te.mk_some: ∀ (l:List Ty) (d:te.D l) (r:Nat),r< (te.mk l d).length-> ∃tr,pq (te.mk l d) r=some (some tr)
 | [],d,r,h=>by simp[te.mk] at h
 |t::l,d,0,h=>⟨_,rfl⟩
 |t::l,d,r+1,h=>by obtain⟨tr,htr⟩:=te.mk_some l d.2 r (by simpa [te.mk] using h);exact⟨tr,htr⟩
theorem w8.un_some {L:w8} {S:TS} (hS:S.ok) {κ:L.D->Option ρ} {r:ρ} (h:L.un S κ=some r): ∃d,S=L.mk' d/\κ d=some r:=by
 unfold w8.un at h;obtain⟨g,h1,h⟩:=te.un_some h;have hG: ∀r,r<S.gh.length-> ∃tr,pq S.gh r=some (some tr):=by rw[h1]; exact te.mk_some _ _
 obtain⟨e,h2,h⟩:=EE.un_some hG hS.env h;obtain⟨b,h3,h⟩:=EF.un_some hG hS.bx h;obtain⟨h4,h⟩:=ef h;simp only[ar] at h4;have h5:=au h4.1;have h6:=au h4.2;refine⟨(e,b,g),?_,h⟩;obtain⟨env,bx,gh,fz,nt⟩:=S;simp only at h1 h2 h3 h5 h6;subst h5 h6;unfold w8.mk';simp only;rw[<-h1,<-h2,<-h3]
end
end
section
open Go
def LD (S:TS) (t:Ty):Cl:= .own ⟨S.gh.length,[]⟩ t.width 0 0 true
def LF (n j:Nat) (t:Ty) (S:TS):TS:=match pq S.bx n with
 |some cs=>(match pq cs j with
  |some .em=> { S with bx:=fK S.bx n (fK cs j (LD S t)),gh:=S.gh++ [some ⟨t,[],none⟩] }
  | _=>S)
 |none=>S
def LG (x:Nat) (t:Ty) (S:TS):TS:=match jr S.env x with
 | .v (.cl .em)=> { S with env:=(x, .v (.cl (LD S t)))::S.env,gh:=S.gh++ [some ⟨t,[],none⟩] }
 | _=>S
theorem QO: ∀ (l:List (Nat×Nat)),T.go .dd l= .dd
 | [] =>rfl
 | (_,_)::l=>QO l
theorem Rl (w:Nat) {l:List (Nat×Nat)} {s:Nat} {rs:List (List T)} (h:T.go (.sl w []) l= .sl s rs):rs= [] :=by
 cases l with
 |nil=>cases h; rfl
 |cons a l=>obtain⟨i,j⟩:=a;simp only[T.go,T.cell,List.getD_nil,QO] at h;cases h
theorem FS {S S':TS} (t:Ty) (henv: ∀u,(jr S'.env u).av=(jr S.env u).av\/((jr S.env u).av= .em/\(jr S'.env u).av= .own ⟨S.gh.length,[]⟩ t.width 0 0))
  (hbx: ∀k cs',S'.st.bx k=some cs'-> ∃cs,S.st.bx k=some cs/\cs'.length=cs.length/\ ∀ (j:Nat) (v:AV),cs'[j]? =some v->cs[j]? =some v\/(cs[j]? =some .em/\v= .own ⟨S.gh.length,[]⟩ t.width 0 0))
  (hgh:S'.gh=S.gh++ [some ⟨t,[],none⟩]) (hfz:S'.fz=S.fz) (hnt:S'.nt=S.nt) (hbl:S'.bx.length=S.bx.length):po S.st S'.st:=by
 intro w0 W btI SI bt a w hl0;have hl:=hl0.widen (N:=S.gh.length+1) (dN _);have inv:=hl.inv;have hng:S'.st.ng=S.gh.length+1:=by show S'.gh.length=_; rw[hgh]; simp
 have ghS: ∀r,S'.st.gh r=if r=S.gh.length then some (.sl t.width []) else S.st.gh r:=by intro r;show (fA S'.gh r).map eL.tree=_;rw[hgh,mH];split<;>rfl
 have κ0: ∀l,(bt.widen S.st.ng (S.gh.length+1)).κ ⟨S.gh.length,l⟩=0:=by intro l;show (if S.gh.length<S.gh.length then _ else 0)=0;rw[if_neg (dz _)]
 have look: ∀p s rs,S'.st.look p= .sl s rs->(p.r=S.gh.length/\rs= [] /\(bt.widen S.st.ng (S.gh.length+1)).κ p=0)\/(p.r≠S.gh.length/\S.st.look p= .sl s rs):=by
  intro p s rs hp;unfold St.look at hp;rw[ghS] at hp;by_cases hr:p.r=S.gh.length
  ·rw[if_pos hr] at hp;left;refine⟨hr,Rl _ hp,?_⟩;obtain⟨pr,pl⟩:=p;simp only at hr;subst hr;exact κ0 pl
  ·rw[if_neg hr] at hp;exact .inr ⟨hr,hp⟩
 have own0: ∀ {u:Value},VR w (bt.widen S.st.ng (S.gh.length+1)) .em u->VR w (bt.widen S.st.ng (S.gh.length+1)) (.own ⟨S.gh.length,[]⟩ t.width 0 0) u:=by
  intro u hu;cases hu with
  |em ad=>exact .own (cU _) (ay _) (aF _) (fun h=>absurd h (dz _))
 refine⟨bt.widen S.st.ng (S.gh.length+1),?_⟩
 refine⟨{ os:=inv.os,tape:=inv.tape,output:=inv.output,size:=inv.size,keep:=inv.keep
          nb:=by show _=S'.bx.length; rw[hbl]; exact inv.nb
          ng:=by rw[hng]; exact inv.ng
          bx:=fun n cells hn=> ?_
          gh:=fun r x hr=> ?_
          tr:=fun p sz rows hp=> ?_
          inj:=fun p q s rs s' rs' hp hq hk hk' he=> ?_
          bbinj:=fun n m cs cs' hn hm he=> ?_
          bbtr:=fun n cs p s rs hn hp hk=> ?_
          alt:=inv.alt
          atr:=fun p s rs hp hk=> ?_
          abb:=fun n cs hn=> ?_ },⟨?_,fun u=> ?_⟩,hl.defers,?_,?_,hl.keep,fun r hr hn=> ?_⟩
 ·obtain⟨cs,h1,h2,h3⟩:=hbx n cells hn;obtain⟨g1,g2,arr,e,g3,g4,g5⟩:=inv.bx n cs h1;refine⟨by show n<S'.bx.length; rw[hbl]; exact g1,g2,arr,e,g3,by rw[h2]; exact g4,fun j v hj=> ?_⟩;rcases h3 j v hj with h4| ⟨h4,rfl⟩
  ·exact g5 j v h4
  ·obtain⟨c,k1,k2,k3⟩:=g5 j .em h4;exact⟨c,k1,own0 k2,k3⟩
 ·rw[hng];rw[ghS] at hr;split at hr
  ·omega
  ·have:=inv.gh r x hr;exact this
 ·rcases look p sz rows hp with ⟨h1,rfl,h3⟩| ⟨h1,h2⟩
  ·exact⟨aF _,fun hk=>by omega⟩
  ·exact inv.tr p sz rows h2
 ·rcases look p s rs hp with ⟨h1,_,h3⟩| ⟨h1,h2⟩
  ·omega
  ·rcases look q s' rs' hq with ⟨g1,_,g3⟩| ⟨g1,g2⟩
   ·omega
   ·exact inv.inj _ _ _ _ _ _ h2 g2 hk hk' he
 ·obtain⟨c,h1,_,_⟩:=hbx n cs hn;obtain⟨c',g1,_,_⟩:=hbx m cs' hm;exact inv.bbinj _ _ _ _ h1 g1 he
 ·obtain⟨c,h1,_,_⟩:=hbx n cs hn;rcases look p s rs hp with ⟨_,_,h3⟩| ⟨_,h2⟩
  ·omega
  ·exact inv.bbtr _ _ _ _ _ h1 h2 hk
 ·rcases look p s rs hp with ⟨_,_,h3⟩| ⟨_,h2⟩
  ·omega
  ·exact inv.atr _ _ _ h2 hk
 ·obtain⟨c,h1,_,_⟩:=hbx n cs hn;exact inv.abb _ _ h1
 ·have:=hl.er.1;show _=S'.nt;rw[hnt];exact this
 ·have h1:=hl.er.2 u;show VR w _ (jr S'.env u).av _;rcases henv u with h2| ⟨h2,h3⟩
  ·rw[h2]; exact h1
  ·rw[h3];have h1':VR w (bt.widen S.st.ng (S.gh.length+1)) (jr S.env u).av (a.tmps.getD u undef):=h1;rw[h2] at h1';exact own0 h1'
 ·show S'.fz=_;rw[hfz];exact hl.fz
 ·show S'.fz<=S'.gh.length;have:=hl.fzng;have e:S.fz<=S.gh.length+1:=this;have e2:S.st.fz<=S.st.ng:=hl0.fzng;have e3:S.fz<=S.gh.length:=e2;rw[hfz,hgh];simp;omega
 ·refine hl.gone r hr ?_;rw[ghS] at hn;split at hn
  ·cases hn
  ·exact hn
theorem IP (S:TS) (t:Ty): (LD S t).ok (S.gh++ [some ⟨t,[],none⟩]):=by refine⟨by simp,fun _=>⟨rfl,rfl,fun tr htr=> ?_⟩⟩;rw[mH,if_pos rfl] at htr;cases htr;rfl
theorem Og {S:TS} (hS:S.ok) (x:Nat) (t:Ty):po S.st (LG x t S).st/\(LG x t S).ok:=by
 unfold LG;split
 ·rename_i hx;refine⟨FS t (fun u=> ?_) (fun k cs' h=>⟨cs',h,rfl,fun j v hv=> .inl hv⟩) rfl rfl rfl rfl,⟨fun y hy=> ?_,fun cs hcs c hc=>Cl.ok_mono (jd.app _ _) (hS.bx cs hcs c hc)⟩⟩
  ·simp only[jr];cases hb:Nat.beq x u with
   |true=>have :x=u:=au hb;subst this;right;rw[hx];exact⟨rfl,rfl⟩
   |false=>exact .inl rfl
  ·rcases aR.1 hy with rfl|hy
   ·exact IP S t
   ·exact V.ok_mono (jd.app _ _) (hS.env y hy)
 ·exact⟨po.refl,hS⟩
theorem Oh {S:TS} (hS:S.ok) (n j:Nat) (t:Ty):po S.st (LF n j t S).st/\(LF n j t S).ok:=by
 unfold LF;split
 ·rename_i cs hcs;split
  ·rename_i hj;rw[fZ] at hcs hj;have hn:=(ai.1 hcs).1;refine⟨FS t (fun u=> .inl rfl) (fun k cs' h=> ?_) rfl rfl rfl (by simp[it]),⟨fun y hy=>V.ok_mono (jd.app _ _) (hS.env y hy),fun cs' hcs' c hc=> ?_⟩⟩
   ·have h': (pq (fK S.bx n (fK cs j (LD S t))) k).map (fun cs=>cs.map Cl.av)=some cs':=h;rw[fZ,it,it,bG] at h';by_cases hk:n=k
    ·subst hk;rw[if_pos rfl,if_pos hn] at h';simp only[aB,af] at h';subst h';refine⟨cs.map Cl.av,by show (pq S.bx n).map _=_; rw[fZ,hcs]; rfl,by simp,fun i v hv=> ?_⟩;rw[ap,bG] at hv;by_cases hi:j=i
     ·subst hi;rw[if_pos rfl,if_pos (ai.1 hj).1] at hv;right;rw[ap,hj];simp only[aB,af] at hv;exact⟨rfl,hv.symm⟩
     ·rw[if_neg hi] at hv;left;rw[ap];exact hv
    ·rw[if_neg hk] at h';exact⟨cs',by show (pq S.bx k).map _=_; rw[fZ]; exact h',rfl,fun i v hv=> .inl hv⟩
   ·simp only[it] at hcs';rcases cS hcs' with h1|h1
    ·exact Cl.ok_mono (jd.app _ _) (hS.bx _ h1 c hc)
    ·subst h1;rcases cS hc with h2|h2
     ·exact Cl.ok_mono (jd.app _ _) (hS.bx _ (aq hcs) c h2)
     ·subst h2;exact IP S t
  ·exact⟨po.refl,hS⟩
 ·exact⟨po.refl,hS⟩
inductive Kq where
 |t (x:Nat) (t:Ty)
 |b (n j:Nat) (t:Ty)
def wP:List Kq->TS->TS
 | [],S=>S
 | .t x t::l,S=>wP l (LG x t S)
 | .b n j t::l,S=>wP l (LF n j t S)
theorem yi: ∀ (l:List Kq) {S:TS},S.ok->po S.st (wP l S).st/\(wP l S).ok
 | [],S,hS=>⟨po.refl,hS⟩
 | .t x t::l,S,hS=>by obtain⟨h1,h2⟩:=Og hS x t;obtain⟨h3,h4⟩:=yi l h2;exact⟨h1.trans h3,h4⟩
 | .b n j t::l,S,hS=>by obtain⟨h1,h2⟩:=Oh hS n j t;obtain⟨h3,h4⟩:=yi l h2;exact⟨h1.trans h3,h4⟩
section
variable {P:Program} {Θ:pp} {Y:yX} {Λ:qh}
def IQ {ρ:Type} (keepN keepX:List Nat) (κ:X->TS->Option ρ) (x:X) (S:TS):Option ρ:=match x with
 | .nor=>An keepN S (κ .nor)
 |x=>An keepX S (κ x)
def Oi {σ ε:Type} (G:σ->Option ε) (μ:σ->Nat) (s:σ) (e:ε):Option (σ⊕ε)->Prop
 |some (.inl s')=>μ s'<μ s/\G s'=some e
 |some (.inr e')=>e'=e
 |none=>False
theorem P5 (hΘ:gC P Θ) (hY:mJ P Y) (hm:P.follows .mixedOrders=true) {c:Code} (hc:mh P c=true) (hL:i9 P Λ (fT c)) {σ ε:Type} {H:σ->TS} {E:ε->X×TS} {B:σ->Option (σ⊕ε)} {keepN keepX:List Nat}
  (hH: ∀s,(H s).ok) (hstep: ∀s,yb Θ Y Λ c (H s) (IQ keepN keepX fun x S=>some (x,S))=(B s).bind (Sum.elim (fun s'=>some (.nor,H s')) fun e=>some (E e)))
  (hE: ∀e,(E e).1≠ .nor) {G:σ->Option ε} {μ:σ->Nat} (hG: ∀s e,G s=some e->Oi G μ s e (B s))
  {s:σ} {e:ε} (hs:G s=some e):rj P (.loop c) (H s).st (fun x S'=>x=(E e).1/\S'=(E e).2.st):=by
 refine rj.loop (fun n X=> ∃s,X=(H s).st/\G s=some e/\μ s=n) (fun n X hX=> ?_) (n:=μ s) ⟨s,rfl,hs,rfl⟩;obtain⟨s,rfl,hs,rfl⟩:=hX;have hg:=hG s e hs;have hst:=hstep s;cases hB:B s with
 |none=>rw[hB] at hg; exact hg.elim
 |some l=>
  rw[hB] at hg hst;cases l with
  |inl s'=>
   simp only[ae,b8] at hst;refine (zh hΘ hY hm c _ _ _ hc hL (hH s) hst).mono (fun x S' hx=> ?_);obtain⟨S1,rfl,h1,h2⟩:=hx
   have gA: ∃S2:TS,po S1.st S2.st/\x= .nor/\S2=H s':=by
    unfold IQ at h2;split at h2
    ·obtain⟨S2,k1,_,k2⟩:=tM h1 h2;simp only[af,an] at k2;exact⟨S2,k1,rfl,k2.2⟩
    ·obtain⟨S2,k1,_,k2⟩:=tM h1 h2;simp only[af,an] at k2;exact⟨S2,k1,k2.1,k2.2⟩
   obtain⟨S2,k1,rfl,rfl⟩:=gA;exact⟨_,k1,μ s',hg.1,s',rfl,hg.2,rfl⟩
  |inr e'=>
   simp only[ae,cu] at hst;have hg:e'=e:=hg;subst hg;refine (zh hΘ hY hm c _ _ _ hc hL (hH s) hst).mono (fun x S' hx=> ?_);obtain⟨S1,rfl,h1,h2⟩:=hx
   have gA: ∃S2:TS,po S1.st S2.st/\(x,S2)=E e':=by
    unfold IQ at h2;split at h2
    ·obtain⟨S2,k1,_,k2⟩:=tM h1 h2;exact⟨S2,k1,Option.some.inj k2⟩
    ·obtain⟨S2,k1,_,k2⟩:=tM h1 h2;exact⟨S2,k1,Option.some.inj k2⟩
   obtain⟨S2,k1,k2⟩:=gA;refine⟨S2.st,k1,?_⟩;have hx:x=(E e').1:=congrArg Prod.fst k2;have hS2:S2=(E e').2:=congrArg Prod.snd k2;have hne:=hE e';rw[<-hx] at hne;cases x with
   |nor=>exact absurd rfl hne
   |ret=>exact⟨hx,by rw[hS2]⟩
   |ext i=>exact⟨hx,by rw[hS2]⟩
def Oj (grow:List Kq) (keep:List Nat) (L:w8) {ε:Type} (E:ε->X×TS) (G:L.D->Option ε):TS->(ρ:Type)->(X->TS->Option ρ)->Option ρ:=
 fun S _ κ=>An keep (wP grow S) fun S1=>L.un S1 fun s=>(G s).bind fun e=>κ (E e).1 (E e).2
theorem Ok {c:Code} {grow:List Kq} {keep:List Nat} {L:w8} {ε:Type} {E:ε->X×TS} {G:L.D->Option ε} (hE: ∀e,(E e).2.ok)
  (h: ∀s e,G s=some e->rj P (.loop c) (L.mk' s).st (fun x S'=>x=(E e).1/\S'=(E e).2.st)) {S:TS} {ρ:Type} {κ:X->TS->Option ρ} {r:ρ} (hS:S.ok) (hk:Oj grow keep L E G S ρ κ=some r):
  rj P (.loop c) S.st (fun x S'=> ∃S1:TS,S'=S1.st/\S1.ok/\κ x S1=some r):=by
 unfold Oj at hk;obtain⟨h1,h2⟩:=yi grow hS;obtain⟨S1,h3,h4,hk⟩:=tM h2 hk;obtain⟨s,rfl,hk2⟩:=w8.un_some h4 hk;obtain⟨e,h5,hk3⟩:=aj.1 hk2;refine rj.weak (h1.trans h3) ((h s e h5).mono (fun x S' hx=> ?_));obtain⟨rfl,rfl⟩:=hx;exact⟨_,po.refl,_,rfl,hE e,hk3⟩
end
end
section
open Go
abbrev qj.D:List Ty->Type
 | [] =>Unit
 |t::l=>t.D×qj.D l
def pC: (l:List Ty)->qj.D l->List ((t:Ty)×t.D)
 | [],_=> []
 |t::l,x=>⟨t,x.1⟩::pC l x.2
def xj (P:Program) (f:FuncId) (e:Ki):Prop:= ∀args ρ κ r,e args ρ κ=some r-> ∃res out,A9 P f args res out/\res.ok (out.map some)/\κ res out=some r
theorem P6 (P:Program):mJ P (EC []):=fun _ _ _ _ _ h=>by cases h
theorem Ol {P:Program} {f:FuncId} {e:Ki} {l:List (Nat×Ki)} (h:xj P f e) (hl:mJ P (EC l)):mJ P (EC ((f,e)::l)):=by
 intro g args ρ κ r hr;have hr: (bif Nat.beq f g then e args ρ κ else Re l g args ρ κ)=some r:=hr;cases hb:Nat.beq f g with
 |true=>rw[hb] at hr;have:=au hb;subst this;exact h args ρ κ r hr
 |false=>rw[hb] at hr;exact hl g args ρ κ r hr
def Kr (as bs:List AV):Prop:=as.length=bs.length/\ ∀ (k:Nat) (a b:AV),as[k]? =some a->bs[k]? =some b->a=b\/(a= .em/\ ∃s,b= .ro s [])
theorem Kr.refl (as:List AV):Kr as as:=⟨rfl,fun k a b h1 h2=>by rw[h1] at h2; cases h2; exact .inl rfl⟩
theorem Kr.cons {a b:AV} {as bs:List AV} (h:a=b\/(a= .em/\ ∃s,b= .ro s [])) (hn:Kr as bs):Kr (a::as) (b::bs):=
 ⟨by simp[hn.1],fun k x y h1 h2=>by
  cases k with
  |zero=>simp only[aG,af] at h1 h2; subst h1 h2; exact h
  |succ k=>exact hn.2 k x y (by simpa using h1) (by simpa using h2)⟩
theorem Kr.VR {as bs:List AV} (hn:Kr as bs) {w:World} {bt:Bt} {vals:List Value} (h: ∀ (k:Nat) (v:AV) (u:Value),as[k]? =some v->vals[k]? =some u->VR w bt v u) (k:Nat) (v:AV) (u:Value) (hv:bs[k]? =some v) (hu:vals[k]? =some u):VR w bt v u:=by
 have hk:k<as.length:=by rw[hn.1]; exact (ai.1 hv).1
 have ha:=ah hk;have hx:=h k _ u ha hu;rcases hn.2 k _ v ha hv with e| ⟨e,s,rfl⟩
 ·rw[<-e]; exact hx
 ·rw[e] at hx;cases hx with
  |em b=>exact .ro (.em _ _ _)
theorem s8.norm {P:Program} {f:FuncId} {as bs:List AV} {gs:List T} {res:AV} {out:List T} (hn:Kr as bs) (h:s8 P f bs gs res out):s8 P f as gs res out:=
 fun w W bt0 vals hI hl hv=>h w W bt0 vals hI (hl.trans hn.1) (hn.VR hv)
theorem nu.norm {P:Program} {f:FuncId} {as bs:List AV} {gs:List T} {m:Nat} {res:AV} {out:List T} (hn:Kr as bs) (h:nu P f bs gs m res out):nu P f as gs m res out:=
 fun w W bt0 vals hI hl hv=>h w W bt0 vals hI (hl.trans hn.1) (hn.VR hv)
theorem un_some {ρ:Type} {t:Ty} {a:V1} {κ:t.D->Option ρ} {r:ρ} (h:un t a κ=some r): ∃x,a=Ip t x/\κ x=some r:=by
 unfold un at h;split at h
 ·rename_i cs;obtain⟨h1,h⟩:=ef h;split at h
  ·rename_i xs hxs;split at h
   ·rename_i x hx;refine⟨x,?_,h⟩;unfold Ip;rw[h1,t.unflat_some _ _ hx,Ap hxs];rfl
   ·cases h
  ·cases h
 ·rename_i y;cases hag:t.ag with
  |true=>rw[hag] at h; cases h
  |false=>
   rw[hag] at h;simp only[cond_false] at h;split at h
   ·rename_i x hx;refine⟨x,?_,h⟩;unfold Ip;rw[hag,t.unflat_some _ _ hx];rfl
   ·cases h
 ·cases h
theorem Rm (t:Ty) (x:t.D): (Ip t x).ok [] :=by
 unfold Ip;cases t.ag with
 |true=>intro c hc;obtain⟨y,_,rfl⟩:=aL.1 hc;trivial
 |false=>
  simp only[cond_false];split
  ·rename_i c hc;have :c∈(t.flat x).map Cl.c:=by rw[hc]; exact ax.2 rfl
   obtain⟨y,_,rfl⟩:=aL.1 this;trivial
  ·trivial
theorem GH (zQ suf:List eL): ∀ (cs:List C) (mid:List eL),∀c∈vk cs (zQ.length+mid.length),c.ok ((zQ++mid++nw cs++suf).map some)
 | [],mid,c,h=>by cases h
 | .sc v::cs,mid,c,h=>by
   rcases aR.1 h with rfl|h
   ·trivial
   ·exact GH zQ suf cs mid c h
 | .ls t l::cs,mid,c,h=>by
   rcases aR.1 h with rfl|h
   ·refine⟨by simp[nw],fun _=>⟨rfl,rfl,fun tr htr=> ?_⟩⟩
    have :fA ((zQ++mid++nw (.ls t l::cs)++suf).map some) (zQ.length+mid.length)=some ⟨t,l,none⟩:=by unfold fA;rw[fZ,ap,aU,aN (by simp)];simp[nw]
    have htr':fA ((zQ++mid++nw (.ls t l::cs)++suf).map some) (zQ.length+mid.length)=some tr:=htr;rw[this] at htr';cases htr';rfl
   ·have:=GH zQ suf cs (mid++ [⟨t,l,none⟩]) c (by rw[be,<-dy]; exact h);simp only[nw];simpa using this
theorem P7 (t:Ty) (x:t.D) (zQ suf:List eL): (C5 t x zQ.length).ok ((zQ++nw (t.flat x)++suf).map some):=by
 have gA:=GH zQ suf (t.flat x) [];simp only[bX,cd,bw] at gA;unfold C5;cases t.ag with
 |true=>exact gA
 |false=>
  simp only[cond_false];split
  ·rename_i c hc;exact gA c (by rw[hc]; exact ax.2 rfl)
  ·trivial
theorem zj: ∀ (l:List ((t:Ty)×t.D)) (zQ:List eL),∀v∈xh zQ.length l,v.ok ((zQ++xi l).map some)
 | [],zQ,v,h=>by cases h
 | ⟨t,x⟩::l,zQ,v,h=>by
   rcases aR.1 h with rfl|h
   ·have:=P7 t x zQ (xi l);simpa [xi] using this
   ·have:=zj l (zQ++nw (t.flat x)) v (by rw[be]; exact h);simpa [xi] using this
theorem Om (l:List ((t:Ty)×t.D)): (w7 (xh 0 l)).ok ((xi l).map some):=by
 have h:=zj l [];simp only[bX,bi] at h
 match xh 0 l,h with
 | [],_=>exact fun x hx=>by cases hx
 | [v],h=>exact h v aI
 |v::u::vs,h=>exact h
end
section
open Go
def Sh.fit (n:Nat):Sh->Bool| .own r _=>Nat.blt r n| .sub r _=>Nat.blt r n| _=>true
def zP.fit (n:Nat):zP->Bool| .cl s=>s.fit n| .agg l=>l.all (Sh.fit n)| .st _=>true| .fn _ l=>l.all (Sh.fit n)
def w8.fit (L:w8):Bool:=L.env.all (fun x=>x.2.fit L.gh.length)&&L.bx.all (fun l=>l.all (Sh.fit L.gh.length))
theorem te.mk_length: ∀ (l:List Ty) (d:te.D l),(te.mk l d).length=l.length
 | [],_=>rfl
 |t::l,d=>by simp[te.mk,te.mk_length l d.2]
theorem Sh.mk_ok {G:List (Option eL)} {s:Sh} (h:s.fit G.length=true) (x:s.D): (s.mk G x).ok G:=by
 cases s with
 |own r t=>
  refine⟨az h,fun _=>⟨rfl,rfl,fun tr htr=> ?_⟩⟩;unfold fA at htr;unfold Rk;have htr': (pq G r).getD none=some tr:=htr;cases hn:pq G r with
  |none=>rw[hn] at htr'; cases htr'
  |some y=>rw[hn] at htr'; simp only[aM] at htr'; subst htr'; rfl
 |sub r t=>exact⟨az h,fun e=>by cases e⟩
 | _=>trivial
theorem wO.mk_ok {G:List (Option eL)}: ∀ {l:List Sh},l.all (Sh.fit G.length)=true-> ∀ (x:wO.D l),∀c∈wO.mk G l x,c.ok G
 | [],_,x,c,hc=>by cases hc
 |s::l,h,x,c,hc=>by
  simp only[cQ,ar] at h;rcases aR.1 hc with rfl|hc
  ·exact Sh.mk_ok h.1 x.1
  ·exact wO.mk_ok h.2 x.2 c hc
theorem zP.mk_ok {G:List (Option eL)} {v:zP} (h:v.fit G.length=true) (x:v.D): (v.mk G x).ok G:=by
 cases v with
 |cl s=>exact Sh.mk_ok h x
 |agg l=>exact wO.mk_ok h x
 |st n=>intro c hc;obtain⟨y,_,rfl⟩:=aL.1 hc;trivial
 |fn f l=>exact wO.mk_ok h x
theorem w8.mk'_ok {L:w8} (h:L.fit=true) (d:L.D): (L.mk' d).ok:=by
 unfold w8.fit at h;simp only[ar] at h;have hlen: (te.mk L.gh d.2.2).length=L.gh.length:=te.mk_length _ _;rw[<-hlen] at h
 have env: ∀ {l:List (Nat×zP)},l.all (fun x=>x.2.fit (te.mk L.gh d.2.2).length)=true-> ∀ (e:EE.D l),∀x∈EE.mk (te.mk L.gh d.2.2) l e,x.2.ok (te.mk L.gh d.2.2):=by
  intro l
  induction l with
  |nil=>intro _ e x hx; cases hx
  |cons y l ih=>
   intro h e x hx;simp only[cQ,ar] at h;rcases aR.1 hx with rfl|hx
   ·exact zP.mk_ok h.1 e.1
   ·exact ih h.2 e.2 x hx
 have bxs: ∀ {l:List (List Sh)},l.all (fun l=>l.all (Sh.fit (te.mk L.gh d.2.2).length))=true-> ∀ (e:EF.D l),∀cs∈EF.mk (te.mk L.gh d.2.2) l e,∀c∈cs,c.ok (te.mk L.gh d.2.2):=by
  intro l
  induction l with
  |nil=>intro _ e x hx; cases hx
  |cons y l ih=>
   intro h e x hx;simp only[cQ,ar] at h;rcases aR.1 hx with rfl|hx
   ·exact wO.mk_ok h.1 e.1
   ·exact ih h.2 e.2 x hx
 exact⟨env h.1 d.1,bxs h.2 d.2.1⟩
abbrev zk.D:List (X×w8)->Type
 | [] =>Empty
 | [x] =>x.2.D
 |x::y::l=>x.2.D⊕zk.D (y::l)
def zk.k {R:Type}: (l:List (X×w8))->zk.D l->(X->TS->R)->R
 | [],e,_=>e.elim
 | [x],d,κ=>κ x.1 (x.2.mk' d)
 |x::y::l,e,κ=>Sum.elim (fun d=>κ x.1 (x.2.mk' d)) (fun e=>zk.k (y::l) e κ) e
def zk.e (l:List (X×w8)) (d:zk.D l):X×TS:=zk.k l d Prod.mk
theorem zk.k_eq {R:Type}: ∀ (l:List (X×w8)) (d:zk.D l) (κ:X->TS->R),zk.k l d κ=κ (zk.e l d).1 (zk.e l d).2
 | [],e,_=>e.elim
 | [_],_,_=>rfl
 | _::_::_, .inl _,_=>rfl
 | _::y::l, .inr e,κ=>zk.k_eq (y::l) e κ
def Sq (x:X×w8):Bool:=(match x.1 with | .nor=>false| _=>true)&&x.2.fit
theorem zk.ok: ∀ (l:List (X×w8)) (d:zk.D l),l.all Sq=true->(zk.e l d).1≠ .nor/\(zk.e l d).2.ok
 | [],e,_=>e.elim
 | [x],d,h=>by simp only[cQ,ar,Sq] at h;refine⟨fun e=> ?_,w8.mk'_ok h.1.2 d⟩;have e:x.1= .nor:=e;rw[e] at h;cases h.1.1
 |x::_::_, .inl d,h=>by simp only[cQ,ar,Sq] at h;refine⟨fun e=> ?_,w8.mk'_ok h.1.2 d⟩;have e:x.1= .nor:=e;rw[e] at h;cases h.1.1
 | _::y::l, .inr e,h=>zk.ok (y::l) e (by simp only[cQ,ar] at h ⊢;exact h.2)
def Oo (grow:List Kq) (keep:List Nat) (L:w8) (exs:List (X×w8)) (G:L.D->Option (zk.D exs)):TS->(ρ:Type)->(X->TS->Option ρ)->Option ρ:=
 fun S _ κ=>An keep (wP grow S) fun S1=>L.un S1 fun s=>(G s).bind fun e=>zk.k exs e κ
abbrev LH:=TS->(ρ:Type)->(X->TS->Option ρ)->Option ρ
def Dm:List (Nat×LH)->qh
 | [],_,_,_,_=>none
 | (q,e)::l,n,S,ρ,κ=>bif Nat.beq q n then e S ρ κ else Dm l n S ρ κ
section
variable {P:Program} {Θ:pp} {Y:yX} {Λ:qh}
def Oq (P:Program) (c:Code) (e:LH):Prop:= ∀ (S:TS) (ρ:Type) (κ:X->TS->Option ρ) (r:ρ),S.ok->e S ρ κ=some r->rj P (.loop c) S.st (fun x S'=> ∃S1:TS,S'=S1.st/\S1.ok/\κ x S1=some r)
theorem Ot (hΘ:gC P Θ) (hY:mJ P Y) (hm:P.follows .mixedOrders=true) {c:Code} (hc:mh P c=true) (hL:i9 P Λ (fT c)) (grow:List Kq) (keep keepX:List Nat) (L:w8) (exs:List (X×w8)) (hf: (L.fit&&exs.all Sq)=true)
  (B:L.D->Option (L.D⊕zk.D exs)) (hB: ∀s,yb Θ Y Λ c (L.mk' s) (IQ keep keepX fun x S=>some (x,S))=(B s).bind (Sum.elim (fun s'=>some (.nor,L.mk' s')) fun e=>some (zk.e exs e)))
  (G:L.D->Option (zk.D exs)) (μ:L.D->Nat) (hG: ∀s e,G s=some e->Oi G μ s e (B s)):Oq P c (Oo grow keep L exs G):=by
 simp only[ar] at hf;intro S ρ κ r hS hk;refine Ok (E:=zk.e exs) (fun e=>(zk.ok exs e hf.2).2) (fun s e hs=>P5 hΘ hY hm hc hL (fun s=>w8.mk'_ok hf.1 s) hB (fun e=>(zk.ok exs e hf.2).1) hG hs) hS ?_ (grow:=grow) (keep:=keep);rw[<-hk];unfold Oj Oo;simp only[zk.k_eq]
end
end
section
open Go
def P8 (P:Program) (e:TypeId->List Value->Bool):List Field->Nat->List Value->Bool
 | [],_,[] =>true
 | [],_,_::_=>false
 |f::fs,off,zs=>f.name != "_" &&Nat.beq f.offset off&&Nat.blt 0 (P.cellsOf f.type)&&Nat.ble (P.cellsOf f.type) zs.length&&(P.info? f.type).isSome&&e f.type (zs.take (P.cellsOf f.type))&&P8 P e fs (off+P.cellsOf f.type) (zs.drop (P.cellsOf f.type))
def IR (P:Program):Nat->TypeId->List Value->Bool
 | 0,_,_=>false
 |n+1,t,zs=>match P.underlying t with
  |some .bool=>(match zs with | [.bool _] =>true| _=>false)
  |some (.int _)=>(match zs with | [.int _ _] =>true| _=>false)
  |some (.struct fs)=> !P.stoodInHeld t&&P8 P (IR P n) fs.toList 0 zs
  | _=>false
def EG (P:Program) (t:TypeId) (xs:List Value):Value:=match P.underlying t with
 |some (.struct _)=> .agg xs.toArray
 | _=>xs.headD (.bool false)
def mo:List Value->List Value->Bool
 | [],[] =>true
 | .int k _::zs, .int k' _::cs=>bif decide (k=k') then mo zs cs else false
 | .bool _::zs, .bool _::cs=>mo zs cs
 | _,_=>false
def mL:List Value->List Value->Option Bool
 | [],[] =>some true
 |a::l,b::m=>match Ih a b,mL l m with
  |some x,some y=>some (x&&y)
  | _,_=>none
 | _,_=>none
theorem Dn: ∀ {zs xs:List Value},mt zs (xs.map fun x=> .c (.sc x))=true->mo zs xs=true:=by
 intro zs
 induction zs with
 |nil=>intro xs h; cases xs with
  |nil=>rfl
  |cons=>simp[mt] at h
 |cons z zs ih=>
  intro xs h;cases xs with
  |nil=>cases z<;>simp[mt] at h
  |cons x xs=>
   cases z<;>cases x<;>simp only[aQ,mt,mo,cond_eq_ite,aY] at h ⊢
   ·exact ih h
   ·split at h
    ·rename_i hk;rw[if_pos hk];exact ih h
    ·cases h
theorem Mu: ∀ {xs ys:List Value},wF (xs.map fun x=> .c (.sc x)) (ys.map fun x=> .c (.sc x))=mL xs ys:=by
 intro xs
 induction xs with
 |nil=>intro ys; cases ys<;>rfl
 |cons x xs ih=>
  intro ys;cases ys with
  |nil=>rfl
  |cons y ys=>simp only[aQ,wF,mL,ih];cases Ih x y<;>cases mL xs ys<;>rfl
theorem qW: ∀ {zs xs:List Value},mo zs xs=true->xs.length=zs.length:=by
 intro zs
 induction zs with
 |nil=>intro xs h; cases xs with
  |nil=>rfl
  |cons=>simp[mo] at h
 |cons z zs ih=>
  intro xs h;cases xs with
  |nil=>cases z<;>simp[mo] at h
  |cons x xs=>
   cases z<;>cases x<;>simp only[mo,cond_eq_ite,aY] at h
   ·simp[ih h]
   ·split at h
    ·simp[ih h]
    ·cases h
theorem uw: ∀ {zs xs:List Value} (n:Nat),mo zs xs=true->mo (zs.take n) (xs.take n)=true/\mo (zs.drop n) (xs.drop n)=true:=by
 intro zs
 induction zs with
 |nil=>intro xs n h; cases xs with
  |nil=>simp[mo]
  |cons=>simp[mo] at h
 |cons z zs ih=>
  intro xs n h;cases xs with
  |nil=>cases z<;>simp[mo] at h
  |cons x xs=>
   cases n with
   |zero=>exact⟨rfl,h⟩
   |succ n=>
    cases z<;>cases x<;>simp only[mo,cond_eq_ite,aY] at h
    ·exact ih n h
    ·split at h
     ·rename_i hk;refine⟨?_,(ih n h).2⟩;simp only[List.take_succ_cons,mo,cond_eq_ite];rw[if_pos (by simpa using hk)];exact (ih n h).1
     ·cases h
theorem GI: ∀ {xs ys:List Value} (n:Nat) {r:Bool},mL xs ys=some r-> ∃a b,mL (xs.take n) (ys.take n)=some a/\mL (xs.drop n) (ys.drop n)=some b/\r=(a&&b):=by
 intro xs
 induction xs with
 |nil=>intro ys n r h; cases ys with
  |nil=>cases h; exact⟨true,true,by simp[mL],by simp[mL],rfl⟩
  |cons=>simp[mL] at h
 |cons x xs ih=>
  intro ys n r h;cases ys with
  |nil=>simp[mL] at h
  |cons y ys=>
   cases n with
   |zero=>exact⟨true,r,rfl,h,rfl⟩
   |succ n=>
    simp only[mL] at h;split at h
    ·rename_i p q hp hq;cases h;obtain⟨a,b,h1,h2,rfl⟩:=ih n hq;exact⟨p&&a,b,by simp[mL,hp,h1],h2,by cases p<;>rfl⟩
    ·cases h
theorem GJ {P:Program} {t:TypeId} {i:TypeInfo} (h:P.info? t=some i):eD P (typeInfo t)=some i:=by simp only[typeInfo,ez,program,eD,ae,h];rfl
theorem IT {P:Program} {t:TypeId} {i:TypeInfo} (hi:P.info? t=some i) {d:TypeDesc} (hd:P.underlying t=some d) (hs: ∀n e,d≠ .array n e) {xs:List Value} {off:Nat} {c:Value} (hc:xs[off]? =some c):
  eD P (part t xs.toArray off)=some (EG P t ((xs.drop off).take (P.cellsOf t)))\/P.cellsOf t=0:=by
 by_cases h0:P.cellsOf t=0
 ·exact .inr h0
 refine .inl ?_;have hcell:P.cellsOf t=i.size:=by simp[Program.cellsOf,hi]
 cases hst: (match d with | .struct _=>true| _=>false) with
 |true=>
  have hag:eD P (isAgg t)=some true:=by simp only[isAgg,ez,fQ hd,ae];cases d<;>simp at hst;rfl
  simp only[part,sizeOf,ez,hag,ae,if_true,GJ hi,eY,EG,hd];cases d<;>simp at hst;simp[hcell,Nat.add_sub_cancel_left]
 |false=>
  have hag:eD P (isAgg t)=some false:=by
   simp only[isAgg,ez,fQ hd,ae];cases d<;>simp at hst
   all_goals first |rfl|exact absurd rfl (hs _ _)
  have hv:EG P t ((xs.drop off).take (P.cellsOf t))=c:=by
   have : ((xs.drop off).take (P.cellsOf t)).headD (.bool false)=c:=by
    obtain⟨n,hn⟩: ∃n,P.cellsOf t=n+1:=⟨P.cellsOf t-1,by omega⟩
    have h1:off<xs.length:=(ai.1 hc).1;rw[hn,bD h1,List.take_succ_cons];exact (ai.1 hc).2
   unfold EG;rw[hd];cases d<;>first |exact this|simp at hst
  rw[hv];simp only[part,ez,hag,ae,aY,if_false];have :xs.toArray[off]? =some c:=by simpa using hc
  rw[this];rfl
theorem LI (P:Program): ∀ (n:Nat) {t:TypeId} {zs xs ys:List Value} {r:Bool} (d:Nat),IR P n t zs=true->mo zs xs=true->mo zs ys=true->mL xs ys=some r->eD P (Op.equalIn (n+d) t (EG P t xs) (EG P t ys))=some r
 | 0,t,zs,xs,ys,r,d,h,_,_,_=>by cases h
 |n+1,t,zs,xs,ys,r,d,h,hx,hy,he=>by
  have hn:n+1+d=(n+d)+1:=by omega
  rw[hn];unfold IR at h;cases hu:P.underlying t with
  |none=>rw[hu] at h; cases h
  |some D=>
   rw[hu] at h;cases D<;>simp only[aY] at h
   case bool=>
    split at h
    case h_2=>cases h
    obtain⟨x,rfl⟩: ∃x,xs= [.bool x] :=by
     match xs,hx with
     | [.bool x],_=>exact⟨x,rfl⟩
    obtain⟨y,rfl⟩: ∃y,ys= [.bool y] :=by
     match ys,hy with
     | [.bool y],_=>exact⟨y,rfl⟩
    simp only[mL,Ih,dk,af] at he;subst he;simp only[EG,hu,List.headD_cons];rw[Op.equalIn];simp only[ez,fQ hu,ae,eY]
   case int k=>
    split at h
    case h_2=>cases h
    rename_i k0 _
    obtain⟨x,rfl⟩: ∃x,xs= [.int k0 x] :=by
     match xs,hx with
     | [.int k1 x],hx=>
       simp only[mo,cond_eq_ite] at hx;split at hx
       ·rename_i hk; simp at hk; subst hk; exact⟨x,rfl⟩
       ·cases hx
     | .int _ _::_::_,hx=>simp[mo] at hx
    obtain⟨y,rfl⟩: ∃y,ys= [.int k0 y] :=by
     match ys,hy with
     | [.int k1 x],hx=>
       simp only[mo,cond_eq_ite] at hx;split at hx
       ·rename_i hk; simp at hk; subst hk; exact⟨x,rfl⟩
       ·cases hx
     | .int _ _::_::_,hx=>simp[mo] at hx
    simp only[mL,Ih,dk,af] at he;subst he;simp only[EG,hu,List.headD_cons];rw[Op.equalIn];simp only[ez,fQ hu,ae,eY,if_true]
   case struct fs=>
    simp only[ar,b7] at h;obtain⟨hst,h⟩:=h;simp only[EG,hu]
    have gA: ∀ (fs:List Field) (off:Nat) (zs:List Value) (r:Bool),P8 P (IR P n) fs off zs=true->mo zs (xs.drop off)=true->mo zs (ys.drop off)=true->mL (xs.drop off) (ys.drop off)=some r->
      eD P (Op.eqFields (n+d) xs.toArray ys.toArray fs)=some r:=by
     intro fs
     induction fs with
     |nil=>
      intro off zs r h hx hy he;cases zs with
      |nil=>have h1:=qW hx;have h2:=qW hy;simp only[bX,cY] at h1 h2;rw[h1,h2] at he;cases he;rfl
      |cons=>cases h
     |cons f fs ih=>
      intro off zs r h hx hy he;simp only[P8,ar,bne_iff_ne,ne_eq] at h;obtain⟨⟨⟨⟨⟨⟨hname,hoff⟩,hpos⟩,hle⟩,hi⟩,h1⟩,h2⟩:=h;have hoff:=au hoff;have hpos:0<P.cellsOf f.type:=az hpos;have hle:P.cellsOf f.type<=zs.length:=az hle;have hlx:=qW hx;have hly:=qW hy;rw[ci] at hlx hly;obtain⟨i,hi⟩:=bA.1 hi
      have hu': ∃D,P.underlying f.type=some D/\ ∀n e,D≠ .array n e:=by
       cases hun:P.underlying f.type with
       |none=>cases n<;>simp[IR,hun] at h1
       |some D=>refine⟨D,rfl,fun k e he=> ?_⟩; subst he; cases n<;>simp[IR,hun] at h1
      obtain⟨D,hD,hDa⟩:=hu';have px:=IT hi hD hDa (xs:=xs) (off:=off) (ah (by omega));have py:=IT hi hD hDa (xs:=ys) (off:=off) (ah (by omega));have px:=px.resolve_right (by omega);have py:=py.resolve_right (by omega);obtain⟨a,b,ha,hb,rfl⟩:=GI (P.cellsOf f.type) he;have hA:=LI P n d h1 (uw _ hx).1 (uw _ hy).1 ha;rw[Op.eqFields,if_pos hname];simp only[hoff,ez,px,py,ae,hA];cases a with
      |false=>rfl
      |true=>
       simp only[bg,aY,if_false,Bool.true_and];simp only[bU] at hb;refine ih _ _ _ h2 ?_ ?_ hb
       ·have:=(uw (P.cellsOf f.type) hx).2; rw[bU] at this; exact this
       ·have:=(uw (P.cellsOf f.type) hy).2; rw[bU] at this; exact this
    have:=gA fs.toList 0 zs r h (by simpa using hx) (by simpa using hy) (by simpa using he);rw[<-this];rw[Op.equalIn];simp only[ez,fQ hu,ae,program,eD,hst,aY,if_false];rw[<-Array.forIn_toList];generalize fs.toList=fs;clear this gA h hu hst hn
    induction fs with
    |nil=>rfl
    |cons f fs ih=>
     simp only[List.forIn_cons,Op.eqFields];split
     ·simp only[ez];cases eD P (part f.type xs.toArray f.offset) with
      |none=>rfl
      |some a=>
       cases eD P (part f.type ys.toArray f.offset) with
       |none=>rfl
       |some b=>
        simp only[ae];cases eD P (Op.equalIn (n+d) f.type a b) with
        |none=>rfl
        |some q=>
         cases q
         ·rfl
         ·simp only[ae,bg,aY,if_false,eY];simpa only[ez,Option.bind_assoc] using ih
     ·simp only[ez,eY,ae];simpa only[ez,Option.bind_assoc] using ih
theorem Sr {P:Program} {t:TypeId} {zs:List Value} {fs:Array Field} (hu:P.underlying t=some (.struct fs)) (h:IR P 8 t zs=true) (a b:List Cl) (r:Bool) (xs ys:List Value) (ha:mt zs a=true) (hb:mt zs b=true) (he:wF a b=some r) (hx:a=xs.map (fun x=> .c (.sc x))) (hy:b=ys.map (fun x=> .c (.sc x))):
  eD P (Op.equal t (.agg xs.toArray) (.agg ys.toArray))=some r:=by
 subst hx hy;have:=LI P 8 9992 h (Dn ha) (Dn hb) (by rw[<-Mu]; exact he);unfold EG at this;rw[hu] at this;exact this
end
section
open Go
def Tm (P:Program):List Field->Option (List (Nat×Nat×Bool))
 | [] =>some []
 |f::fs=>match El P f.type,Tm P fs with
  |some ag,some l=>some ((f.offset,P.cellsOf f.type,ag)::l)
  | _,_=>none
def Tx (P:Program) (t:TypeId):Option (List (Nat×Nat×Bool)):=match P.underlying t with |some (.struct fs)=>Tm P fs.toList| _=>none
theorem LJ {P:Program}: ∀ {fs:List Field} {l:List (Nat×Nat×Bool)},Tm P fs=some l-> ∀k,(fs[k]?).bind (fun f=>(El P f.type).map fun ag=>(f.offset,P.cellsOf f.type,ag))=pq l k
 | [],l,h,k=>by cases h; rfl
 |f::fs,l,h,k=>by
  unfold Tm at h;split at h
  ·rename_i ag l' h1 h2;cases h;cases k with
   |zero=>simp[h1,pq]
   |succ k=>show _=pq l' (k+1-1);rw[cy,<-LJ h2 k,ca]
  ·cases h
theorem P9 {P:Program} {t:TypeId} {l:List (Nat×Nat×Bool)} (h:Tx P t=some l) (k:Nat):M4 P t k=pq l k:=by
 unfold Tx at h;unfold M4;split at h
 ·rename_i fs hu;simp only[hu];rw[<-LJ h k,cx]
 ·cases h
theorem Qa (P:Program):gC P [] :=fun _ _ h=>by cases h
theorem eB {P:Program} {t:Nat} {ti:TI} {l:pp} (h:ti.ok P t) (hl:gC P l):gC P ((t,ti)::l):=by
 intro u ui hu;unfold nv at hu;cases hb:Nat.beq t u with
 |true=>rw[hb] at hu;have:=au hb;subst this;cases hu;exact h
 |false=>rw[hb] at hu;exact hl u ui hu
def Ss (P:Program) (t:TypeId):Bool:=match P.underlying t with |some (.struct _)=>true| _=>false
section
variable {P:Program} {t:TypeId}
theorem ou {n:Sn} {fds:List (Nat×Nat×Bool)} {by':Nat} (h1:Ss P t=true) (h2:P.cellsOf t=(Ty.st n).width) (h3:pn P 9 t=(Ty.st n).shs) (h4:zO P t=some (Ty.st n).zvs) (h5:Tx P t=some fds)
  (h6:R5 P t=some (fds.map fun x=>(x.1,x.2.1))) (h7: ((Ty.st n).flatB=true->P.eqGuardType P.depth t=false/\IR P 8 t (Ty.st n).zvs=true)) (hz: (Ty.st n).flatB=false-> ∀xs:List Value,mt (Ty.st n).zvs (xs.map fun x=> .c (.sc x))=false):TI.ok P t ⟨.st n,0,fds,by'⟩:=by
 unfold Ss at h1;split at h1
 case h_2=>cases h1
 rename_i fs hu;refine⟨?_,h2,h3,h4,P9 h5,fun _=>h6,fun e he=>(by cases he),fun hb=>(by cases hb),fun _ hf=>(h7 hf).1,fun _ a b r xs ys ha hb he hx hy=> ?_,?_,fun k hk=>(by cases hk)⟩
 ·simp[El,hu,Ty.ag]
 ·cases hf: (Ty.st n).flatB with
  |true=>exact Sr hu (h7 hf).2 a b r xs ys ha hb he hx hy
  |false=>subst hx;have:=hz hf xs;rw[show mt (Ty.st n).zvs _=true from ha] at this;cases this
 ·simp[F4,hu]
theorem uQ {e:Ty} {el:Nat} {by':Nat} {u:TypeId} (h1:w6 P t=some u) (h2:P.cellsOf t=1) (h4:zO P t=some [.slice none 0 0]) (h5:P.cellsOf u=e.width) (h6:P.bytesOf u=el) (h7:Nat.blt 0 el=true) (h8:pn P 9 u=e.shs) (h9:zO P u=some e.zvs):TI.ok P t ⟨.ls e,el,[],by'⟩:=by
 have hu:P.underlying t=some (.slice u):=by
  unfold w6 at h1;split at h1
  ·rename_i e hu; cases h1; exact hu
  ·cases h1
 refine⟨?_,h2,?_,h4,fun k=> ?_,fun h=>(by cases h),fun e' he=> ?_,fun hb=>(by cases hb),fun h=>(by cases h),fun h=>(by cases h),?_,fun k hk=>(by cases hk)⟩
 ·simp[El,hu,Ty.ag]
 ·simp[pn,hu,Ty.shs,Ty.csh,h5]
 ·simp[M4,hu,pq]
 ·cases he;exact⟨u,h1,h5,h6,az h7,h8,h9⟩
 ·simp[F4,hu]
def TR (P:Program) (t:TypeId) (y:Ty):Bool:=match P.underlying t,y with
 |some (.int k), .i k'=>decide (k=k')
 |some .bool, .b=>true
 |some .string, .s=>true
 | _,_=>false
theorem xk {y:Ty} {by':Nat} (h1:TR P t y=true) (h2:P.cellsOf t=1) (h4:zO P t=some y.zvs):TI.ok P t ⟨y,0,[],by'⟩:=by
 unfold TR at h1;split at h1
 ·rename_i k k' hu;refine⟨(by simp[El,hu,Ty.ag]),h2,(by simp[pn,hu,Ty.shs,Ty.csh]),h4,fun k=>(by simp[M4,hu,pq]),fun h=>(by cases h),fun e' he=>(by cases he),fun hb=>(by cases hb),fun h=>(by cases h),fun h=>(by cases h),by simp[F4,hu],fun q hq=>(by cases hq; rw[hu]; simp only[decide_eq_true_eq] at h1; rw[h1])⟩
 ·rename_i hu;refine⟨(by simp[El,hu,Ty.ag]),h2,(by simp[pn,hu,Ty.shs,Ty.csh]),h4,fun k=>(by simp[M4,hu,pq]),fun h=>(by cases h),fun e' he=>(by cases he),fun hb=>hu,fun h=>(by cases h),fun h=>(by cases h),by simp[F4,hu],fun q hq=>(by cases hq)⟩
 ·rename_i hu;refine⟨(by simp[El,hu,Ty.ag]),h2,(by simp[pn,hu,Ty.shs,Ty.csh]),h4,fun k=>(by simp[M4,hu,pq]),fun h=>(by cases h),fun e' he=>(by cases he),fun hb=>(by cases hb),fun h=>(by cases h),fun h=>(by cases h),by simp[F4,hu],fun q hq=>(by cases hq)⟩
 ·cases h1
end
theorem jt: ∀ {zs:List Value} (xs:List Value),zs.any (fun z=>match z with | .int _ _=>false| .bool _=>false| _=>true)=true->mt zs (xs.map fun x=> .c (.sc x))=false
 | [],xs,h=>by cases h
 |z::zs,xs,h=>by
  cases hb:mt (z::zs) (xs.map fun x=> .c (.sc x)) with
  |false=>rfl
  |true=>
   exfalso;cases xs with
   |nil=>cases z<;>simp[mt] at hb
   |cons x xs=>
    cases z<;>simp only[mt,aQ,aY] at hb
    all_goals cases x<;>simp only[mt,cond_eq_ite,aY] at hb
    ·rw[jt xs (by simpa using h)] at hb; cases hb
    ·split at hb
     ·rw[jt xs (by simpa using h)] at hb; cases hb
     ·cases hb
end
end Go.Proofs.YtjnleglhcppgcaaGreat.En
