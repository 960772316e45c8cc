import Derived.Test.YtjnleglhcppgcaaGreatZX8
import Derived.ProofKit
import Derived.ChangeOld
import Derived.Deep.Slices
import Derived.OpenShut
import Derived.Below
import Derived.Carry
import Derived.WideShapes
namespace Go.Proofs.YtjnleglhcppgcaaGreat.En
section
open Go
def Dw:List Nat->Nat->Nat->Option Nat
 | [],_,_=>none
 |a::l,x,n=>bif Nat.beq a x then some n else Dw l x (n+1)
def AB (bs ls:List Nat):Cl->Cl
 | .own p sz lo len w=>match Dw ls p.r 0 with |some k=> .own ⟨k,p.l⟩ sz lo len w|none=> .dead
 | .ptrT p sz i j=>match Dw ls p.r 0 with |some k=> .ptrT ⟨k,p.l⟩ sz i j|none=> .dead
 | .ptrB n j=>match Dw bs n 0 with |some k=> .ptrB k j|none=> .dead
 |c=>c
def QJ (bs ls:List Nat):V1->V1
 | .cl c=> .cl (AB bs ls c)
 | .agg cs=> .agg (cs.map (AB bs ls))
 | .fn f cs=> .fn f (cs.map (AB bs ls))
def QK (bs ls:List Nat):V->V
 | .v x=> .v (QJ bs ls x)
 | .tup _=>V.dead
def NS:List Nat->List Nat->List Nat
 | [],acc=>acc
 |a::l,acc=>match Dw acc a 0 with |some _=>NS l acc|none=>NS l (acc++ [a])
def Fc:List Nat->Bool
 | [] =>true
 |a::l=>(match Dw l a 0 with |some _=>false|none=>true)&&Fc l
def Wm:Cl->List Nat| .ptrB n _=> [n] | _=> []
def Vk:Cl->List Nat| .own p _ _ _ _=> [p.r] | .ptrT p _ _ _=> [p.r] | _=> []
def V1.all:V1->List Cl| .cl c=> [c] | .agg cs=>cs| .fn _ cs=>cs
def V.all:V->List Cl| .v x=>x.all| .tup _=> []
def NT (S:TS) (keep:List Nat):List Nat:=NS (keep.flatMap fun t=>(kj S.env t).all.flatMap Wm) []
def TR (S:TS) (keep bs:List Nat):List Nat:=NS (List.range S.fz++(keep.flatMap fun t=>(kj S.env t).all.flatMap Vk)++bs.flatMap fun b=>((qz S.bx b).getD []).flatMap Vk) []
def km (S:TS) (keep bs ls:List Nat):TS where
 env:=keep.map fun t=>(t,QK bs ls (kj S.env t))
 bx:=bs.map fun b=>((qz S.bx b).getD []).map (AB bs ls)
 gh:=ls.map fun r=>gx S.gh r
 fz:=S.fz
 nt:=S.nt
def IH (S:TS) (bs ls:List Nat):Bool:=Fc bs&&Fc ls&&bs.all (fun b=>Nat.blt b S.bx.length)&&Vc (ls.take S.fz) (List.range S.fz)&&ls.all (fun r=>Nat.blt r S.gh.length)
def OT (G:List (Option fr)):Cl->Cl
 | .own p sz lo len true=> .own p sz lo (match qz G p.r with |some (some tr)=>tr.l.length| _=>len) true
 |c=>c
def QL (G:List (Option fr)):V1->V1
 | .cl c=> .cl (OT G c)
 | .agg cs=> .agg (cs.map (OT G))
 | .fn f cs=> .fn f (cs.map (OT G))
def Vl (G:List (Option fr)):V->V
 | .v x=> .v (QL G x)
 | .tup l=> .tup (l.map (QL G))
def Ur (S:TS):TS:= { S with env:=S.env.map (fun x=>(x.1,Vl S.gh x.2)),bx:=S.bx.map (fun cs=>cs.map (OT S.gh)) }
def Ck {ρ:Type} (keep:List Nat) (S:TS) (κ:TS->Option ρ):Option ρ:=bif IH S (NT S keep) (TR S keep (NT S keep)) then κ (Ur (km S keep (NT S keep) (TR S keep (NT S keep)))) else none
theorem Cm: ∀ {l:List Nat} {x n k:Nat},Dw l x n=some k->n<=k/\l[k-n]? =some x
 | [],x,n,k,h=>by cases h
 |a::l,x,n,k,h=>by
  simp only[Dw] at h;cases hb:Nat.beq a x with
  |true=>rw[hb] at h;simp only[cond_true,af] at h;subst h;exact⟨ay _,by simp[au hb]⟩
  |false=>rw[hb] at h;obtain⟨h1,h2⟩:=Cm (l:=l) h;refine⟨by omega,?_⟩;rw[show k-n=(k-(n+1))+1 by omega,ch];exact h2
theorem HB: ∀ {l:List Nat} {x n:Nat},Dw l x n=none->x∉l
 | [],x,n,_=>by simp
 |a::l,x,n,h=>by
  simp only[Dw] at h;cases hb:Nat.beq a x with
  |true=>rw[hb] at h; cases h
  |false=>
   rw[hb] at h;have:=HB (l:=l) h;intro hm;rcases aW.1 hm with rfl|hm
   ·rw[cI] at hb; cases hb
   ·exact this hm
theorem AD: ∀ {l:List Nat},Fc l=true-> ∀ (i j x:Nat),l[i]? =some x->l[j]? =some x->i=j
 | [],_,i,j,x,hi,_=>by simp at hi
 |a::l,h,i,j,x,hi,hj=>by
  simp only[Fc,aq] at h
  have hna:a∉l:=by
   have h1:=h.1;split at h1
   ·cases h1
   ·rename_i hp; exact HB hp
  cases i with
  |zero=>
   simp only[aK,af] at hi;subst hi;cases j with
   |zero=>rfl
   |succ j=>simp only[ch] at hj; exact absurd (ao hj) hna
  |succ i=>
   simp only[ch] at hi;cases j with
   |zero=>simp only[aK,af] at hj;subst hj;exact absurd (ao hi) hna
   |succ j=>simp only[ch] at hj;rw[AD h.2 i j x hi hj]
def Bt.ren (bt:Bt) (bs ls:List Nat):Bt where
 β:=fun p=>bt.β ⟨ls.getD p.r 0,p.l⟩
 κ:=fun p=>bt.κ ⟨ls.getD p.r 0,p.l⟩
 bb:=fun n=>bt.bb (bs.getD n 0)
 nb:=bs.length
 ng:=ls.length
 A:=bt.A
theorem II {w:World} {bt:Bt} {bs ls:List Nat} {c:Cl} {u:Value} (h:VR w bt c.av u):VR w (bt.ren bs ls) (AB bs ls c).av u:=by
 have lt: ∀ {l:List Nat} {x k:Nat},Dw l x 0=some k->k<l.length/\l.getD k 0=x:=by intro l x k hk;obtain⟨_,h2⟩:=Cm hk;rw[cK] at h2;exact⟨(ai.1 h2).1,by simp[aw,h2]⟩
 cases c with
 |c x=>
  cases x with
  |sc v=>cases h with |sc h=>exact .sc h
  |ls t l=>cases h with |ro h=>exact .ro h
 |em=>cases h with |em a=>exact .em a
 |own p sz lo len wh=>
  simp only[AB];split
  ·rename_i k hk;obtain⟨h1,h2⟩:=lt hk;have hp: (⟨ls.getD k 0,p.l⟩:fj)=p:=by rw[h2]
   have e1: (bt.ren bs ls).κ ⟨k,p.l⟩=bt.κ p:=by have e: (bt.ren bs ls).κ ⟨k,p.l⟩=bt.κ (fj.mk (ls.getD k 0) p.l):=rfl;rw[e,hp]
   have e2: (bt.ren bs ls).β ⟨k,p.l⟩=bt.β p:=by have e: (bt.ren bs ls).β ⟨k,p.l⟩=bt.β (fj.mk (ls.getD k 0) p.l):=rfl;rw[e,hp]
   cases h with
   |own hp' hc hkk ha=>exact .own h1 hc (by rw[e1]; exact hkk) (by rw[e2]; exact ha)
  ·exact .dead _
 |pro cs=>cases h with |pro cs hs hA hr ht=>exact .pro cs hs hA hr ht
 |ptrB n j=>
  simp only[AB];split
  ·rename_i k hk;obtain⟨h1,h2⟩:=lt hk;cases h with
   |ptrB j hn=>
    have :bt.bb n=(bt.ren bs ls).bb k:=by show bt.bb n=bt.bb (bs.getD k 0); rw[h2]
    rw[this];exact .ptrB j h1
  ·exact .dead _
 |ptrT p sz i j=>
  simp only[AB];split
  ·rename_i k hk;obtain⟨h1,h2⟩:=lt hk;have hp: (⟨ls.getD k 0,p.l⟩:fj)=p:=by rw[h2]
   cases h with
   |ptrT sz i j hp' hkk=>
    have e1:bt.β p=(bt.ren bs ls).β ⟨k,p.l⟩:=by show bt.β p=bt.β ⟨ls.getD k 0,p.l⟩; rw[hp]
    rw[e1];exact .ptrT sz i j h1 (by show _<bt.κ ⟨ls.getD k 0,p.l⟩; rw[hp]; exact hkk)
  ·exact .dead _
 |dead=>exact .dead _
theorem QM {w:World} {bt:Bt} {bs ls:List Nat} {v:V1} {u:Value} (h:VR w bt v.av u):VR w (bt.ren bs ls) (QJ bs ls v).av u:=by
 have cells: ∀ (cs:List Cl) (us:List Value),us.length=cs.length->(∀ (k:Nat) (c:AV) (u:Value),(cs.map Cl.av)[k]? =some c->us[k]? =some u->VR w bt c u)-> ∀ (k:Nat) (c:AV) (u:Value),((cs.map (AB bs ls)).map Cl.av)[k]? =some c->us[k]? =some u->VR w (bt.ren bs ls) c u:=by intro cs us _ hr k c u hk hu;rw[ar,ar] at hk;simp only[ak] at hk;obtain⟨c1,⟨c0,hc0,rfl⟩,rfl⟩:=hk;exact II (hr k c0.av u (by rw[ar,hc0]; rfl) hu)
 cases v with
 |cl c=>exact II h
 |agg cs=>
  simp only[V1.av] at h;cases h with
  |agg hl ho hr=>exact .agg (by simpa using hl) ho (cells cs _ (by simpa using hl) hr)
 |fn f cs=>
  simp only[V1.av] at h;cases h with
  |fn f hl hr=>exact .fn f (by simpa using hl) (cells cs _ (by simpa using hl) hr)
theorem SR {w:World} {bt:Bt} {bs ls:List Nat} {v:V} {u:Value} (h:VR w bt v.av u):VR w (bt.ren bs ls) (QK bs ls v).av u:=by
 cases v with
 |v x=>exact QM h
 |tup l=>exact .dead _
theorem HC (S:TS) (f:V->V): ∀ (keep:List Nat) (t:Nat),kj (keep.map fun t=>(t,f (kj S.env t))) t=V.dead\/kj (keep.map fun t=>(t,f (kj S.env t))) t=f (kj S.env t)
 | [],t=> .inl rfl
 |u::l,t=>by
  simp only[aZ,kj];cases hb:Nat.beq u t with
  |true=>rw[au hb]; exact .inr rfl
  |false=>exact HC S f l t
theorem yY (S:TS) (keep bs ls:List Nat) (r:Nat):gx (km S keep bs ls).gh r=(ls[r]?).bind fun q=>gx S.gh q:=by show (qz (ls.map fun r=>gx S.gh r) r).getD none=_;rw[gR,ar];cases ls[r]?<;>rfl
theorem KP {S:TS} {keep bs ls:List Nat} (h:IH S bs ls=true):qN S.st (km S keep bs ls).st:=by
 unfold IH at h;simp only[aq] at h;obtain⟨⟨⟨⟨hnb,hnl⟩,hbs⟩,hfz⟩,hlt⟩:=h;have hfz:=IA hfz;intro w0 W btI SI bt a w hl;have inv:=hl.inv
 have hls: ∀ (k:Nat),k<S.fz->ls[k]? =some k:=by
  intro k hk;have : (ls.take S.fz)[k]? =(List.range S.fz)[k]? :=by rw[hfz]
  rw[bi,if_pos hk,List.getElem?_range hk] at this;exact this
 have look: ∀p s rs,(km S keep bs ls).st.look p= .sl s rs-> ∃q,ls[p.r]? =some q/\S.st.look ⟨q,p.l⟩= .sl s rs/\ls.getD p.r 0=q:=by
  intro p s rs hp;unfold St.look at hp
  have e: (km S keep bs ls).st.gh p.r=((ls[p.r]?).bind fun q=>gx S.gh q).map fr.tree:=by show (gx _ _).map fr.tree=_;rw[yY]
  rw[e] at hp;cases hq:ls[p.r]? with
  |none=>rw[hq] at hp; cases hp
  |some q=>refine⟨q,rfl,?_,by simp[aw,hq]⟩;rw[hq] at hp;exact hp
 have box: ∀n cells,(km S keep bs ls).st.bx n=some cells-> ∃b cs,bs[n]? =some b/\S.bx[b]? =some cs/\cells=(cs.map (AB bs ls)).map Cl.av/\bs.getD n 0=b:=by intro n cells hn;have hn': (qz (bs.map fun b=>((qz S.bx b).getD []).map (AB bs ls)) n).map (fun cs=>cs.map Cl.av)=some cells:=hn;rw[gR,ar] at hn';simp only[ak] at hn';obtain⟨x,⟨b,hb,rfl⟩,rfl⟩:=hn';have hlt':b<S.bx.length:=aA (ax.1 hbs b (ao hb));refine⟨b,S.bx[b],hb,ah hlt',?_,by simp[aw,hb]⟩;rw[gR,ah hlt'];rfl
 have bxS: ∀ {b:Nat} {cs:List Cl},S.bx[b]? =some cs->S.st.bx b=some (cs.map Cl.av):=by intro b cs hb;show (qz S.bx b).map _=_;rw[gR,hb];rfl
 refine⟨bt.ren bs ls,?_⟩
 refine⟨{ os:=inv.os,tape:=inv.tape,output:=inv.output,size:=inv.size,keep:=inv.keep
          nb:=by show bs.length=_; simp[TS.st,km]
          ng:=by show ls.length=_; simp[TS.st,km]
          bx:=fun n cells hn=> ?_
          gh:=fun r t hr=> ?_
          tr:=fun p sz rows hp=> ?_
          inj:=fun p q s rs s' rs' hp hq hk hk' he=> ?_
          bbinj:=fun n m cs cs' hn hm he=> ?_
          bbtr:=fun n cs p s rs hn hp hk=> ?_
          alt:=inv.alt
          atr:=fun p s rs hp hk=> ?_
          abb:=fun n cs hn=> ?_ },⟨hl.er.1,fun t=> ?_⟩,hl.defers,hl.fz,?_,fun p hp=> ?_,fun r hr hn=> ?_⟩
 ·obtain⟨b,cs,h1,h2,rfl,h4⟩:=box n cells hn;obtain⟨g1,g2,arr,e,g3,g4,g5⟩:=inv.bx b _ (bxS h2);refine⟨by show n<_; have:=(ai.1 h1).1; simpa [TS.st,km] using this,by show _<=bt.bb (bs.getD n 0); rw[h4]; exact g2,arr,e,by show w.heap[bt.bb (bs.getD n 0)]? =_; rw[h4]; exact g3,by simpa using g4,fun j v hj=> ?_⟩;rw[ar,ar] at hj;simp only[ak] at hj;obtain⟨c1,⟨c0,hc0,rfl⟩,rfl⟩:=hj;obtain⟨c,k1,k2,k3⟩:=g5 j c0.av (by rw[ar,hc0]; rfl);exact⟨c,k1,II k2,k3⟩
 ·have hr': (gx (km S keep bs ls).gh r).map fr.tree=some t:=hr;rw[yY] at hr';show r<_;cases hq:ls[r]? with
  |none=>rw[hq] at hr'; cases hr'
  |some q=>have:=(ai.1 hq).1;simpa [TS.st,km] using this
 ·obtain⟨q,h1,h2,h3⟩:=look p sz rows hp;obtain⟨g1,g2⟩:=inv.tr _ _ _ h2;have eκ: (bt.ren bs ls).κ p=bt.κ ⟨q,p.l⟩:=by show bt.κ ⟨ls.getD p.r 0,p.l⟩=_; rw[h3]
  have eβ: (bt.ren bs ls).β p=bt.β ⟨q,p.l⟩:=by show bt.β ⟨ls.getD p.r 0,p.l⟩=_; rw[h3]
  rw[eκ,eβ];refine⟨g1,fun hk=>⟨(g2 hk).1,?_⟩⟩;obtain⟨_,cs,e,k1,k2,k3,k4⟩:=g2 hk;refine⟨cs,e,by rw[eβ]; exact k1,by rw[eκ]; exact k2,k3,fun i r hi=> ?_⟩;obtain⟨m1,m2⟩:=k4 i r hi;refine⟨m1,fun j x hj=> ?_⟩;obtain⟨c,n1,n2⟩:=m2 j x hj;refine⟨c,n1,?_⟩;have f1: (bt.ren bs ls).κ (p.sub i j)=bt.κ (fj.sub ⟨q,p.l⟩ i j):=by show bt.κ ⟨ls.getD p.r 0,p.l++ [(i,j)]⟩=bt.κ ⟨q,p.l++ [(i,j)]⟩; rw[h3]
  have f2: (bt.ren bs ls).β (p.sub i j)=bt.β (fj.sub ⟨q,p.l⟩ i j):=by show bt.β ⟨ls.getD p.r 0,p.l++ [(i,j)]⟩=bt.β ⟨q,p.l++ [(i,j)]⟩; rw[h3]
  cases n2 with
  |sc h=>exact .sc h
  |dd u=>exact .dd _
  |sl q1 q2 q3=>exact .sl q1 (by rw[f1]; exact q2) (by rw[f2]; exact q3)
 ·obtain⟨p',h1,h2,h3⟩:=look p s rs hp;obtain⟨q',g1,g2,g3⟩:=look q s' rs' hq;have:=inv.inj ⟨p',p.l⟩ ⟨q',q.l⟩ _ _ _ _ h2 g2 (by rw[<-h3]; exact hk) (by rw[<-g3]; exact hk') (by rw[<-h3,<-g3]; exact he);simp only[fj.mk.injEq] at this;obtain⟨e1,e2⟩:=this;subst e1;have e3:=AD hnl _ _ _ h1 g1;cases p; cases q;simp only at e3 e2;rw[e3,e2]
 ·obtain⟨b,c,h1,h2,_,h4⟩:=box n cs hn;obtain⟨b',c',g1,g2,_,g4⟩:=box m cs' hm
  have:=inv.bbinj b b' _ _ (bxS h2) (bxS g2) (by have he':bt.bb (bs.getD n 0)=bt.bb (bs.getD m 0):=he;rw[h4,g4] at he';exact he')
  subst this;exact AD hnb _ _ _ h1 g1
 ·obtain⟨b,c,h1,h2,_,h4⟩:=box n cs hn;obtain⟨q,g1,g2,g3⟩:=look p s rs hp;have hk':0<bt.κ ⟨ls.getD p.r 0,p.l⟩:=hk;rw[g3] at hk';show bt.bb (bs.getD n 0)≠bt.β ⟨ls.getD p.r 0,p.l⟩;rw[h4,g3];exact inv.bbtr _ _ _ _ _ (bxS h2) g2 hk'
 ·obtain⟨q,g1,g2,g3⟩:=look p s rs hp;have hk':0<bt.κ ⟨ls.getD p.r 0,p.l⟩:=hk;rw[g3] at hk';show ¬bt.A (bt.β ⟨ls.getD p.r 0,p.l⟩);rw[g3];exact inv.atr _ _ _ g2 hk'
 ·obtain⟨b,c,h1,h2,_,h4⟩:=box n cs hn;show ¬bt.A (bt.bb (bs.getD n 0));rw[h4];exact inv.abb _ _ (bxS h2)
 ·show VR w _ (kj (km S keep bs ls).env t).av _;rcases HC S (QK bs ls) keep t with h1|h1
  ·have :kj (km S keep bs ls).env t=V.dead:=h1;rw[this];exact .dead _
  ·have :kj (km S keep bs ls).env t=QK bs ls (kj S.env t):=h1;rw[this];exact SR (hl.er.2 t)
 ·show S.fz<=(km S keep bs ls).gh.length;rcases bn S.fz with h0|h0
  ·omega
  ·have:=(ai.1 (hls (S.fz-1) (by omega))).1;simp[km];omega
 ·have hp':p.r<S.fz:=by have:=hl.fz; have e:S.st.fz=S.fz:=rfl; omega
  have h3:ls.getD p.r 0=p.r:=by simp[aw,hls p.r hp']
  have:=hl.keep p hp;show bt.β ⟨ls.getD p.r 0,p.l⟩=_/\bt.κ ⟨ls.getD p.r 0,p.l⟩=_;rw[h3];exact this
 ·have hr':r<S.fz:=by have:=hl.fz; have e:S.st.fz=S.fz:=rfl; omega
  refine hl.gone r hr ?_;have hn': (gx (km S keep bs ls).gh r).map fr.tree=none:=hn;rw[yY,hls r hr'] at hn';exact hn'
theorem D6 {S:TS} {bs ls:List Nat} {keep:List Nat} {c:Cl} (h:c.ok S.gh): (AB bs ls c).ok (km S keep bs ls).gh:=by
 have lt: ∀ {x k:Nat},Dw ls x 0=some k->k< (km S keep bs ls).gh.length/\ls[k]? =some x:=by intro x k hk;obtain⟨_,h2⟩:=Cm hk;rw[cK] at h2;exact⟨by have:=(ai.1 h2).1; simpa [km] using this,h2⟩
 cases c with
 |own p sz lo len w=>
  simp only[AB];split
  ·rename_i k hk;obtain⟨h1,h2⟩:=lt hk;refine⟨h1,fun hw=> ?_⟩;obtain⟨a,b,c⟩:=h.2 hw;refine⟨a,b,fun tr htr=>c tr ?_⟩;rw[yY,h2] at htr;exact htr
  ·trivial
 |ptrT p sz i j=>
  simp only[AB];split
  ·rename_i k hk; exact (lt hk).1
  ·trivial
 |ptrB n j=>simp only[AB]; split<;>trivial
 | _=>trivial
theorem ST {S:TS} {bs ls:List Nat} {keep:List Nat} {v:V} (h:v.ok S.gh): (QK bs ls v).ok (km S keep bs ls).gh:=by
 have one: ∀ {v:V1},v.ok S.gh->(QJ bs ls v).ok (km S keep bs ls).gh:=by
  intro v h;cases v with
  |cl c=>exact D6 h
  |agg cs=>intro c hc; obtain⟨x,hx,rfl⟩:=aM.1 hc; exact D6 (h x hx)
  |fn f cs=>intro c hc; obtain⟨x,hx,rfl⟩:=aM.1 hc; exact D6 (h x hx)
 cases v with
 |v x=>exact one h
 |tup l=>trivial
theorem HD {S:TS} (hS:S.ok) (keep bs ls:List Nat): (km S keep bs ls).ok:=by
 refine⟨fun x hx=> ?_,fun cs hcs c hc=> ?_⟩
 ·obtain⟨t,_,rfl⟩:=aM.1 hx;exact ST (D3 hS t)
 ·obtain⟨b,_,rfl⟩:=aM.1 hcs;obtain⟨x,hx,rfl⟩:=aM.1 hc;cases hb:qz S.bx b with
  |none=>rw[hb] at hx; cases hx
  |some cs=>rw[hb] at hx;rw[gR] at hb;exact D6 (hS.bx cs (ao hb) x hx)
theorem D7 {G:List (Option fr)} {c:Cl} (h:c.ok G):OT G c=c:=by
 unfold OT;split
 ·rename_i p sz lo len;split
  ·rename_i tr htr;rw[(h.2 rfl).2.2 tr (by unfold gx; rw[htr]; rfl)]
  ·rfl
 ·rfl
theorem KQ {G:List (Option fr)} {v:V1} (h:v.ok G):QL G v=v:=by
 cases v with
 |cl c=>exact congrArg V1.cl (D7 h)
 |agg cs=>exact congrArg V1.agg ((aL fun c hc=>D7 (h c hc)).trans (List.map_id' cs))
 |fn f cs=>exact congrArg (V1.fn f) ((aL fun c hc=>D7 (h c hc)).trans (List.map_id' cs))
theorem SU {G:List (Option fr)} {v:V} (h:v.ok G):Vl G v=v:=by
 cases v with
 |v x=>exact congrArg V.v (KQ h)
 |tup l=>exact congrArg V.tup ((aL fun c hc=>KQ (h c hc)).trans (List.map_id' l))
theorem SW {S:TS} (h:S.ok):Ur S=S:=by unfold Ur;rw[aL (g:=id) (fun x hx=>by rw[SU (h.env x hx)]; rfl),aL (g:=id) (l:=S.bx) (fun cs hcs=>(aL fun c hc=>D7 (h.bx cs hcs c hc)).trans (List.map_id' cs)),List.map_id,List.map_id]
theorem vK {ρ:Type} {S:TS} (hS:S.ok) {keep:List Nat} {κ:TS->Option ρ} {r:ρ} (h:Ck keep S κ=some r): ∃S1:TS,qN S.st S1.st/\S1.ok/\κ S1=some r:=by unfold Ck at h;obtain⟨h1,h⟩:=eC h;rw[SW (HD hS _ _ _)] at h;exact⟨_,KP h1,HD hS _ _ _,h⟩
end
section
open Go
inductive Sh where
 |int (k:IntKind)|bl|str|ro (t:Ty)|own (r:Nat) (t:Ty)|ptr (n j:Nat)|em|dead|pro (t:Ty)|fc (g:Nat)|sub (r:Nat) (t:Ty)
abbrev Sh.D:Sh->Type
 | .int _=>Int| .bl=>Bool| .str=>ByteArray| .ro t=>List t.D| .pro t=>t.D| .sub _ _=>Nat×Nat| _=>Unit
abbrev yZ.D:List Sh->Type
 | [] =>Unit
 |s::l=>s.D×yZ.D l
inductive BR where
 |cl (s:Sh)|agg (l:List Sh)|st (n:Sn)|fn (f:FuncId) (l:List Sh)
abbrev BR.D:BR->Type
 | .cl s=>s.D| .agg l=>yZ.D l| .st n=>n.D| .fn _ l=>yZ.D l
abbrev Gm.D:List (Nat×BR)->Type
 | [] =>Unit
 |x::l=>x.2.D×Gm.D l
abbrev Gn.D:List (List Sh)->Type
 | [] =>Unit
 |x::l=>yZ.D x×Gn.D l
abbrev vi.D:List Ty->Type
 | [] =>Unit
 |t::l=>List t.D×vi.D l
structure zp where
 env:List (Nat×BR)
 bx:List (List Sh)
 gh:List Ty
 fz:Nat
 nt:Nat
abbrev zp.D (L:zp):Type:=Gm.D L.env×Gn.D L.bx×vi.D L.gh
def Us (G:List (Option fr)) (r:Nat):Nat:=match qz G r with |some (some tr)=>tr.l.length| _=>0
def Sh.mk (G:List (Option fr)): (s:Sh)->s.D->Cl
 | .int k,n=> .c (.sc (.int k n))| .bl,v=> .c (.sc (.bool v))| .str,v=> .c (.sc (.string v))| .ro t,l=> .c (.ls t l)
 | .own r t,_=> .own ⟨r,[]⟩ t.width 0 (Us G r) true| .ptr n j,_=> .ptrB n j| .em,_=> .em| .dead,_=> .dead| .pro t,x=> .pro (t.flat x)| .fc g,_=> .c (.sc (.func (.func g) #[] #[]))| .sub r t,x=> .own ⟨r,[]⟩ t.width x.1 x.2 false
def yZ.mk (G:List (Option fr)): (l:List Sh)->yZ.D l->List Cl
 | [],_=> []
 |s::l,x=>s.mk G x.1::yZ.mk G l x.2
def BR.mk (G:List (Option fr)): (v:BR)->v.D->V
 | .cl s,x=> .v (.cl (s.mk G x))| .agg l,x=> .v (.agg (yZ.mk G l x))| .st n,x=> .v (.agg ((n.flat x).map .c))| .fn f l,x=> .v (.fn f (yZ.mk G l x))
def Gm.mk (G:List (Option fr)): (l:List (Nat×BR))->Gm.D l->List (Nat×V)
 | [],_=> []
 |x::l,d=>(x.1,x.2.mk G d.1)::Gm.mk G l d.2
def Gn.mk (G:List (Option fr)): (l:List (List Sh))->Gn.D l->List (List Cl)
 | [],_=> []
 |x::l,d=>yZ.mk G x d.1::Gn.mk G l d.2
def vi.mk: (l:List Ty)->vi.D l->List (Option fr)
 | [],_=> []
 |t::l,d=>some ⟨t,d.1,none⟩::vi.mk l d.2
def zp.mk' (L:zp) (d:L.D):TS:= { env:=Gm.mk (vi.mk L.gh d.2.2) L.env d.1,bx:=Gn.mk (vi.mk L.gh d.2.2) L.bx d.2.1,gh:=vi.mk L.gh d.2.2,fz:=L.fz,nt:=L.nt }
section
variable {ρ:Type}
def Sh.un: (s:Sh)->Cl->(s.D->Option ρ)->Option ρ
 | .int k, .c (.sc (.int k' n)),κ=>bif decide (k'=k) then κ n else none
 | .bl, .c (.sc (.bool v)),κ=>κ v
 | .str, .c (.sc (.string v)),κ=>κ v
 | .ro t, .c (.ls t' l),κ=>match xG t' t l with |some l=>κ l|none=>none
 | .own r t, .own p sz _ _ w,κ=>match p.l with | [] =>(bif w&&Nat.beq p.r r&&Nat.beq sz t.width then κ () else none)| _=>none
 | .ptr n i, .ptrB m j,κ=>bif Nat.beq m n&&Nat.beq j i then κ () else none
 | .em, .em,κ=>κ ()
 | .dead, .dead,κ=>κ ()
 | .pro t, .pro xs,κ=>(match t.unflat xs with |some x=>κ x|none=>none)
 | .fc g, .c (.sc (.func (.func g') cs ts)),κ=>bif Nat.beq g' g&&Nat.beq cs.size 0&&Nat.beq ts.size 0 then κ () else none
 | .sub r t, .own p sz lo len w,κ=>match p.l with | [] =>(bif !w&&Nat.beq p.r r&&Nat.beq sz t.width then κ (lo,len) else none)| _=>none
 | _,_,_=>none
def yZ.un: (l:List Sh)->List Cl->(yZ.D l->Option ρ)->Option ρ
 | [],[],κ=>κ ()
 |s::l,c::cs,κ=>s.un c fun x=>yZ.un l cs fun y=>κ (x,y)
 | _,_,_=>none
def BR.un: (v:BR)->V->(v.D->Option ρ)->Option ρ
 | .cl s, .v (.cl c),κ=>s.un c κ
 | .agg l, .v (.agg cs),κ=>yZ.un l cs κ
 | .st n, .v (.agg cs),κ=>match Ix cs with |some xs=>(match n.unflat xs with |some x=>κ x|none=>none)|none=>none
 | .fn f l, .v (.fn g cs),κ=>bif Nat.beq f g then yZ.un l cs κ else none
 | _,_,_=>none
def Gm.un: (l:List (Nat×BR))->List (Nat×V)->(Gm.D l->Option ρ)->Option ρ
 | [],[],κ=>κ ()
 |x::l,y::m,κ=>bif Nat.beq x.1 y.1 then x.2.un y.2 fun a=>Gm.un l m fun b=>κ (a,b) else none
 | _,_,_=>none
def Gn.un: (l:List (List Sh))->List (List Cl)->(Gn.D l->Option ρ)->Option ρ
 | [],[],κ=>κ ()
 |x::l,y::m,κ=>yZ.un x y fun a=>Gn.un l m fun b=>κ (a,b)
 | _,_,_=>none
def vi.un: (l:List Ty)->List (Option fr)->(vi.D l->Option ρ)->Option ρ
 | [],[],κ=>κ ()
 |t::l,some tr::m,κ=>match tr.hole with
  |none=>(match xG tr.t t tr.l with |some a=>vi.un l m fun b=>κ (a,b)|none=>none)
  |some _=>none
 | _,_,_=>none
def zp.un (L:zp) (S:TS) (κ:L.D->Option ρ):Option ρ:=vi.un L.gh S.gh fun g=>Gm.un L.env S.env fun e=>Gn.un L.bx S.bx fun b=>bif Nat.beq S.fz L.fz&&Nat.beq S.nt L.nt then κ (e,b,g) else none
theorem Sh.un_some {G:List (Option fr)} (hG: ∀r,r<G.length-> ∃tr,qz G r=some (some tr)): ∀ {s:Sh} {c:Cl} {κ:s.D->Option ρ} {r:ρ},c.ok G->s.un c κ=some r-> ∃x,c=s.mk G x/\κ x=some r:=by
 intro s c κ r hc h;cases s with
 |int k=>
  cases c with
  |c y=>cases y with
   |sc v=>cases v with
    |int k' n=>simp only[Sh.un] at h;obtain⟨h1,h⟩:=eC h;have:=of_decide_eq_true h1;subst this;exact⟨n,rfl,h⟩
    | _=>simp[Sh.un] at h
   |ls t l=>simp[Sh.un] at h
  | _=>simp[Sh.un] at h
 |bl=>
  cases c with
  |c y=>cases y with
   |sc v=>cases v with
    |bool v=>exact⟨v,rfl,h⟩
    | _=>simp[Sh.un] at h
   |ls t l=>simp[Sh.un] at h
  | _=>simp[Sh.un] at h
 |str=>
  cases c with
  |c y=>cases y with
   |sc v=>cases v with
    |string v=>exact⟨v,rfl,h⟩
    | _=>simp[Sh.un] at h
   |ls t l=>simp[Sh.un] at h
  | _=>simp[Sh.un] at h
 |ro t=>
  cases c with
  |c y=>cases y with
   |sc v=>simp[Sh.un] at h
   |ls t' l=>
    simp only[Sh.un] at h;split at h
    ·rename_i l' hl;obtain⟨e,hl⟩:=iK hl;subst e;simp only at hl;subst hl;exact⟨l,rfl,h⟩
    ·cases h
  | _=>simp[Sh.un] at h
 |own q t=>
  cases c with
  |own p sz lo len w=>
   obtain⟨pr,pl⟩:=p;cases pl with
   |cons a l=>simp[Sh.un] at h
   |nil=>simp only[Sh.un] at h;obtain⟨h1,h'⟩:=eC h;clear h;simp only[aq] at h1;obtain⟨⟨h0,h2⟩,h3⟩:=h1;have h2:pr=q:=au h2;have h3:sz=t.width:=au h3;subst h0 h2 h3;obtain⟨k1,k2⟩:=hc;obtain⟨_,k3,k4⟩:=k2 rfl;obtain⟨tr,htr⟩:=hG _ k1;have k5:=k4 tr (fr.look htr);refine⟨(),?_,h'⟩;simp only[Sh.mk,Us,k3,k5,htr]
  |c y=>cases y<;>simp[Sh.un] at h
  | _=>simp[Sh.un] at h
 |sub q t=>
  cases c with
  |own p sz lo len w=>
   obtain⟨pr,pl⟩:=p;cases pl with
   |cons a l=>simp[Sh.un] at h
   |nil=>simp only[Sh.un] at h;obtain⟨h1,h'⟩:=eC h;clear h;simp only[aq,bV] at h1;obtain⟨⟨h0,h2⟩,h3⟩:=h1;have h2:pr=q:=au h2;have h3:sz=t.width:=au h3;subst h0 h2 h3;exact⟨(lo,len),rfl,h'⟩
  |c y=>cases y<;>simp[Sh.un] at h
  | _=>simp[Sh.un] at h
 |ptr n i=>
  cases c with
  |ptrB m j=>simp only[Sh.un] at h;obtain⟨h1,h'⟩:=eC h;clear h;simp only[aq] at h1;have h2:=au h1.1;have h3:=au h1.2;subst h2 h3;exact⟨(),rfl,h'⟩
  |c y=>cases y<;>simp[Sh.un] at h
  | _=>simp[Sh.un] at h
 |em=>
  cases c with
  |em=>exact⟨(),rfl,h⟩
  |c y=>cases y<;>simp[Sh.un] at h
  | _=>simp[Sh.un] at h
 |dead=>
  cases c with
  |dead=>exact⟨(),rfl,h⟩
  |c y=>cases y<;>simp[Sh.un] at h
  | _=>simp[Sh.un] at h
 |pro t=>
  cases c with
  |pro xs=>
   simp only[Sh.un] at h;split at h
   ·rename_i x hx;exact⟨x,by simp only[Sh.mk]; rw[t.unflat_some _ _ hx],h⟩
   ·cases h
  |c y=>cases y<;>simp[Sh.un] at h
  | _=>simp[Sh.un] at h
 |fc g=>
  unfold Sh.un at h;split at h
  all_goals first | (rename_i hh; cases hh; done)|skip
  all_goals try (rename_i hh _; cases hh; done)
  ·rename_i e;cases e;obtain⟨h1,h'⟩:=eC h;simp only[aq] at h1;obtain⟨⟨h1,h2⟩,h3⟩:=h1;have h1:=au h1;have h2:=cL (au h2);have h3:=cL (au h3);exact⟨(),by rw[h1,h2,h3]; rfl,h'⟩
  ·cases h
theorem yZ.un_some {G:List (Option fr)} (hG: ∀r,r<G.length-> ∃tr,qz G r=some (some tr)): ∀ {l:List Sh} {cs:List Cl} {κ:yZ.D l->Option ρ} {r:ρ},(∀c∈cs,c.ok G)->yZ.un l cs κ=some r-> ∃x,cs=yZ.mk G l x/\κ x=some r
 | [],[],κ,r,_,h=>⟨(),rfl,h⟩
 |s::l,c::cs,κ,r,hc,h=>by unfold yZ.un at h;obtain⟨x,h1,h⟩:=Sh.un_some hG (hc c aG) h;obtain⟨y,h2,h⟩:=yZ.un_some hG (fun z hz=>hc z (aF _ hz)) h;exact⟨(x,y),by rw[h1,h2]; rfl,h⟩
 | [],c::cs,κ,r,_,h=>by simp[yZ.un] at h
 |s::l,[],κ,r,_,h=>by simp[yZ.un] at h
theorem Cn: ∀ {cs:List Cl} {xs:List C},Ix cs=some xs->cs=xs.map .c
 | [],xs,h=>by simp only[Ix,af] at h; subst h; rfl
 |c::cs,xs,h=>by
  cases c with
  |c y=>
   simp only[Ix] at h;split at h
   ·rename_i r hr;simp only[af] at h;subst h;rw[Cn hr];rfl
   ·cases h
  | _=>simp[Ix] at h
theorem BR.un_some {G:List (Option fr)} (hG: ∀r,r<G.length-> ∃tr,qz G r=some (some tr)) {s:BR} {v:V} {κ:s.D->Option ρ} {r:ρ} (hv:v.ok G) (h:s.un v κ=some r): ∃x,v=s.mk G x/\κ x=some r:=by
 cases v with
 |tup l=>cases s<;>simp[BR.un] at h
 |v y=>
  cases s with
  |cl s=>cases y with
   |cl c=>obtain⟨x,h1,h⟩:=Sh.un_some hG hv h;exact⟨x,by rw[h1]; rfl,h⟩
   | _=>simp[BR.un] at h
  |agg l=>cases y with
   |agg cs=>obtain⟨x,h1,h⟩:=yZ.un_some hG hv h;exact⟨x,by rw[h1]; rfl,h⟩
   | _=>simp[BR.un] at h
  |st n=>cases y with
   |agg cs=>
    simp only[BR.un] at h;split at h
    ·rename_i xs hxs;split at h
     ·rename_i x hx;exact⟨x,by rw[Cn hxs]; simp only[BR.mk]; rw[n.unflat_some _ _ hx],h⟩
     ·cases h
    ·cases h
   | _=>simp[BR.un] at h
  |fn f l=>cases y with
   |fn g cs=>simp only[BR.un] at h;obtain⟨h0,h'⟩:=eC h;clear h;have h0:=au h0;subst h0;obtain⟨x,h1,h⟩:=yZ.un_some hG hv h';exact⟨x,by rw[h1]; rfl,h⟩
   | _=>simp[BR.un] at h
theorem Gm.un_some {G:List (Option fr)} (hG: ∀r,r<G.length-> ∃tr,qz G r=some (some tr)): ∀ {l:List (Nat×BR)} {m:List (Nat×V)} {κ:Gm.D l->Option ρ} {r:ρ},(∀x∈m,x.2.ok G)->Gm.un l m κ=some r-> ∃x,m=Gm.mk G l x/\κ x=some r
 | [],[],κ,r,_,h=>⟨(),rfl,h⟩
 |s::l,c::cs,κ,r,hc,h=>by unfold Gm.un at h;obtain⟨h0,h⟩:=eC h;have h0:=au h0;obtain⟨x,h1,h⟩:=BR.un_some hG (hc c aG) h;obtain⟨y,h2,h⟩:=Gm.un_some hG (fun z hz=>hc z (aF _ hz)) h;refine⟨(x,y),?_,h⟩;rw[h2];obtain⟨c1,c2⟩:=c;simp only at h0 h1;rw[h1,<-h0];rfl
 | [],c::cs,κ,r,_,h=>by simp[Gm.un] at h
 |s::l,[],κ,r,_,h=>by simp[Gm.un] at h
theorem Gn.un_some {G:List (Option fr)} (hG: ∀r,r<G.length-> ∃tr,qz G r=some (some tr)): ∀ {l:List (List Sh)} {m:List (List Cl)} {κ:Gn.D l->Option ρ} {r:ρ},(∀cs∈m,∀c∈cs,c.ok G)->Gn.un l m κ=some r-> ∃x,m=Gn.mk G l x/\κ x=some r
 | [],[],κ,r,_,h=>⟨(),rfl,h⟩
 |s::l,c::cs,κ,r,hc,h=>by unfold Gn.un at h;obtain⟨x,h1,h⟩:=yZ.un_some hG (hc c aG) h;obtain⟨y,h2,h⟩:=Gn.un_some hG (fun z hz=>hc z (aF _ hz)) h;exact⟨(x,y),by rw[h1,h2]; rfl,h⟩
 | [],c::cs,κ,r,_,h=>by simp[Gn.un] at h
 |s::l,[],κ,r,_,h=>by simp[Gn.un] at h
theorem vi.un_some: ∀ {l:List Ty} {m:List (Option fr)} {κ:vi.D l->Option ρ} {r:ρ},vi.un l m κ=some r-> ∃x,m=vi.mk l x/\κ x=some r
 | [],[],κ,r,h=>⟨(),rfl,h⟩
 |t::l,some tr::m,κ,r,h=>by
  unfold vi.un at h;split at h
  ·rename_i hh;split at h
   ·rename_i a ha;obtain⟨e,hl⟩:=iK ha;obtain⟨y,h2,h⟩:=vi.un_some h;obtain⟨t',l',hole⟩:=tr;simp only at hh e hl ha;subst hh e;simp only at hl;subst hl;exact⟨(l',y),by rw[h2]; rfl,h⟩
   ·cases h
  ·cases h
 | [],c::cs,κ,r,h=>by simp[vi.un] at h
 |t::l,[],κ,r,h=>by simp[vi.un] at h
 |t::l,none::m,κ,r,h=>by simp[vi.un] at h
theorem vi.mk_some: ∀ (l:List Ty) (d:vi.D l) (r:Nat),r< (vi.mk l d).length-> ∃tr,qz (vi.mk l d) r=some (some tr)
 | [],d,r,h=>by simp[vi.mk] at h
 |t::l,d,0,h=>⟨_,rfl⟩
 |t::l,d,r+1,h=>by obtain⟨tr,htr⟩:=vi.mk_some l d.2 r (by simpa [vi.mk] using h);exact⟨tr,htr⟩
theorem zp.un_some {L:zp} {S:TS} (hS:S.ok) {κ:L.D->Option ρ} {r:ρ} (h:L.un S κ=some r): ∃d,S=L.mk' d/\κ d=some r:=by
 unfold zp.un at h;obtain⟨g,h1,h⟩:=vi.un_some h;have hG: ∀r,r<S.gh.length-> ∃tr,qz S.gh r=some (some tr):=by rw[h1]; exact vi.mk_some _ _
 obtain⟨e,h2,h⟩:=Gm.un_some hG hS.env h;obtain⟨b,h3,h⟩:=Gn.un_some hG hS.bx h;obtain⟨h4,h⟩:=eC h;simp only[aq] at h4;have h5:=au h4.1;have h6:=au h4.2;refine⟨(e,b,g),?_,h⟩;obtain⟨env,bx,gh,fz,nt⟩:=S;simp only at h1 h2 h3 h5 h6;subst h5 h6;unfold zp.mk';simp only;rw[<-h1,<-h2,<-h3]
end
end
section
open Go
def NU (S:TS) (t:Ty):Cl:= .own ⟨S.gh.length,[]⟩ t.width 0 0 true
def NV (n j:Nat) (t:Ty) (S:TS):TS:=match qz S.bx n with
 |some cs=>(match qz cs j with
  |some .em=> { S with bx:=gq S.bx n (gq cs j (NU S t)),gh:=S.gh++ [some ⟨t,[],none⟩] }
  | _=>S)
 |none=>S
def NW (x:Nat) (t:Ty) (S:TS):TS:=match kj S.env x with
 | .v (.cl .em)=> { S with env:=(x, .v (.cl (NU S t)))::S.env,gh:=S.gh++ [some ⟨t,[],none⟩] }
 | _=>S
theorem TT: ∀ (l:List (Nat×Nat)),T.go .dd l= .dd
 | [] =>rfl
 | (_,_)::l=>TT l
theorem Ut (w:Nat) {l:List (Nat×Nat)} {s:Nat} {rs:List (List T)} (h:T.go (.sl w []) l= .sl s rs):rs= [] :=by
 cases l with
 |nil=>cases h; rfl
 |cons a l=>obtain⟨i,j⟩:=a;simp only[T.go,T.cell,List.getD_nil,TT] at h;cases h
theorem HE {S S':TS} (t:Ty) (henv: ∀u,(kj S'.env u).av=(kj S.env u).av\/((kj S.env u).av= .em/\(kj S'.env u).av= .own ⟨S.gh.length,[]⟩ t.width 0 0))
  (hbx: ∀k cs',S'.st.bx k=some cs'-> ∃cs,S.st.bx k=some cs/\cs'.length=cs.length/\ ∀ (j:Nat) (v:AV),cs'[j]? =some v->cs[j]? =some v\/(cs[j]? =some .em/\v= .own ⟨S.gh.length,[]⟩ t.width 0 0))
  (hgh:S'.gh=S.gh++ [some ⟨t,[],none⟩]) (hfz:S'.fz=S.fz) (hnt:S'.nt=S.nt) (hbl:S'.bx.length=S.bx.length):qN S.st S'.st:=by
 intro w0 W btI SI bt a w hl0;have hl:=hl0.widen (N:=S.gh.length+1) (de _);have inv:=hl.inv;have hng:S'.st.ng=S.gh.length+1:=by show S'.gh.length=_; rw[hgh]; simp
 have ghS: ∀r,S'.st.gh r=if r=S.gh.length then some (.sl t.width []) else S.st.gh r:=by intro r;show (gx S'.gh r).map fr.tree=_;rw[hgh,nJ];split<;>rfl
 have κ0: ∀l,(bt.widen S.st.ng (S.gh.length+1)).κ ⟨S.gh.length,l⟩=0:=by intro l;show (if S.gh.length<S.gh.length then _ else 0)=0;rw[if_neg (dB _)]
 have look: ∀p s rs,S'.st.look p= .sl s rs->(p.r=S.gh.length/\rs= [] /\(bt.widen S.st.ng (S.gh.length+1)).κ p=0)\/(p.r≠S.gh.length/\S.st.look p= .sl s rs):=by
  intro p s rs hp;unfold St.look at hp;rw[ghS] at hp;by_cases hr:p.r=S.gh.length
  ·rw[if_pos hr] at hp;left;refine⟨hr,Ut _ hp,?_⟩;obtain⟨pr,pl⟩:=p;simp only at hr;subst hr;exact κ0 pl
  ·rw[if_neg hr] at hp;exact .inr ⟨hr,hp⟩
 have own0: ∀ {u:Value},VR w (bt.widen S.st.ng (S.gh.length+1)) .em u->VR w (bt.widen S.st.ng (S.gh.length+1)) (.own ⟨S.gh.length,[]⟩ t.width 0 0) u:=by
  intro u hu;cases hu with
  |em ad=>exact .own (df _) (ay _) (aI _) (fun h=>absurd h (dB _))
 refine⟨bt.widen S.st.ng (S.gh.length+1),?_⟩
 refine⟨{ os:=inv.os,tape:=inv.tape,output:=inv.output,size:=inv.size,keep:=inv.keep
          nb:=by show _=S'.bx.length; rw[hbl]; exact inv.nb
          ng:=by rw[hng]; exact inv.ng
          bx:=fun n cells hn=> ?_
          gh:=fun r x hr=> ?_
          tr:=fun p sz rows hp=> ?_
          inj:=fun p q s rs s' rs' hp hq hk hk' he=> ?_
          bbinj:=fun n m cs cs' hn hm he=> ?_
          bbtr:=fun n cs p s rs hn hp hk=> ?_
          alt:=inv.alt
          atr:=fun p s rs hp hk=> ?_
          abb:=fun n cs hn=> ?_ },⟨?_,fun u=> ?_⟩,hl.defers,?_,?_,hl.keep,fun r hr hn=> ?_⟩
 ·obtain⟨cs,h1,h2,h3⟩:=hbx n cells hn;obtain⟨g1,g2,arr,e,g3,g4,g5⟩:=inv.bx n cs h1;refine⟨by show n<S'.bx.length; rw[hbl]; exact g1,g2,arr,e,g3,by rw[h2]; exact g4,fun j v hj=> ?_⟩;rcases h3 j v hj with h4| ⟨h4,rfl⟩
  ·exact g5 j v h4
  ·obtain⟨c,k1,k2,k3⟩:=g5 j .em h4;exact⟨c,k1,own0 k2,k3⟩
 ·rw[hng];rw[ghS] at hr;split at hr
  ·omega
  ·have:=inv.gh r x hr;exact this
 ·rcases look p sz rows hp with ⟨h1,rfl,h3⟩| ⟨h1,h2⟩
  ·exact⟨aI _,fun hk=>by omega⟩
  ·exact inv.tr p sz rows h2
 ·rcases look p s rs hp with ⟨h1,_,h3⟩| ⟨h1,h2⟩
  ·omega
  ·rcases look q s' rs' hq with ⟨g1,_,g3⟩| ⟨g1,g2⟩
   ·omega
   ·exact inv.inj _ _ _ _ _ _ h2 g2 hk hk' he
 ·obtain⟨c,h1,_,_⟩:=hbx n cs hn;obtain⟨c',g1,_,_⟩:=hbx m cs' hm;exact inv.bbinj _ _ _ _ h1 g1 he
 ·obtain⟨c,h1,_,_⟩:=hbx n cs hn;rcases look p s rs hp with ⟨_,_,h3⟩| ⟨_,h2⟩
  ·omega
  ·exact inv.bbtr _ _ _ _ _ h1 h2 hk
 ·rcases look p s rs hp with ⟨_,_,h3⟩| ⟨_,h2⟩
  ·omega
  ·exact inv.atr _ _ _ h2 hk
 ·obtain⟨c,h1,_,_⟩:=hbx n cs hn;exact inv.abb _ _ h1
 ·have:=hl.er.1;show _=S'.nt;rw[hnt];exact this
 ·have h1:=hl.er.2 u;show VR w _ (kj S'.env u).av _;rcases henv u with h2| ⟨h2,h3⟩
  ·rw[h2]; exact h1
  ·rw[h3];have h1':VR w (bt.widen S.st.ng (S.gh.length+1)) (kj S.env u).av (a.tmps.getD u undef):=h1;rw[h2] at h1';exact own0 h1'
 ·show S'.fz=_;rw[hfz];exact hl.fz
 ·show S'.fz<=S'.gh.length;have:=hl.fzng;have e:S.fz<=S.gh.length+1:=this;have e2:S.st.fz<=S.st.ng:=hl0.fzng;have e3:S.fz<=S.gh.length:=e2;rw[hfz,hgh];simp;omega
 ·refine hl.gone r hr ?_;rw[ghS] at hn;split at hn
  ·cases hn
  ·exact hn
theorem KR (S:TS) (t:Ty): (NU S t).ok (S.gh++ [some ⟨t,[],none⟩]):=by refine⟨by simp,fun _=>⟨rfl,rfl,fun tr htr=> ?_⟩⟩;rw[nJ,if_pos rfl] at htr;cases htr;rfl
theorem QN {S:TS} (hS:S.ok) (x:Nat) (t:Ty):qN S.st (NW x t S).st/\(NW x t S).ok:=by
 unfold NW;split
 ·rename_i hx;refine⟨HE t (fun u=> ?_) (fun k cs' h=>⟨cs',h,rfl,fun j v hv=> .inl hv⟩) rfl rfl rfl rfl,⟨fun y hy=> ?_,fun cs hcs c hc=>Cl.ok_mono (jV.app _ _) (hS.bx cs hcs c hc)⟩⟩
  ·simp only[kj];cases hb:Nat.beq x u with
   |true=>have :x=u:=au hb;subst this;right;rw[hx];exact⟨rfl,rfl⟩
   |false=>exact .inl rfl
  ·rcases aW.1 hy with rfl|hy
   ·exact KR S t
   ·exact V.ok_mono (jV.app _ _) (hS.env y hy)
 ·exact⟨qN.refl,hS⟩
theorem QO {S:TS} (hS:S.ok) (n j:Nat) (t:Ty):qN S.st (NV n j t S).st/\(NV n j t S).ok:=by
 unfold NV;split
 ·rename_i cs hcs;split
  ·rename_i hj;rw[gR] at hcs hj;have hn:=(ai.1 hcs).1;refine⟨HE t (fun u=> .inl rfl) (fun k cs' h=> ?_) rfl rfl rfl (by simp[jb]),⟨fun y hy=>V.ok_mono (jV.app _ _) (hS.env y hy),fun cs' hcs' c hc=> ?_⟩⟩
   ·have h': (qz (gq S.bx n (gq cs j (NU S t))) k).map (fun cs=>cs.map Cl.av)=some cs':=h;rw[gR,jb,jb,bP] at h';by_cases hk:n=k
    ·subst hk;rw[if_pos rfl,if_pos hn] at h';simp only[aB,af] at h';subst h';refine⟨cs.map Cl.av,by show (qz S.bx n).map _=_; rw[gR,hcs]; rfl,by simp,fun i v hv=> ?_⟩;rw[ar,bP] at hv;by_cases hi:j=i
     ·subst hi;rw[if_pos rfl,if_pos (ai.1 hj).1] at hv;right;rw[ar,hj];simp only[aB,af] at hv;exact⟨rfl,hv.symm⟩
     ·rw[if_neg hi] at hv;left;rw[ar];exact hv
    ·rw[if_neg hk] at h';exact⟨cs',by show (qz S.bx k).map _=_; rw[gR]; exact h',rfl,fun i v hv=> .inl hv⟩
   ·simp only[jb] at hcs';rcases cx hcs' with h1|h1
    ·exact Cl.ok_mono (jV.app _ _) (hS.bx _ h1 c hc)
    ·subst h1;rcases cx hc with h2|h2
     ·exact Cl.ok_mono (jV.app _ _) (hS.bx _ (ao hcs) c h2)
     ·subst h2;exact KR S t
  ·exact⟨qN.refl,hS⟩
 ·exact⟨qN.refl,hS⟩
inductive My where
 |t (x:Nat) (t:Ty)
 |b (n j:Nat) (t:Ty)
def za:List My->TS->TS
 | [],S=>S
 | .t x t::l,S=>za l (NW x t S)
 | .b n j t::l,S=>za l (NV n j t S)
theorem AE: ∀ (l:List My) {S:TS},S.ok->qN S.st (za l S).st/\(za l S).ok
 | [],S,hS=>⟨qN.refl,hS⟩
 | .t x t::l,S,hS=>by obtain⟨h1,h2⟩:=QN hS x t;obtain⟨h3,h4⟩:=AE l h2;exact⟨h1.trans h3,h4⟩
 | .b n j t::l,S,hS=>by obtain⟨h1,h2⟩:=QO hS n j t;obtain⟨h3,h4⟩:=AE l h2;exact⟨h1.trans h3,h4⟩
section
variable {P:Program} {Θ:qG} {Y:BQ} {Λ:uO}
def KS {ρ:Type} (keepN keepX:List Nat) (κ:X->TS->Option ρ) (x:X) (S:TS):Option ρ:=match x with
 | .nor=>Ck keepN S (κ .nor)
 |x=>Ck keepX S (κ x)
def QP {σ ε:Type} (G:σ->Option ε) (μ:σ->Nat) (s:σ) (e:ε):Option (σ⊕ε)->Prop
 |some (.inl s')=>μ s'<μ s/\G s'=some e
 |some (.inr e')=>e'=e
 |none=>False
theorem SX (hΘ:iq P Θ) (hY:ou P Y) (hm:P.follows .mixedOrders=true) {c:Code} (hc:mA P c=true) (hL:ld P Λ (gY c)) {σ ε:Type} {H:σ->TS} {E:ε->X×TS} {B:σ->Option (σ⊕ε)} {keepN keepX:List Nat}
  (hH: ∀s,(H s).ok) (hstep: ∀s,Bd Θ Y Λ c (H s) (KS keepN keepX fun x S=>some (x,S))=(B s).bind (Sum.elim (fun s'=>some (.nor,H s')) fun e=>some (E e)))
  (hE: ∀e,(E e).1≠ .nor) {G:σ->Option ε} {μ:σ->Nat} (hG: ∀s e,G s=some e->QP G μ s e (B s))
  {s:σ} {e:ε} (hs:G s=some e):sq P (.loop c) (H s).st (fun x S'=>x=(E e).1/\S'=(E e).2.st):=by
 refine sq.loop (fun n X=> ∃s,X=(H s).st/\G s=some e/\μ s=n) (fun n X hX=> ?_) (n:=μ s) ⟨s,rfl,hs,rfl⟩;obtain⟨s,rfl,hs,rfl⟩:=hX;have hg:=hG s e hs;have hst:=hstep s;cases hB:B s with
 |none=>rw[hB] at hg; exact hg.elim
 |some l=>
  rw[hB] at hg hst;cases l with
  |inl s'=>
   simp only[ae,b7] at hst;refine (D5 hΘ hY hm c _ _ _ hc hL (hH s) hst).mono (fun x S' hx=> ?_);obtain⟨S1,rfl,h1,h2⟩:=hx
   have gE: ∃S2:TS,qN S1.st S2.st/\x= .nor/\S2=H s':=by
    unfold KS at h2;split at h2
    ·obtain⟨S2,k1,_,k2⟩:=vK h1 h2;simp only[af,an] at k2;exact⟨S2,k1,rfl,k2.2⟩
    ·obtain⟨S2,k1,_,k2⟩:=vK h1 h2;simp only[af,an] at k2;exact⟨S2,k1,k2.1,k2.2⟩
   obtain⟨S2,k1,rfl,rfl⟩:=gE;exact⟨_,k1,μ s',hg.1,s',rfl,hg.2,rfl⟩
  |inr e'=>
   simp only[ae,cn] at hst;have hg:e'=e:=hg;subst hg;refine (D5 hΘ hY hm c _ _ _ hc hL (hH s) hst).mono (fun x S' hx=> ?_);obtain⟨S1,rfl,h1,h2⟩:=hx
   have gE: ∃S2:TS,qN S1.st S2.st/\(x,S2)=E e':=by
    unfold KS at h2;split at h2
    ·obtain⟨S2,k1,_,k2⟩:=vK h1 h2;exact⟨S2,k1,Option.some.inj k2⟩
    ·obtain⟨S2,k1,_,k2⟩:=vK h1 h2;exact⟨S2,k1,Option.some.inj k2⟩
   obtain⟨S2,k1,k2⟩:=gE;refine⟨S2.st,k1,?_⟩;have hx:x=(E e').1:=congrArg Prod.fst k2;have hS2:S2=(E e').2:=congrArg Prod.snd k2;have hne:=hE e';rw[<-hx] at hne;cases x with
   |nor=>exact absurd rfl hne
   |ret=>exact⟨hx,by rw[hS2]⟩
   |ext i=>exact⟨hx,by rw[hS2]⟩
def QQ (grow:List My) (keep:List Nat) (L:zp) {ε:Type} (E:ε->X×TS) (G:L.D->Option ε):TS->(ρ:Type)->(X->TS->Option ρ)->Option ρ:=
 fun S _ κ=>Ck keep (za grow S) fun S1=>L.un S1 fun s=>(G s).bind fun e=>κ (E e).1 (E e).2
theorem QR {c:Code} {grow:List My} {keep:List Nat} {L:zp} {ε:Type} {E:ε->X×TS} {G:L.D->Option ε} (hE: ∀e,(E e).2.ok)
  (h: ∀s e,G s=some e->sq P (.loop c) (L.mk' s).st (fun x S'=>x=(E e).1/\S'=(E e).2.st)) {S:TS} {ρ:Type} {κ:X->TS->Option ρ} {r:ρ} (hS:S.ok) (hk:QQ grow keep L E G S ρ κ=some r):
  sq P (.loop c) S.st (fun x S'=> ∃S1:TS,S'=S1.st/\S1.ok/\κ x S1=some r):=by
 unfold QQ at hk;obtain⟨h1,h2⟩:=AE grow hS;obtain⟨S1,h3,h4,hk⟩:=vK h2 hk;obtain⟨s,rfl,hk2⟩:=zp.un_some h4 hk;obtain⟨e,h5,hk3⟩:=aj.1 hk2;refine sq.weak (h1.trans h3) ((h s e h5).mono (fun x S' hx=> ?_));obtain⟨rfl,rfl⟩:=hx;exact⟨_,qN.refl,_,rfl,hE e,hk3⟩
end
end
section
open Go
abbrev vj.D:List Ty->Type
 | [] =>Unit
 |t::l=>t.D×vj.D l
def uR: (l:List Ty)->vj.D l->List ((t:Ty)×t.D)
 | [],_=> []
 |t::l,x=>⟨t,x.1⟩::uR l x.2
def Bm (P:Program) (f:FuncId) (e:NB):Prop:= ∀args ρ κ r,e args ρ κ=some r-> ∃res out,C2 P f args res out/\res.ok (out.map some)/\κ res out=some r
theorem SY (P:Program):ou P (Iy []):=fun _ _ _ _ _ h=>by cases h
theorem QS {P:Program} {f:FuncId} {e:NB} {l:List (Nat×NB)} (h:Bm P f e) (hl:ou P (Iy l)):ou P (Iy ((f,e)::l)):=by
 intro g args ρ κ r hr;have hr: (bif Nat.beq f g then e args ρ κ else Un l g args ρ κ)=some r:=hr;cases hb:Nat.beq f g with
 |true=>rw[hb] at hr;have:=au hb;subst this;exact h args ρ κ r hr
 |false=>rw[hb] at hr;exact hl g args ρ κ r hr
def Mz (as bs:List AV):Prop:=as.length=bs.length/\ ∀ (k:Nat) (a b:AV),as[k]? =some a->bs[k]? =some b->a=b\/(a= .em/\ ∃s,b= .ro s [])
theorem Mz.refl (as:List AV):Mz as as:=⟨rfl,fun k a b h1 h2=>by rw[h1] at h2; cases h2; exact .inl rfl⟩
theorem Mz.cons {a b:AV} {as bs:List AV} (h:a=b\/(a= .em/\ ∃s,b= .ro s [])) (hn:Mz as bs):Mz (a::as) (b::bs):=
 ⟨by simp[hn.1],fun k x y h1 h2=>by
  cases k with
  |zero=>simp only[aK,af] at h1 h2; subst h1 h2; exact h
  |succ k=>exact hn.2 k x y (by simpa using h1) (by simpa using h2)⟩
theorem Mz.VR {as bs:List AV} (hn:Mz as bs) {w:World} {bt:Bt} {vals:List Value} (h: ∀ (k:Nat) (v:AV) (u:Value),as[k]? =some v->vals[k]? =some u->VR w bt v u) (k:Nat) (v:AV) (u:Value) (hv:bs[k]? =some v) (hu:vals[k]? =some u):VR w bt v u:=by
 have hk:k<as.length:=by rw[hn.1]; exact (ai.1 hv).1
 have ha:=ah hk;have hx:=h k _ u ha hu;rcases hn.2 k _ v ha hv with e| ⟨e,s,rfl⟩
 ·rw[<-e]; exact hx
 ·rw[e] at hx;cases hx with
  |em b=>exact .ro (.em _ _ _)
theorem va.norm {P:Program} {f:FuncId} {as bs:List AV} {gs:List T} {res:AV} {out:List T} (hn:Mz as bs) (h:va P f bs gs res out):va P f as gs res out:=
 fun w W bt0 vals hI hl hv=>h w W bt0 vals hI (hl.trans hn.1) (hn.VR hv)
theorem oz.norm {P:Program} {f:FuncId} {as bs:List AV} {gs:List T} {m:Nat} {res:AV} {out:List T} (hn:Mz as bs) (h:oz P f bs gs m res out):oz P f as gs m res out:=
 fun w W bt0 vals hI hl hv=>h w W bt0 vals hI (hl.trans hn.1) (hn.VR hv)
theorem un_some {ρ:Type} {t:Ty} {a:V1} {κ:t.D->Option ρ} {r:ρ} (h:un t a κ=some r): ∃x,a=Kv t x/\κ x=some r:=by
 unfold un at h;split at h
 ·rename_i cs;obtain⟨h1,h⟩:=eC h;split at h
  ·rename_i xs hxs;split at h
   ·rename_i x hx;refine⟨x,?_,h⟩;unfold Kv;rw[h1,t.unflat_some _ _ hx,Cn hxs];rfl
   ·cases h
  ·cases h
 ·rename_i y;cases hag:t.ag with
  |true=>rw[hag] at h; cases h
  |false=>
   rw[hag] at h;simp only[cond_false] at h;split at h
   ·rename_i x hx;refine⟨x,?_,h⟩;unfold Kv;rw[hag,t.unflat_some _ _ hx];rfl
   ·cases h
 ·cases h
theorem Uu (t:Ty) (x:t.D): (Kv t x).ok [] :=by
 unfold Kv;cases t.ag with
 |true=>intro c hc;obtain⟨y,_,rfl⟩:=aM.1 hc;trivial
 |false=>
  simp only[cond_false];split
  ·rename_i c hc;have :c∈(t.flat x).map Cl.c:=by rw[hc]; exact az.2 rfl
   obtain⟨y,_,rfl⟩:=aM.1 this;trivial
  ·trivial
theorem IJ (BS suf:List fr): ∀ (cs:List C) (mid:List fr),∀c∈Av cs (BS.length+mid.length),c.ok ((BS++mid++vh cs++suf).map some)
 | [],mid,c,h=>by cases h
 | .sc v::cs,mid,c,h=>by
   rcases aW.1 h with rfl|h
   ·trivial
   ·exact IJ BS suf cs mid c h
 | .ls t l::cs,mid,c,h=>by
   rcases aW.1 h with rfl|h
   ·refine⟨by simp[vh],fun _=>⟨rfl,rfl,fun tr htr=> ?_⟩⟩
    have :gx ((BS++mid++vh (.ls t l::cs)++suf).map some) (BS.length+mid.length)=some ⟨t,l,none⟩:=by unfold gx;rw[gR,ar,aR,aN (by simp)];simp[vh]
    have htr':gx ((BS++mid++vh (.ls t l::cs)++suf).map some) (BS.length+mid.length)=some tr:=htr;rw[this] at htr';cases htr';rfl
   ·have:=IJ BS suf cs (mid++ [⟨t,l,none⟩]) c (by rw[aQ,<-dJ]; exact h);simp only[vh];simpa using this
theorem SZ (t:Ty) (x:t.D) (BS suf:List fr): (Sj t x BS.length).ok ((BS++vh (t.flat x)++suf).map some):=by
 have gE:=IJ BS suf (t.flat x) [];simp only[ck,cy,bH] at gE;unfold Sj;cases t.ag with
 |true=>exact gE
 |false=>
  simp only[cond_false];split
  ·rename_i c hc;exact gE c (by rw[hc]; exact az.2 rfl)
  ·trivial
theorem Fd: ∀ (l:List ((t:Ty)×t.D)) (BS:List fr),∀v∈C1 BS.length l,v.ok ((BS++Be l).map some)
 | [],BS,v,h=>by cases h
 | ⟨t,x⟩::l,BS,v,h=>by
   rcases aW.1 h with rfl|h
   ·have:=SZ t x BS (Be l);simpa [Be] using this
   ·have:=Fd l (BS++vh (t.flat x)) v (by rw[aQ]; exact h);simpa [Be] using this
theorem MA (l:List ((t:Ty)×t.D)): (Ca (C1 0 l)).ok ((Be l).map some):=by
 have h:=Fd l [];simp only[ck,bo] at h
 match C1 0 l,h with
 | [],_=>exact fun x hx=>by cases hx
 | [v],h=>exact h v aG
 |v::u::vs,h=>exact h
end
section
open Go
def Sh.fit (n:Nat):Sh->Bool| .own r _=>Nat.blt r n| .sub r _=>Nat.blt r n| _=>true
def BR.fit (n:Nat):BR->Bool| .cl s=>s.fit n| .agg l=>l.all (Sh.fit n)| .st _=>true| .fn _ l=>l.all (Sh.fit n)
def zp.fit (L:zp):Bool:=L.env.all (fun x=>x.2.fit L.gh.length)&&L.bx.all (fun l=>l.all (Sh.fit L.gh.length))
theorem vi.mk_length: ∀ (l:List Ty) (d:vi.D l),(vi.mk l d).length=l.length
 | [],_=>rfl
 |t::l,d=>by simp[vi.mk,vi.mk_length l d.2]
theorem Sh.mk_ok {G:List (Option fr)} {s:Sh} (h:s.fit G.length=true) (x:s.D): (s.mk G x).ok G:=by
 cases s with
 |own r t=>
  refine⟨aA h,fun _=>⟨rfl,rfl,fun tr htr=> ?_⟩⟩;unfold gx at htr;unfold Us;have htr': (qz G r).getD none=some tr:=htr;cases hn:qz G r with
  |none=>rw[hn] at htr'; cases htr'
  |some y=>rw[hn] at htr'; simp only[aP] at htr'; subst htr'; rfl
 |sub r t=>exact⟨aA h,fun e=>by cases e⟩
 | _=>trivial
theorem yZ.mk_ok {G:List (Option fr)}: ∀ {l:List Sh},l.all (Sh.fit G.length)=true-> ∀ (x:yZ.D l),∀c∈yZ.mk G l x,c.ok G
 | [],_,x,c,hc=>by cases hc
 |s::l,h,x,c,hc=>by
  simp only[c8,aq] at h;rcases aW.1 hc with rfl|hc
  ·exact Sh.mk_ok h.1 x.1
  ·exact yZ.mk_ok h.2 x.2 c hc
theorem BR.mk_ok {G:List (Option fr)} {v:BR} (h:v.fit G.length=true) (x:v.D): (v.mk G x).ok G:=by
 cases v with
 |cl s=>exact Sh.mk_ok h x
 |agg l=>exact yZ.mk_ok h x
 |st n=>intro c hc;obtain⟨y,_,rfl⟩:=aM.1 hc;trivial
 |fn f l=>exact yZ.mk_ok h x
theorem zp.mk'_ok {L:zp} (h:L.fit=true) (d:L.D): (L.mk' d).ok:=by
 unfold zp.fit at h;simp only[aq] at h;have hlen: (vi.mk L.gh d.2.2).length=L.gh.length:=vi.mk_length _ _;rw[<-hlen] at h
 have env: ∀ {l:List (Nat×BR)},l.all (fun x=>x.2.fit (vi.mk L.gh d.2.2).length)=true-> ∀ (e:Gm.D l),∀x∈Gm.mk (vi.mk L.gh d.2.2) l e,x.2.ok (vi.mk L.gh d.2.2):=by
  intro l
  induction l with
  |nil=>intro _ e x hx; cases hx
  |cons y l ih=>
   intro h e x hx;simp only[c8,aq] at h;rcases aW.1 hx with rfl|hx
   ·exact BR.mk_ok h.1 e.1
   ·exact ih h.2 e.2 x hx
 have bxs: ∀ {l:List (List Sh)},l.all (fun l=>l.all (Sh.fit (vi.mk L.gh d.2.2).length))=true-> ∀ (e:Gn.D l),∀cs∈Gn.mk (vi.mk L.gh d.2.2) l e,∀c∈cs,c.ok (vi.mk L.gh d.2.2):=by
  intro l
  induction l with
  |nil=>intro _ e x hx; cases hx
  |cons y l ih=>
   intro h e x hx;simp only[c8,aq] at h;rcases aW.1 hx with rfl|hx
   ·exact yZ.mk_ok h.1 e.1
   ·exact ih h.2 e.2 x hx
 exact⟨env h.1 d.1,bxs h.2 d.2.1⟩
abbrev Bn.D:List (X×zp)->Type
 | [] =>Empty
 | [x] =>x.2.D
 |x::y::l=>x.2.D⊕Bn.D (y::l)
def Bn.k {R:Type}: (l:List (X×zp))->Bn.D l->(X->TS->R)->R
 | [],e,_=>e.elim
 | [x],d,κ=>κ x.1 (x.2.mk' d)
 |x::y::l,e,κ=>Sum.elim (fun d=>κ x.1 (x.2.mk' d)) (fun e=>Bn.k (y::l) e κ) e
def Bn.e (l:List (X×zp)) (d:Bn.D l):X×TS:=Bn.k l d Prod.mk
theorem Bn.k_eq {R:Type}: ∀ (l:List (X×zp)) (d:Bn.D l) (κ:X->TS->R),Bn.k l d κ=κ (Bn.e l d).1 (Bn.e l d).2
 | [],e,_=>e.elim
 | [_],_,_=>rfl
 | _::_::_, .inl _,_=>rfl
 | _::y::l, .inr e,κ=>Bn.k_eq (y::l) e κ
def Vm (x:X×zp):Bool:=(match x.1 with | .nor=>false| _=>true)&&x.2.fit
theorem Bn.ok: ∀ (l:List (X×zp)) (d:Bn.D l),l.all Vm=true->(Bn.e l d).1≠ .nor/\(Bn.e l d).2.ok
 | [],e,_=>e.elim
 | [x],d,h=>by simp only[c8,aq,Vm] at h;refine⟨fun e=> ?_,zp.mk'_ok h.1.2 d⟩;have e:x.1= .nor:=e;rw[e] at h;cases h.1.1
 |x::_::_, .inl d,h=>by simp only[c8,aq,Vm] at h;refine⟨fun e=> ?_,zp.mk'_ok h.1.2 d⟩;have e:x.1= .nor:=e;rw[e] at h;cases h.1.1
 | _::y::l, .inr e,h=>Bn.ok (y::l) e (by simp only[c8,aq] at h ⊢;exact h.2)
def QT (grow:List My) (keep:List Nat) (L:zp) (exs:List (X×zp)) (G:L.D->Option (Bn.D exs)):TS->(ρ:Type)->(X->TS->Option ρ)->Option ρ:=
 fun S _ κ=>Ck keep (za grow S) fun S1=>L.un S1 fun s=>(G s).bind fun e=>Bn.k exs e κ
abbrev NX:=TS->(ρ:Type)->(X->TS->Option ρ)->Option ρ
def Gp:List (Nat×NX)->uO
 | [],_,_,_,_=>none
 | (q,e)::l,n,S,ρ,κ=>bif Nat.beq q n then e S ρ κ else Gp l n S ρ κ
section
variable {P:Program} {Θ:qG} {Y:BQ} {Λ:uO}
def QU (P:Program) (c:Code) (e:NX):Prop:= ∀ (S:TS) (ρ:Type) (κ:X->TS->Option ρ) (r:ρ),S.ok->e S ρ κ=some r->sq P (.loop c) S.st (fun x S'=> ∃S1:TS,S'=S1.st/\S1.ok/\κ x S1=some r)
theorem QV (hΘ:iq P Θ) (hY:ou P Y) (hm:P.follows .mixedOrders=true) {c:Code} (hc:mA P c=true) (hL:ld P Λ (gY c)) (grow:List My) (keep keepX:List Nat) (L:zp) (exs:List (X×zp)) (hf: (L.fit&&exs.all Vm)=true)
  (B:L.D->Option (L.D⊕Bn.D exs)) (hB: ∀s,Bd Θ Y Λ c (L.mk' s) (KS keep keepX fun x S=>some (x,S))=(B s).bind (Sum.elim (fun s'=>some (.nor,L.mk' s')) fun e=>some (Bn.e exs e)))
  (G:L.D->Option (Bn.D exs)) (μ:L.D->Nat) (hG: ∀s e,G s=some e->QP G μ s e (B s)):QU P c (QT grow keep L exs G):=by
 simp only[aq] at hf;intro S ρ κ r hS hk;refine QR (E:=Bn.e exs) (fun e=>(Bn.ok exs e hf.2).2) (fun s e hs=>SX hΘ hY hm hc hL (fun s=>zp.mk'_ok hf.1 s) hB (fun e=>(Bn.ok exs e hf.2).1) hG hs) hS ?_ (grow:=grow) (keep:=keep);rw[<-hk];unfold QQ QT;simp only[Bn.k_eq]
end
end
section
open Go
def S4 (P:Program) (e:TypeId->List Value->Bool):List Field->Nat->List Value->Bool
 | [],_,[] =>true
 | [],_,_::_=>false
 |f::fs,off,zs=>f.name != "_" &&Nat.beq f.offset off&&Nat.blt 0 (P.cellsOf f.type)&&Nat.ble (P.cellsOf f.type) zs.length&&(P.info? f.type).isSome&&e f.type (zs.take (P.cellsOf f.type))&&S4 P e fs (off+P.cellsOf f.type) (zs.drop (P.cellsOf f.type))
def KT (P:Program):Nat->TypeId->List Value->Bool
 | 0,_,_=>false
 |n+1,t,zs=>match P.underlying t with
  |some .bool=>(match zs with | [.bool _] =>true| _=>false)
  |some (.int _)=>(match zs with | [.int _ _] =>true| _=>false)
  |some (.struct fs)=> !P.stoodInHeld t&&S4 P (KT P n) fs.toList 0 zs
  | _=>false
def Gq (P:Program) (t:TypeId) (xs:List Value):Value:=match P.underlying t with
 |some (.struct _)=> .agg xs.toArray
 | _=>xs.headD (.bool false)
def ny:List Value->List Value->Bool
 | [],[] =>true
 | .int k _::zs, .int k' _::cs=>bif decide (k=k') then ny zs cs else false
 | .bool _::zs, .bool _::cs=>ny zs cs
 | _,_=>false
def nK:List Value->List Value->Option Bool
 | [],[] =>some true
 |a::l,b::m=>match Kp a b,nK l m with
  |some x,some y=>some (x&&y)
  | _,_=>none
 | _,_=>none
theorem Fe: ∀ {zs xs:List Value},nB zs (xs.map fun x=> .c (.sc x))=true->ny zs xs=true:=by
 intro zs
 induction zs with
 |nil=>intro xs h; cases xs with
  |nil=>rfl
  |cons=>simp[nB] at h
 |cons z zs ih=>
  intro xs h;cases xs with
  |nil=>cases z<;>simp[nB] at h
  |cons x xs=>
   cases z<;>cases x<;>simp only[aZ,nB,ny,cond_eq_ite,bg] at h ⊢
   ·exact ih h
   ·split at h
    ·rename_i hk;rw[if_pos hk];exact ih h
    ·cases h
theorem OU: ∀ {xs ys:List Value},yQ (xs.map fun x=> .c (.sc x)) (ys.map fun x=> .c (.sc x))=nK xs ys:=by
 intro xs
 induction xs with
 |nil=>intro ys; cases ys<;>rfl
 |cons x xs ih=>
  intro ys;cases ys with
  |nil=>rfl
  |cons y ys=>simp only[aZ,yQ,nK,ih];cases Kp x y<;>cases nK xs ys<;>rfl
theorem sR: ∀ {zs xs:List Value},ny zs xs=true->xs.length=zs.length:=by
 intro zs
 induction zs with
 |nil=>intro xs h; cases xs with
  |nil=>rfl
  |cons=>simp[ny] at h
 |cons z zs ih=>
  intro xs h;cases xs with
  |nil=>cases z<;>simp[ny] at h
  |cons x xs=>
   cases z<;>cases x<;>simp only[ny,cond_eq_ite,bg] at h
   ·simp[ih h]
   ·split at h
    ·simp[ih h]
    ·cases h
theorem wx: ∀ {zs xs:List Value} (n:Nat),ny zs xs=true->ny (zs.take n) (xs.take n)=true/\ny (zs.drop n) (xs.drop n)=true:=by
 intro zs
 induction zs with
 |nil=>intro xs n h; cases xs with
  |nil=>simp[ny]
  |cons=>simp[ny] at h
 |cons z zs ih=>
  intro xs n h;cases xs with
  |nil=>cases z<;>simp[ny] at h
  |cons x xs=>
   cases n with
   |zero=>exact⟨rfl,h⟩
   |succ n=>
    cases z<;>cases x<;>simp only[ny,cond_eq_ite,bg] at h
    ·exact ih n h
    ·split at h
     ·rename_i hk;refine⟨?_,(ih n h).2⟩;simp only[List.take_succ_cons,ny,cond_eq_ite];rw[if_pos (by simpa using hk)];exact (ih n h).1
     ·cases h
theorem IK: ∀ {xs ys:List Value} (n:Nat) {r:Bool},nK xs ys=some r-> ∃a b,nK (xs.take n) (ys.take n)=some a/\nK (xs.drop n) (ys.drop n)=some b/\r=(a&&b):=by
 intro xs
 induction xs with
 |nil=>intro ys n r h; cases ys with
  |nil=>cases h; exact⟨true,true,by simp[nK],by simp[nK],rfl⟩
  |cons=>simp[nK] at h
 |cons x xs ih=>
  intro ys n r h;cases ys with
  |nil=>simp[nK] at h
  |cons y ys=>
   cases n with
   |zero=>exact⟨true,r,rfl,h,rfl⟩
   |succ n=>
    simp only[nK] at h;split at h
    ·rename_i p q hp hq;cases h;obtain⟨a,b,h1,h2,rfl⟩:=ih n hq;exact⟨p&&a,b,by simp[nK,hp,h1],h2,by cases p<;>rfl⟩
    ·cases h
theorem IL {P:Program} {t:TypeId} {i:TypeInfo} (h:P.info? t=some i):eU P (typeInfo t)=some i:=by simp only[typeInfo,eK,program,eU,ae,h];rfl
theorem KU {P:Program} {t:TypeId} {i:TypeInfo} (hi:P.info? t=some i) {d:TypeDesc} (hd:P.underlying t=some d) (hs: ∀n e,d≠ .array n e) {xs:List Value} {off:Nat} {c:Value} (hc:xs[off]? =some c):
  eU P (part t xs.toArray off)=some (Gq P t ((xs.drop off).take (P.cellsOf t)))\/P.cellsOf t=0:=by
 by_cases h0:P.cellsOf t=0
 ·exact .inr h0
 refine .inl ?_;have hcell:P.cellsOf t=i.size:=by simp[Program.cellsOf,hi]
 cases hst: (match d with | .struct _=>true| _=>false) with
 |true=>
  have hag:eU P (isAgg t)=some true:=by simp only[isAgg,eK,gy hd,ae];cases d<;>simp at hst;rfl
  simp only[part,sizeOf,eK,hag,ae,if_true,IL hi,eR,Gq,hd];cases d<;>simp at hst;simp[hcell,Nat.add_sub_cancel_left]
 |false=>
  have hag:eU P (isAgg t)=some false:=by
   simp only[isAgg,eK,gy hd,ae];cases d<;>simp at hst
   all_goals first |rfl|exact absurd rfl (hs _ _)
  have hv:Gq P t ((xs.drop off).take (P.cellsOf t))=c:=by
   have : ((xs.drop off).take (P.cellsOf t)).headD (.bool false)=c:=by
    obtain⟨n,hn⟩: ∃n,P.cellsOf t=n+1:=⟨P.cellsOf t-1,by omega⟩
    have h1:off<xs.length:=(ai.1 hc).1;rw[hn,bS h1,List.take_succ_cons];exact (ai.1 hc).2
   unfold Gq;rw[hd];cases d<;>first |exact this|simp at hst
  rw[hv];simp only[part,eK,hag,ae,bg,if_false];have :xs.toArray[off]? =some c:=by simpa using hc
  rw[this];rfl
theorem NY (P:Program): ∀ (n:Nat) {t:TypeId} {zs xs ys:List Value} {r:Bool} (d:Nat),KT P n t zs=true->ny zs xs=true->ny zs ys=true->nK xs ys=some r->eU P (Op.equalIn (n+d) t (Gq P t xs) (Gq P t ys))=some r
 | 0,t,zs,xs,ys,r,d,h,_,_,_=>by cases h
 |n+1,t,zs,xs,ys,r,d,h,hx,hy,he=>by
  have hn:n+1+d=(n+d)+1:=by omega
  rw[hn];unfold KT at h;cases hu:P.underlying t with
  |none=>rw[hu] at h; cases h
  |some D=>
   rw[hu] at h;cases D<;>simp only[bg] at h
   case bool=>
    split at h
    case h_2=>cases h
    obtain⟨x,rfl⟩: ∃x,xs= [.bool x] :=by
     match xs,hx with
     | [.bool x],_=>exact⟨x,rfl⟩
    obtain⟨y,rfl⟩: ∃y,ys= [.bool y] :=by
     match ys,hy with
     | [.bool y],_=>exact⟨y,rfl⟩
    simp only[nK,Kp,dC,af] at he;subst he;simp only[Gq,hu,List.headD_cons];rw[Op.equalIn];simp only[eK,gy hu,ae,eR]
   case int k=>
    split at h
    case h_2=>cases h
    rename_i k0 _
    obtain⟨x,rfl⟩: ∃x,xs= [.int k0 x] :=by
     match xs,hx with
     | [.int k1 x],hx=>
       simp only[ny,cond_eq_ite] at hx;split at hx
       ·rename_i hk; simp at hk; subst hk; exact⟨x,rfl⟩
       ·cases hx
     | .int _ _::_::_,hx=>simp[ny] at hx
    obtain⟨y,rfl⟩: ∃y,ys= [.int k0 y] :=by
     match ys,hy with
     | [.int k1 x],hx=>
       simp only[ny,cond_eq_ite] at hx;split at hx
       ·rename_i hk; simp at hk; subst hk; exact⟨x,rfl⟩
       ·cases hx
     | .int _ _::_::_,hx=>simp[ny] at hx
    simp only[nK,Kp,dC,af] at he;subst he;simp only[Gq,hu,List.headD_cons];rw[Op.equalIn];simp only[eK,gy hu,ae,eR,if_true]
   case struct fs=>
    simp only[aq,bV] at h;obtain⟨hst,h⟩:=h;simp only[Gq,hu]
    have gE: ∀ (fs:List Field) (off:Nat) (zs:List Value) (r:Bool),S4 P (KT P n) fs off zs=true->ny zs (xs.drop off)=true->ny zs (ys.drop off)=true->nK (xs.drop off) (ys.drop off)=some r->
      eU P (Op.eqFields (n+d) xs.toArray ys.toArray fs)=some r:=by
     intro fs
     induction fs with
     |nil=>
      intro off zs r h hx hy he;cases zs with
      |nil=>have h1:=sR hx;have h2:=sR hy;simp only[ck,dj] at h1 h2;rw[h1,h2] at he;cases he;rfl
      |cons=>cases h
     |cons f fs ih=>
      intro off zs r h hx hy he;simp only[S4,aq,bne_iff_ne,ne_eq] at h;obtain⟨⟨⟨⟨⟨⟨hname,hoff⟩,hpos⟩,hle⟩,hi⟩,h1⟩,h2⟩:=h;have hoff:=au hoff;have hpos:0<P.cellsOf f.type:=aA hpos;have hle:P.cellsOf f.type<=zs.length:=aA hle;have hlx:=sR hx;have hly:=sR hy;rw[bO] at hlx hly;obtain⟨i,hi⟩:=bL.1 hi
      have hu': ∃D,P.underlying f.type=some D/\ ∀n e,D≠ .array n e:=by
       cases hun:P.underlying f.type with
       |none=>cases n<;>simp[KT,hun] at h1
       |some D=>refine⟨D,rfl,fun k e he=> ?_⟩; subst he; cases n<;>simp[KT,hun] at h1
      obtain⟨D,hD,hDa⟩:=hu';have px:=KU hi hD hDa (xs:=xs) (off:=off) (ah (by omega));have py:=KU hi hD hDa (xs:=ys) (off:=off) (ah (by omega));have px:=px.resolve_right (by omega);have py:=py.resolve_right (by omega);obtain⟨a,b,ha,hb,rfl⟩:=IK (P.cellsOf f.type) he;have hA:=NY P n d h1 (wx _ hx).1 (wx _ hy).1 ha;rw[Op.eqFields,if_pos hname];simp only[hoff,eK,px,py,ae,hA];cases a with
      |false=>rfl
      |true=>
       simp only[aY,bg,if_false,ef];simp only[cj] at hb;refine ih _ _ _ h2 ?_ ?_ hb
       ·have:=(wx (P.cellsOf f.type) hx).2; rw[cj] at this; exact this
       ·have:=(wx (P.cellsOf f.type) hy).2; rw[cj] at this; exact this
    have:=gE fs.toList 0 zs r h (by simpa using hx) (by simpa using hy) (by simpa using he);rw[<-this];rw[Op.equalIn];simp only[eK,gy hu,ae,program,eU,hst,bg,if_false];rw[<-Array.forIn_toList];generalize fs.toList=fs;clear this gE h hu hst hn
    induction fs with
    |nil=>rfl
    |cons f fs ih=>
     simp only[List.forIn_cons,Op.eqFields];split
     ·simp only[eK];cases eU P (part f.type xs.toArray f.offset) with
      |none=>rfl
      |some a=>
       cases eU P (part f.type ys.toArray f.offset) with
       |none=>rfl
       |some b=>
        simp only[ae];cases eU P (Op.equalIn (n+d) f.type a b) with
        |none=>rfl
        |some q=>
         cases q
         ·rfl
         ·simp only[ae,aY,bg,if_false,eR];simpa only[eK,Option.bind_assoc] using ih
     ·simp only[eK,eR,ae];simpa only[eK,Option.bind_assoc] using ih
theorem Vn {P:Program} {t:TypeId} {zs:List Value} {fs:Array Field} (hu:P.underlying t=some (.struct fs)) (h:KT P 8 t zs=true) (a b:List Cl) (r:Bool) (xs ys:List Value) (ha:nB zs a=true) (hb:nB zs b=true) (he:yQ a b=some r) (hx:a=xs.map (fun x=> .c (.sc x))) (hy:b=ys.map (fun x=> .c (.sc x))):
  eU P (Op.equal t (.agg xs.toArray) (.agg ys.toArray))=some r:=by
 subst hx hy;have:=NY P 8 9992 h (Fe ha) (Fe hb) (by rw[<-OU]; exact he);unfold Gq at this;rw[hu] at this;exact this
end
section
open Go
def Wc (P:Program):List Field->Option (List (Nat×Nat×Bool))
 | [] =>some []
 |f::fs=>match F5 P f.type,Wc P fs with
  |some ag,some l=>some ((f.offset,P.cellsOf f.type,ag)::l)
  | _,_=>none
def Wn (P:Program) (t:TypeId):Option (List (Nat×Nat×Bool)):=match P.underlying t with |some (.struct fs)=>Wc P fs.toList| _=>none
theorem NZ {P:Program}: ∀ {fs:List Field} {l:List (Nat×Nat×Bool)},Wc P fs=some l-> ∀k,(fs[k]?).bind (fun f=>(F5 P f.type).map fun ag=>(f.offset,P.cellsOf f.type,ag))=qz l k
 | [],l,h,k=>by cases h; rfl
 |f::fs,l,h,k=>by
  unfold Wc at h;split at h
  ·rename_i ag l' h1 h2;cases h;cases k with
   |zero=>simp[h1,qz]
   |succ k=>show _=qz l' (k+1-1);rw[cF,<-NZ h2 k,ch]
  ·cases h
theorem S5 {P:Program} {t:TypeId} {l:List (Nat×Nat×Bool)} (h:Wn P t=some l) (k:Nat):Py P t k=qz l k:=by
 unfold Wn at h;unfold Py;split at h
 ·rename_i fs hu;simp only[hu];rw[<-NZ h k,bB]
 ·cases h
theorem S6 (P:Program):iq P [] :=fun _ _ h=>by cases h
theorem eS {P:Program} {t:Nat} {ti:TI} {l:qG} (h:ti.ok P t) (hl:iq P l):iq P ((t,ti)::l):=by
 intro u ui hu;unfold oA at hu;cases hb:Nat.beq t u with
 |true=>rw[hb] at hu;have:=au hb;subst this;cases hu;exact h
 |false=>rw[hb] at hu;exact hl u ui hu
def Vo (P:Program) (t:TypeId):Bool:=match P.underlying t with |some (.struct _)=>true| _=>false
section
variable {P:Program} {t:TypeId}
theorem pB {n:Sn} {fds:List (Nat×Nat×Bool)} {by':Nat} (h1:Vo P t=true) (h2:P.cellsOf t=(Ty.st n).width) (h3:pP P 9 t=(Ty.st n).shs) (h4:BP P t=some (Ty.st n).zvs) (h5:Wn P t=some fds)
  (h6:U6 P t=some (fds.map fun x=>(x.1,x.2.1))) (h7: ((Ty.st n).flatB=true->P.eqGuardType P.depth t=false/\KT P 8 t (Ty.st n).zvs=true)) (hz: (Ty.st n).flatB=false-> ∀xs:List Value,nB (Ty.st n).zvs (xs.map fun x=> .c (.sc x))=false):TI.ok P t ⟨.st n,0,fds,by'⟩:=by
 unfold Vo at h1;split at h1
 case h_2=>cases h1
 rename_i fs hu;refine⟨?_,h2,h3,h4,S5 h5,fun _=>h6,fun e he=>(by cases he),fun hb=>(by cases hb),fun _ hf=>(h7 hf).1,fun _ a b r xs ys ha hb he hx hy=> ?_,?_,fun k hk=>(by cases hk)⟩
 ·simp[F5,hu,Ty.ag]
 ·cases hf: (Ty.st n).flatB with
  |true=>exact Vn hu (h7 hf).2 a b r xs ys ha hb he hx hy
  |false=>subst hx;have:=hz hf xs;rw[show nB (Ty.st n).zvs _=true from ha] at this;cases this
 ·simp[HV,hu]
theorem wY {e:Ty} {el:Nat} {by':Nat} {u:TypeId} (h1:yH P t=some u) (h2:P.cellsOf t=1) (h4:BP P t=some [.slice none 0 0]) (h5:P.cellsOf u=e.width) (h6:P.bytesOf u=el) (h7:Nat.blt 0 el=true) (h8:pP P 9 u=e.shs) (h9:BP P u=some e.zvs):TI.ok P t ⟨.ls e,el,[],by'⟩:=by
 have hu:P.underlying t=some (.slice u):=by
  unfold yH at h1;split at h1
  ·rename_i e hu; cases h1; exact hu
  ·cases h1
 refine⟨?_,h2,?_,h4,fun k=> ?_,fun h=>(by cases h),fun e' he=> ?_,fun hb=>(by cases hb),fun h=>(by cases h),fun h=>(by cases h),?_,fun k hk=>(by cases hk)⟩
 ·simp[F5,hu,Ty.ag]
 ·simp[pP,hu,Ty.shs,Ty.csh,h5]
 ·simp[Py,hu,qz]
 ·cases he;exact⟨u,h1,h5,h6,aA h7,h8,h9⟩
 ·simp[HV,hu]
def WF (P:Program) (t:TypeId) (y:Ty):Bool:=match P.underlying t,y with
 |some (.int k), .i k'=>decide (k=k')
 |some .bool, .b=>true
 |some .string, .s=>true
 | _,_=>false
theorem zE {y:Ty} {by':Nat} (h1:WF P t y=true) (h2:P.cellsOf t=1) (h4:BP P t=some y.zvs):TI.ok P t ⟨y,0,[],by'⟩:=by
 unfold WF at h1;split at h1
 ·rename_i k k' hu;refine⟨(by simp[F5,hu,Ty.ag]),h2,(by simp[pP,hu,Ty.shs,Ty.csh]),h4,fun k=>(by simp[Py,hu,qz]),fun h=>(by cases h),fun e' he=>(by cases he),fun hb=>(by cases hb),fun h=>(by cases h),fun h=>(by cases h),by simp[HV,hu],fun q hq=>(by cases hq; rw[hu]; simp only[decide_eq_true_eq] at h1; rw[h1])⟩
 ·rename_i hu;refine⟨(by simp[F5,hu,Ty.ag]),h2,(by simp[pP,hu,Ty.shs,Ty.csh]),h4,fun k=>(by simp[Py,hu,qz]),fun h=>(by cases h),fun e' he=>(by cases he),fun hb=>hu,fun h=>(by cases h),fun h=>(by cases h),by simp[HV,hu],fun q hq=>(by cases hq)⟩
 ·rename_i hu;refine⟨(by simp[F5,hu,Ty.ag]),h2,(by simp[pP,hu,Ty.shs,Ty.csh]),h4,fun k=>(by simp[Py,hu,qz]),fun h=>(by cases h),fun e' he=>(by cases he),fun hb=>(by cases hb),fun h=>(by cases h),fun h=>(by cases h),by simp[HV,hu],fun q hq=>(by cases hq)⟩
 ·cases h1
end
theorem ko: ∀ {zs:List Value} (xs:List Value),zs.any (fun z=>match z with | .int _ _=>false| .bool _=>false| _=>true)=true->nB zs (xs.map fun x=> .c (.sc x))=false
 | [],xs,h=>by cases h
 |z::zs,xs,h=>by
  cases hb:nB (z::zs) (xs.map fun x=> .c (.sc x)) with
  |false=>rfl
  |true=>
   exfalso;cases xs with
   |nil=>cases z<;>simp[nB] at hb
   |cons x xs=>
    cases z<;>simp only[nB,aZ,bg] at hb
    all_goals cases x<;>simp only[nB,cond_eq_ite,bg] at hb
    ·rw[ko xs (by simpa using h)] at hb; cases hb
    ·split at hb
     ·rw[ko xs (by simpa using h)] at hb; cases hb
     ·cases hb
end
section
open Go
section
variable {σ ε:Type}
def AF (B:σ->Option (σ⊕ε)):Nat->σ->Option ε
 | 0,_=>none
 |n+1,s=>(B s).bind (Sum.elim (AF B n) some)
theorem Co (B:σ->Option (σ⊕ε)): ∀ {n m:Nat} {s:σ} {e:ε},n<=m->AF B n s=some e->AF B m s=some e
 | 0,_,_,_,_,h=>by cases h
 |n+1,0,_,_,hm,_=>by omega
 |n+1,m+1,s,e,hm,h=>by
  unfold AF at h ⊢;cases hB:B s with
  |none=>rw[hB] at h; cases h
  |some x=>
   rw[hB] at h;cases x with
   |inl s'=>exact Co B (by omega) h
   |inr e'=>exact h
theorem IM {p:Nat->Prop} (h: ∃n,p n): ∃n,p n/\ ∀m,p m->n<=m:=by
 obtain⟨n,hn⟩:=h
 induction n using Nat.strongRecOn with
 | _ n ih=>
   by_cases hx: ∃m,m<n/\p m
   ·obtain⟨m,hm,hp⟩:=hx;exact ih m hm hp
   ·exact⟨n,hn,fun m hm=>Nat.le_of_not_lt fun hlt=>hx ⟨m,hlt,hm⟩⟩
noncomputable def gQ (B:σ->Option (σ⊕ε)) (s:σ):Option ε:=open Classical in if h: ∃n,(AF B n s).isSome=true then AF B (Classical.choose h) s else none
noncomputable def Uv (B:σ->Option (σ⊕ε)) (s:σ):Nat:=open Classical in if h: ∃n,(AF B n s).isSome=true then Classical.choose (IM h) else 0
theorem xM {B:σ->Option (σ⊕ε)} {s:σ} {e:ε}:gQ B s=some e↔ ∃n,AF B n s=some e:=by
 classical
 constructor
 ·intro h;unfold gQ at h;split at h
  ·rename_i hx;exact⟨_,h⟩
  ·cases h
 ·rintro⟨n,h⟩
  have hx: ∃n,(AF B n s).isSome=true:=⟨n,by rw[h]; rfl⟩
  unfold gQ;rw[dif_pos hx];obtain⟨e',he⟩:=bL.1 (Classical.choose_spec hx);have h1:=Co B (Nat.le_max_left (Classical.choose hx) n) he;have h2:=Co B (Nat.le_max_right (Classical.choose hx) n) h;rw[h1] at h2;cases h2;exact he
theorem xN (B:σ->Option (σ⊕ε)) (s:σ):gQ B s=(B s).bind (Sum.elim (gQ B) some):=by
 apply Option.ext;intro e;rw[xM];constructor
 ·rintro⟨n,h⟩
  cases n with
  |zero=>cases h
  |succ n=>
   unfold AF at h;cases hB:B s with
   |none=>rw[hB] at h; cases h
   |some x=>
    rw[hB] at h;cases x with
    |inl s'=>exact xM.2 ⟨n,h⟩
    |inr e'=>exact h
 ·intro h;cases hB:B s with
  |none=>rw[hB] at h; cases h
  |some x=>
   rw[hB] at h;cases x with
   |inl s'=>obtain⟨n,h⟩:=xM.1 (show gQ B s'=some e from h);exact⟨n+1,by unfold AF; rw[hB]; exact h⟩
   |inr e'=>exact⟨1,by unfold AF; rw[hB]; exact h⟩
theorem OV (B:σ->Option (σ⊕ε)) (s:σ) (e:ε) (h:gQ B s=some e):QP (gQ B) (Uv B) s e (B s):=by
 classical
 have h0:=h;rw[xN] at h;cases hB:B s with
 |none=>rw[hB] at h; cases h
 |some x=>
  rw[hB] at h;cases x with
  |inl s'=>
   refine⟨?_,h⟩
   have hx: ∃n,(AF B n s).isSome=true:=by obtain⟨n,hn⟩:=xM.1 h0;exact⟨n,by rw[hn]; rfl⟩
   have hx': ∃n,(AF B n s').isSome=true:=by obtain⟨n,hn⟩:=xM.1 (show gQ B s'=some e from h);exact⟨n,by rw[hn]; rfl⟩
   unfold Uv;rw[dif_pos hx,dif_pos hx'];have:=(Classical.choose_spec (IM hx)).1;cases hn:Classical.choose (IM hx) with
   |zero=>rw[hn] at this; cases this
   |succ n=>rw[hn] at this;unfold AF at this;rw[hB] at this;exact Nat.lt_succ_of_le ((Classical.choose_spec (IM hx')).2 n this)
  |inr e'=>exact (Option.some.inj h)
end
inductive D8 where
 |ty (t:Ty)|pr (t:Ty)|fc (g:Nat)|fn (g:Nat) (caps:List Ty)|nl
abbrev D8.D:D8->Type
 | .ty t=>t.D
 | .pr t=>t.D
 | .fc _=>Unit
 | .fn _ caps=>vj.D caps
 | .nl=>Unit
abbrev sU.D:List D8->Type
 | [] =>Unit
 |p::l=>p.D×sU.D l
def IP: (l:List Ty)->vj.D l->List Cl
 | [],_=> []
 |t::l,x=> .pro (t.flat x.1)::IP l x.2
def D8.v1: (p:D8)->p.D->V1
 | .ty t,x=>Kv t x
 | .pr t,x=> .cl (.pro (t.flat x))
 | .fc g,_=> .cl (.c (.sc (.func (.func g) #[] #[])))
 | .fn g caps,x=> .fn g (IP caps x)
 | .nl,_=> .cl .em
def nL: (l:List D8)->sU.D l->List V1
 | [],_=> []
 |p::l,x=>p.v1 x.1::nL l x.2
def S7 {ρ:Type} (t:Ty) (c:Cl) (κ:t.D->Option ρ):Option ρ:=match c with
 | .pro xs=>(match t.unflat xs with |some x=>κ x|none=>none)
 | _=>none
def Cp {ρ:Type}: (l:List Ty)->List Cl->(vj.D l->Option ρ)->Option ρ
 | [],[],κ=>κ ()
 |t::l,c::cs,κ=>S7 t c fun x=>Cp l cs fun y=>κ (x,y)
 | _,_,_=>none
def Vp {ρ:Type}: (t:Ty)->V1->(t.D->Option ρ)->Option ρ
 | .ls _, .cl .em,κ=>κ []
 |t,a,κ=>un t a κ
def Wd {ρ:Type}: (p:D8)->V1->(p.D->Option ρ)->Option ρ
 | .ty t,a,κ=>Vp t a κ
 | .pr t, .cl c,κ=>S7 t c κ
 | .fc g, .cl (.c (.sc (.func (.func g') cs ts))),κ=>bif Nat.beq g' g&&Nat.beq cs.size 0&&Nat.beq ts.size 0 then κ () else none
 | .fn g caps, .fn g' cs,κ=>bif Nat.beq g' g then Cp caps cs κ else none
 | .nl, .cl .em,κ=>κ ()
 | _,_,_=>none
def Ff {ρ:Type}: (l:List D8)->List V1->(sU.D l->Option ρ)->Option ρ
 | [],[],κ=>κ ()
 |p::l,a::as,κ=>Wd p a fun x=>Ff l as fun y=>κ (x,y)
 | _,_,_=>none
def QW (ps:List D8) (rs:List Ty) (G:sU.D ps->Option (vj.D rs)):NB:=fun args _ κ=>Ff ps args fun x=>(G x).bind fun y=>ret (uR rs y) κ
theorem HF {ρ:Type} {t:Ty} {c:Cl} {κ:t.D->Option ρ} {r:ρ} (h:S7 t c κ=some r): ∃x,c= .pro (t.flat x)/\κ x=some r:=by
 unfold S7 at h;split at h
 ·split at h
  ·rename_i x hx;exact⟨x,by rw[t.unflat_some _ _ hx],h⟩
  ·cases h
 ·cases h
theorem C6 {ρ:Type}: ∀ {l:List Ty} {cs:List Cl} {κ:vj.D l->Option ρ} {r:ρ},Cp l cs κ=some r-> ∃x,cs=IP l x/\κ x=some r
 | [],[],κ,r,h=>⟨(),rfl,h⟩
 |t::l,c::cs,κ,r,h=>by unfold Cp at h;obtain⟨x,h1,h⟩:=HF h;obtain⟨y,h2,h⟩:=C6 h;exact⟨(x,y),by rw[h1,h2]; rfl,h⟩
 | [],_::_,κ,r,h=>by simp[Cp] at h
 | _::_,[],κ,r,h=>by simp[Cp] at h
theorem QX {ρ:Type} {t:Ty} {a:V1} {κ:t.D->Option ρ} {r:ρ} (h:Vp t a κ=some r): ∃x,(a.av=(Kv t x).av\/(a.av= .em/\ ∃s,(Kv t x).av= .ro s []))/\κ x=some r:=by
 unfold Vp at h;split at h
 ·exact⟨[], .inr ⟨rfl,_,rfl⟩,h⟩
 ·obtain⟨x,e,h'⟩:=un_some h;exact⟨x, .inl (by rw[e]),h'⟩
theorem QY {ρ:Type} {p:D8} {a:V1} {κ:p.D->Option ρ} {r:ρ} (h:Wd p a κ=some r): ∃x,(a.av=(p.v1 x).av\/(a.av= .em/\ ∃s,(p.v1 x).av= .ro s []))/\κ x=some r:=by
 unfold Wd at h;split at h
 ·exact QX h
 ·obtain⟨x,h1,h⟩:=HF h;exact⟨x, .inl (by rw[h1]; rfl),h⟩
 ·obtain⟨h1,h⟩:=eC h;simp only[aq] at h1;obtain⟨⟨h1,h2⟩,h3⟩:=h1;have h1:=au h1;have h2:=cL (au h2);have h3:=cL (au h3);exact⟨(), .inl (by rw[h1,h2,h3]; rfl),h⟩
 ·obtain⟨h1,h⟩:=eC h;obtain⟨x,h2,h⟩:=C6 h;exact⟨x, .inl (by rw[au h1,h2]; rfl),h⟩
 ·exact⟨(), .inl rfl,h⟩
 ·cases h
theorem vL {ρ:Type}: ∀ {l:List D8} {as:List V1} {κ:sU.D l->Option ρ} {r:ρ},Ff l as κ=some r-> ∃x,Mz (as.map V1.av) ((nL l x).map V1.av)/\κ x=some r
 | [],[],κ,r,h=>⟨(),Mz.refl _,h⟩
 |p::l,a::as,κ,r,h=>by unfold Ff at h;obtain⟨x,h1,h⟩:=QY h;obtain⟨y,h2,h⟩:=vL h;exact⟨(x,y),Mz.cons h1 h2,h⟩
 | [],_::_,κ,r,h=>by simp[Ff] at h
 | _::_,[],κ,r,h=>by simp[Ff] at h
theorem HG (G:List (Option fr)): ∀ (l:List Ty) (x:vj.D l),∀c∈IP l x,c.ok G
 | [],x,c,h=>by cases h
 |t::l,x,c,h=>by
  rcases aW.1 h with rfl|h
  ·trivial
  ·exact HG G l x.2 c h
theorem D8.ok (p:D8) (x:p.D): (p.v1 x).ok [] :=by
 cases p with
 |ty t=>exact Uu t x
 |pr t=>trivial
 |fc g=>trivial
 |fn g caps=>exact HG [] caps x
 |nl=>trivial
theorem zb: ∀ (l:List D8) (x:sU.D l),∀a∈nL l x,a.ok []
 | [],x,a,h=>by cases h
 |p::l,x,a,h=>by
  rcases aW.1 h with rfl|h
  ·exact p.ok x.1
  ·exact zb l x.2 a h
theorem S8 {P:Program} {Θ:qG} {Y:BQ} {Λ:uO} (hΘ:iq P Θ) (hY:ou P Y) (hm:P.follows .mixedOrders=true) {f:FuncId} {fn:Func} (hf:Kd P f=some fn) (hL: ∀c,fn.body=some c->ld P Λ (gY c)) {ps:List D8} {rs:List Ty} {G:sU.D ps->Option (vj.D rs)} (hk:Nat.blt f 1048576=true)
  (F:sU.D ps->Option (vj.D rs)) (hF: ∀x,Vg Θ Y Λ fn (nL ps x) (fun v g=>some (v,g))=(F x).bind fun y=>ret (uR rs y) (fun v g=>some (v,g))) (hG: ∀x y,G x=some y->F x=some y):Bm P f (QW ps rs G):=by
 intro args ρ κ r hr;unfold QW at hr;obtain⟨x,hn,hr2⟩:=vL hr;obtain⟨y,h1,hr3⟩:=aj.1 hr2;exact⟨_,_, .of_fn (va.norm hn (Uq hΘ hY hm hf hL (zb ps x) (by rw[hF,hG x y h1]; rfl))) (aA hk),MA _,hr3⟩
def QZ (el:Ty) (ps:List D8) (rs:List Ty) (G:List el.D->sU.D ps->Option (vj.D rs)):NB:=fun args _ κ=>match args with
 | .cl (.c (.ls t l))::as=>(match xG t el l with
   |some l=>Ff ps as fun x=>(G l x).bind fun y=>ret (uR rs y) κ
   |none=>none)
 | _=>none
def Uw {ρ:Type} (el:Ty) (rs:List Ty) (y:List el.D×vj.D rs) (κ:V->List fr->Option ρ):Option ρ:=κ (Ca (C1 1 (uR rs y.2))) (⟨el,y.1,none⟩::Be (uR rs y.2))
def Ux (el:Ty) (ps:List D8) (rs:List Ty) (G:List el.D->sU.D ps->Option (List el.D×vj.D rs)):NB:=fun args _ κ=>match args with
 | .cl (.c (.ls t l))::as=>(match xG t el l with
   |some l=>Ff ps as fun x=>(G l x).bind fun y=>Uw el rs y κ
   |none=>none)
 | _=>none
theorem S9 {P:Program} {Θ:qG} {Y:BQ} {Λ:uO} (hΘ:iq P Θ) (hY:ou P Y) (hm:P.follows .mixedOrders=true) {f:FuncId} {fn:Func} (hf:Kd P f=some fn) (hL: ∀c,fn.body=some c->ld P Λ (gY c)) {el:Ty} {ps:List D8} {rs:List Ty} {G:List el.D->sU.D ps->Option (vj.D rs)}
  (F:List el.D->sU.D ps->Option (vj.D rs)) (hF: ∀l x,OH Θ Y Λ fn 0 el l (nL ps x) (fun v g=>some (v,g))=(F l x).bind fun y=>ret (uR rs y) (fun v g=>some (v,g))) (hG: ∀l x y,G l x=some y->F l x=some y):Bm P (Ir f) (QZ el ps rs G):=by
 intro args ρ κ r hr;unfold QZ at hr;split at hr
 ·rename_i t l as;split at hr
  ·rename_i l' hl;obtain⟨e,hl⟩:=iK hl;subst e;have hl:l=l':=hl;subst hl;obtain⟨x,hn,hr2⟩:=vL hr;obtain⟨y,h1,hr3⟩:=aj.1 hr2;exact⟨_,_, .of_mv ⟨.ls _,l,_,rfl,oz.norm (Mz.cons (.inl rfl) hn) (NR hΘ hY hm hf hL (aI 1) (zb ps x) (by rw[hF,hG l x y h1]; rfl))⟩,MA _,hr3⟩
  ·cases hr
 ·cases hr
theorem Ta (el:Ty) (l:List el.D) (ys:List ((t:Ty)×t.D)): (Ca (C1 1 ys)).ok ((⟨el,l,none⟩::Be ys).map some):=by
 have h:=Fd ys [⟨el,l,none⟩];simp only[bX,List.singleton_append] at h
 match C1 1 ys,h with
 | [],_=>exact fun x hx=>by cases hx
 | [v],h=>exact h v aG
 |v::u::vs,h=>exact h
theorem Tb {P:Program} {Θ:qG} {Y:BQ} {Λ:uO} (hΘ:iq P Θ) (hY:ou P Y) (hm:P.follows .mixedOrders=true) {f:FuncId} {fn:Func} (hf:Kd P f=some fn) (hL: ∀c,fn.body=some c->ld P Λ (gY c)) {el:Ty} {ps:List D8} {rs:List Ty} {G:List el.D->sU.D ps->Option (List el.D×vj.D rs)} (hk:Nat.blt f 1048576=true)
  (F:List el.D->sU.D ps->Option (List el.D×vj.D rs)) (hF: ∀l x,OH Θ Y Λ fn 1 el l (nL ps x) (fun v g=>some (v,g))=(F l x).bind fun y=>Uw el rs y (fun v g=>some (v,g))) (hG: ∀l x y,G l x=some y->F l x=some y):Bm P (EO f) (Ux el ps rs G):=by
 intro args ρ κ r hr;unfold Ux at hr;split at hr
 ·rename_i t l as;split at hr
  ·rename_i l' hl;obtain⟨e,hl⟩:=iK hl;subst e;have hl:l=l':=hl;subst hl;obtain⟨x,hn,hr2⟩:=vL hr;obtain⟨y,h1,hr3⟩:=aj.1 hr2;exact⟨_,_, .of_io ⟨.ls _,l,_,rfl,oz.norm (Mz.cons (.inl rfl) hn) (NR hΘ hY hm hf hL (ay 1) (zb ps x) (by rw[hF,hG l x y h1]; rfl))⟩ (aA hk),Ta _ _ (uR rs y.2),hr3⟩
  ·cases hr
 ·cases hr
def Q0 (p:List V1->Bool) (e1 e2:NB):NB:=fun args ρ κ=>bif p args then e1 args ρ κ else e2 args ρ κ
theorem Q1 {P:Program} {f:FuncId} {p:List V1->Bool} {e1 e2:NB} (h1:Bm P f e1) (h2:Bm P f e2):Bm P f (Q0 p e1 e2):=by
 intro args ρ κ r hr;unfold Q0 at hr;cases hp:p args with
 |true=>rw[hp] at hr; exact h1 args ρ κ r hr
 |false=>rw[hp] at hr; exact h2 args ρ κ r hr
def Vq (n g:Nat) (args:List V1):Bool:=match qz args n with
 |some (.fn g' _)=>Nat.beq g' g
 |some (.cl (.c (.sc (.func (.func g') _ _))))=>Nat.beq g' g
 | _=>false
def sr (fn:Func):Code:=match fn.body with |some c=>c|none=> .skip
def Uy (c:Code) (n:Nat):Code:=(qz (gY c) n).getD .skip
theorem Vr {P:Program} {Λ:uO} {fn:Func} {cs:List Code} (h:gY (sr fn)=cs) (H:ld P Λ cs) (c:Code) (hc:fn.body=some c):ld P Λ (gY c):=by
 have :sr fn=c:=by unfold sr; rw[hc]
 rw[<-this,h];exact H
end
section
open Go
inductive Kc where|i (k:IntKind)|b|s|ls (t:Ty)
 deriving DecidableEq
def Q2:List (Option Ty)->List Value->List Kc
 |some t::l,_::m=> .ls t::Q2 l m
 |none::l, .int k _::m=> .i k::Q2 l m
 |none::l, .bool _::m=> .b::Q2 l m
 |none::l,_::m=> .s::Q2 l m
 | _,_=> []
def Ty.kc (t:Ty):List Kc:=Q2 t.csh t.zvs
def vM:List Kc->List C->Prop
 | [],[] =>True
 | .i k::l,c::m=>(∃n,c= .sc (.int k n))/\vM l m
 | .b::l,c::m=>(∃v,c= .sc (.bool v))/\vM l m
 | .s::l,c::m=>(∃v,c= .sc (.string v))/\vM l m
 | .ls t::l,c::m=>(∃v,c= .ls t v)/\vM l m
 | _,_=>False
theorem Bo {cs:List C} (h:vM [] cs):cs= [] :=by cases cs with |nil=>rfl|cons=>exact h.elim
theorem TU {k:IntKind} {l:List Kc} {cs:List C} (h:vM (.i k::l) cs): ∃n r,cs= .sc (.int k n)::r/\vM l r:=by
 cases cs with
 |nil=>exact h.elim
 |cons c r=>obtain⟨⟨n,rfl⟩,h⟩:=h; exact⟨n,r,rfl,h⟩
theorem TV {l:List Kc} {cs:List C} (h:vM (.b::l) cs): ∃n r,cs= .sc (.bool n)::r/\vM l r:=by
 cases cs with
 |nil=>exact h.elim
 |cons c r=>obtain⟨⟨n,rfl⟩,h⟩:=h; exact⟨n,r,rfl,h⟩
theorem TW {l:List Kc} {cs:List C} (h:vM (.s::l) cs): ∃n r,cs= .sc (.string n)::r/\vM l r:=by
 cases cs with
 |nil=>exact h.elim
 |cons c r=>obtain⟨⟨n,rfl⟩,h⟩:=h; exact⟨n,r,rfl,h⟩
theorem TX {t:Ty} {l:List Kc} {cs:List C} (h:vM (.ls t::l) cs): ∃n r,cs= .ls t n::r/\vM l r:=by
 cases cs with
 |nil=>exact h.elim
 |cons c r=>obtain⟨⟨n,rfl⟩,h⟩:=h; exact⟨n,r,rfl,h⟩
theorem HH (t:Ty) {cs:List C} (h:vM t.kc cs): ∃x,t.flat x=cs:=by
 have : (t.unflat cs).isSome=true:=by
  cases t with
  |st n=>
   cases n
   all_goals
    repeat ((first |replace h:=TU h|replace h:=TV h|replace h:=TX h|replace h:=TW h); obtain⟨_,_,rfl,h⟩:=h)
    cases Bo h;rfl
  |i k=>replace h:=TU h; obtain⟨_,_,rfl,h⟩:=h; cases Bo h; simp[Ty.unflat,gI,gN]
  |b=>replace h:=TV h; obtain⟨_,_,rfl,h⟩:=h; cases Bo h; rfl
  |s=>replace h:=TW h; obtain⟨_,_,rfl,h⟩:=h; cases Bo h; rfl
  |ls u=>replace h:=TX h; obtain⟨_,_,rfl,h⟩:=h; cases Bo h; simp[Ty.unflat,gL,gN]
 obtain⟨x,hx⟩:=bL.1 this;exact⟨x,t.unflat_some _ _ hx⟩
inductive T.bd:T->Prop where
 |int {k:IntKind} {n:Int} (h:k.min<=n/\n<=k.max):T.bd (.sc (.int k n))
 |bool (v:Bool):T.bd (.sc (.bool v))
 |str (v:ByteArray):T.bd (.sc (.string v))
 |sl {sz:Nat} {rows:List (List T)} (hl:rows.length<=maxLen) (h: ∀r∈rows,∀x∈r,T.bd x):T.bd (.sl sz rows)
def MB (t:Ty) (x:t.D):Prop:= ∀y∈t.row x,T.bd y
def IQ (P:Program) (e:TypeId->List Kc->Bool):List Field->Nat->List Kc->Bool
 | [],_,[] =>true
 | [],_,_::_=>false
 |f::fs,off,ks=>Nat.beq f.offset off&&Nat.ble (P.cellsOf f.type) ks.length&&e f.type (ks.take (P.cellsOf f.type))&&IQ P e fs (off+P.cellsOf f.type) (ks.drop (P.cellsOf f.type))
def C7 (P:Program) (Θ:qG):Nat->TypeId->List Kc->Bool
 | 0,_,_=>false
 |d+1,t,ks=>match P.underlying t with
  |some (.int k)=>decide (ks= [.i k])
  |some .bool=>decide (ks= [.b])
  |some (.slice e)=>(match oA Θ e with
   |some ti=>decide (ks= [.ls ti.ty])&&C7 P Θ d e ti.ty.kc&&Nat.beq (P.cellsOf e) ti.ty.width&&Nat.blt 0 ti.ty.width
   |none=>false)
  |some (.struct fs)=>IQ P (C7 P Θ d) fs.toList 0 ks&&Nat.beq (P.cellsOf t) ks.length
  | _=>false
theorem KV: ∀ {k l:List Kc} {cs ds:List C},vM k cs->vM l ds->vM (k++l) (cs++ds)
 | [],l,[],ds,_,h=>h
 | [],_,_::_,_,h,_=>h.elim
 |a::k,_,[],_,h,_=>by cases a<;>exact h.elim
 |a::k,l,c::cs,ds,h,h2=>by cases a<;>exact⟨h.1,KV h.2 h2⟩
theorem C8: ∀ {k:List Kc} {cs:List C},vM k cs->cs.length=k.length
 | [],[],_=>rfl
 | [],_::_,h=>h.elim
 |a::k,[],h=>by cases a<;>exact h.elim
 |a::k,c::cs,h=>by cases a<;>simp[C8 h.2]
section
variable {H:Type} {enc:TypeId×Value->H} {P:Program} {w:World} {base:Nat} {sp:Nat->Bool} {held:Bool} {Θ:qG}
structure Cs (w:World) (cs:List Value) (Xs:List C):Prop where
 len:Xs.length=cs.length
 one: ∀u∈cs,u.oneCell'=true
 ro: ∀ (k:Nat) (c:C) (u:Value),Xs[k]? =some c->cs[k]? =some u->RO w (fun b=>b<w.heap.size) c.tree u
 bd: ∀c∈Xs,T.bd c.tree
theorem Cs.nil:Cs w [] [] :=⟨rfl,fun _ h=>(by cases h),fun _ _ _ h=>(by cases h),fun _ h=>(by cases h)⟩
theorem Cs.one_mk {u:Value} {c:C} (h1:u.oneCell'=true) (h2:RO w (fun b=>b<w.heap.size) c.tree u) (h3:T.bd c.tree):Cs w [u] [c] :=by
 refine⟨rfl,fun v hv=> ?_,fun k c' u' hk hu=> ?_,fun c' hc=> ?_⟩
 ·rw[az.1 hv]; exact h1
 ·cases k with
  |zero=>cases hk; cases hu; exact h2
  |succ k=>simp at hk
 ·rw[az.1 hc]; exact h3
theorem Cs.app {cs ds:List Value} {Xs Ys:List C} (h:Cs w cs Xs) (k:Cs w ds Ys):Cs w (cs++ds) (Xs++Ys):=by
 refine⟨by rw[aQ,aQ,h.len,k.len],fun u hu=> ?_,fun j c u hj hu=> ?_,fun c hc=> ?_⟩
 ·rcases bc.1 hu with hu|hu
  ·exact h.one u hu
  ·exact k.one u hu
 ·by_cases hlt:j<Xs.length
  ·rw[aH hlt] at hj;rw[aH (by rw[<-h.len]; exact hlt)] at hu;exact h.ro j c u hj hu
  ·rw[aN (by omega)] at hj;rw[aN (by rw[<-h.len]; omega),<-h.len] at hu;exact k.ro _ c u hj hu
 ·rcases bc.1 hc with hc|hc
  ·exact h.bd c hc
  ·exact k.bd c hc
theorem IR (hΘ:iq P Θ): ∀ (d:Nat) {t:TypeId} {ks:List Kc} {n:Nat} {cs:List Value} {y:DataW H×List MemPlace},C7 P Θ d t ks=true->DataW.trod enc P w base sp held n t cs=some y-> ∃Xs:List C,vM ks Xs/\Cs w cs Xs
 | 0,t,ks,n,cs,y,hb,_=>by cases hb
 |d+1,t,ks,n,cs,y,hb,h=>by
  unfold C7 at hb;split at hb
  ·rename_i k hu;have:=of_decide_eq_true hb;subst this;obtain⟨v,rfl,_,hw⟩:=DataW.trod_int hu h;simp only[Lit.wf,aq,decide_eq_true_eq] at hw;exact⟨[.sc (.int k v)],⟨⟨v,rfl⟩,trivial⟩,Cs.one_mk rfl (.sc rfl) (.int hw)⟩
  ·rename_i hu;have:=of_decide_eq_true hb;subst this;obtain⟨v,rfl,_⟩:=DataW.trod_bool hu h;exact⟨[.sc (.bool v)],⟨⟨v,rfl⟩,trivial⟩,Cs.one_mk rfl (.sc rfl) (.bool v)⟩
  ·rename_i e hu;split at hb
   ·rename_i ti hti;simp only[aq,decide_eq_true_eq] at hb;obtain⟨⟨⟨rfl,hb⟩,hw⟩,hpos⟩:=hb;have hw:=au hw;have hpos:0<ti.ty.width:=aA hpos;rcases Go.Deep.open_slice hu h with ⟨rfl,_⟩| ⟨ad,len,cap,m,n',D,Pl,rfl,_,hl,hm,hmm,_,hx⟩
    ·exact⟨[.ls ti.ty []],⟨⟨[],rfl⟩,trivial⟩,Cs.one_mk rfl (.em _ _ _) (.sl (aI _) fun r hr=>by cases hr)⟩
    ·have hlm:len<=m:=by rw[hmm]; split<;>omega
     have each: ∀i:Fin len,∃z:ti.ty.D,∃cs',w.cells? base (ad.add (i.1*P.cellsOf e)) (P.cellsOf e)=some cs'/\Cs w cs' (ti.ty.flat z):=by intro i;obtain⟨cs',h1,h2⟩:=hx i.1 (by have:=i.2; omega);obtain⟨Xs,h3,h4⟩:=IR hΘ d hb h2;obtain⟨z,rfl⟩:=HH _ h3;exact⟨z,cs',h1,h4⟩
     let l:List ti.ty.D:=List.ofFn fun i=>(each i).choose
     have hll:l.length=len:=by simp[l]
     have row: ∀ (i:Nat) (r:List T),(l.map ti.ty.row)[i]? =some r-> ∃hi:i<len,∃cs',w.cells? base (ad.add (i*P.cellsOf e)) (P.cellsOf e)=some cs'/\ ∃z,r=(ti.ty.flat z).map C.tree/\Cs w cs' (ti.ty.flat z):=by
      intro i r hr;rw[ar,ak] at hr;obtain⟨z,hz,rfl⟩:=hr;obtain⟨h1,h2⟩:=ai.1 hz;have hi:i<len:=by rw[hll] at h1; exact h1
      refine⟨hi,(each ⟨i,hi⟩).choose_spec.choose,(each ⟨i,hi⟩).choose_spec.choose_spec.1,z,ti.ty.row_flat z,?_⟩;have e1:z=(each ⟨i,hi⟩).choose:=by rw[<-h2]; simp[l]
      rw[e1];exact (each ⟨i,hi⟩).choose_spec.choose_spec.2
     refine⟨[.ls ti.ty l],⟨⟨l,rfl⟩,trivial⟩,Cs.one_mk rfl ?_ ?_⟩
     ·show RO w _ (.sl ti.ty.width (l.map ti.ty.row)) _;by_cases h0:len=0
      ·have :l= [] :=dj.1 (by rw[hll,h0]);rw[this,h0];exact .em _ _ _
      ·have hlr: (l.map ti.ty.row).length=len:=by rw[aD,hll]
       have hlen: ∀ (i:Nat) (r:List T),(l.map ti.ty.row)[i]? =some r->r.length=ti.ty.width:=by intro i r hr;obtain⟨hi,cs',h1,z,rfl,h2⟩:=row i r hr;obtain⟨_,h3,_⟩:=World.cells?_some h1;rw[aD,h2.len,h3,hw]
       have hcell: ∀ (i:Nat) (r:List T) (j:Nat) (x:T),(l.map ti.ty.row)[i]? =some r->r[j]? =some x-> ∃u,w.cell? (ad.add (i*ti.ty.width+j))=some u/\RO w (fun b=>b<w.heap.size) x u:=by
        intro i r j x hr hx;obtain⟨hi,cs',h1,z,rfl,h2⟩:=row i r hr;obtain⟨_,h3,h4⟩:=World.cells?_some h1;rw[ar,ak] at hx;obtain⟨c,hc,rfl⟩:=hx;have hj:j<cs'.length:=by rw[<-h2.len]; exact (ai.1 hc).1
        refine⟨cs'[j],?_,h2.ro j c _ hc (ah hj)⟩;rw[<-Go.Deep.add_add,<-hw,h4 j (by omega),ah hj]
       have hne: ∃u,w.cell? ad=some u:=by
        obtain⟨r,hr⟩: ∃r,(l.map ti.ty.row)[0]? =some r:=⟨_,ah (by omega)⟩
        have h5:=hlen 0 r hr;obtain⟨x,hx⟩: ∃x,r[0]? =some x:=⟨_,ah (by omega)⟩
        obtain⟨u,hu',_⟩:=hcell 0 r 0 x hr hx;simp only[cr,aU,Addr.add,if_true] at hu';exact⟨u,hu'⟩
       obtain⟨u0,hu0⟩:=hne;rw[<-hlr];refine .sl (fun i j=>((w.cell? (ad.add (i*ti.ty.width+j))).getD undef)) (by omega) ?_ (World.block_lt_of_cell? w _ hu0) hlen ?_ ?_
       ·cases hsp:ad.spot with
        |none=>rfl
        |some s=>
         unfold World.cell? at hu0;rw[hsp] at hu0;split at hu0
         ·simp at hu0
         ·cases hu0
       ·intro i r j x hr hx;obtain⟨u,h1,_⟩:=hcell i r j x hr hx;rw[h1];rfl
       ·intro i r j x hr hx;obtain⟨u,h1,h2⟩:=hcell i r j x hr hx;rw[h1];exact h2
     ·refine .sl (by rw[aD,hll]; unfold maxLen at hm ⊢; omega) fun r hr x hx=> ?_;obtain⟨i,hi⟩:=List.getElem?_of_mem hr;obtain⟨_,cs',_,z,rfl,h2⟩:=row i r hi;obtain⟨c,hc,rfl⟩:=aM.1 hx;exact h2.bd c hc
   ·cases hb
  ·rename_i fs hu;simp only[aq] at hb;obtain⟨hb,hkl0⟩:=hb;have hkl0:=au hkl0;obtain⟨xs,m,_,_,hl,hlen,hf⟩:=DataW.trod_struct hu h
   have gE: ∀ (gs:List Field) (off i0:Nat) (ks:List Kc),IQ P (C7 P Θ d) gs off ks=true->(∀ (i:Nat) (f:Field),gs[i]? =some f->fs[i0+i]? =some f)-> ∃Xs:List C,vM ks Xs/\Cs w ((cs.drop off).take ks.length) Xs/\off+ks.length<=max off cs.length:=by
    intro gs
    induction gs with
    |nil=>
     intro off i0 ks hk _;cases ks with
     |nil=>exact⟨[],trivial,by simpa using Cs.nil,by simp; omega⟩
     |cons=>cases hk
    |cons f gs ih=>
     intro off i0 ks hk hg;simp only[IQ,aq] at hk;obtain⟨⟨⟨ho,hle⟩,h1⟩,h2⟩:=hk;have ho:=au ho;have hle:P.cellsOf f.type<=ks.length:=aA hle;have hfi:fs[i0]? =some f:=by have:=hg 0 f rfl; simpa using this
     have hi0:i0<xs.length:=by rw[hlen]; exact (aE.1 hfi).1
     have h3:=hf i0 f hfi;rw[ah hi0,ho] at h3;obtain⟨Xs,k1,k2⟩:=IR hΘ d h1 h3;obtain⟨Ys,k3,k4,k5⟩:=ih (off+P.cellsOf f.type) (i0+1) _ h2 (fun i g hgi=>by have:=hg (i+1) g hgi; rw[show i0+1+i=i0+(i+1) by omega]; exact this);have hkl:=C8 k1;have hcl:=k2.len;rw[bq,bO,hkl,bq] at hcl;have hq:P.cellsOf f.type<=cs.length-off:=by omega
     refine⟨Xs++Ys,?_,?_,?_⟩
     ·have:=KV k1 k3
      rwa [cX] at this
     ·have hsplit: (cs.drop off).take ks.length=((cs.drop off).take (P.cellsOf f.type))++((cs.drop (off+P.cellsOf f.type)).take (ks.drop (P.cellsOf f.type)).length):=by
       rw[bO,<-cj];have :ks.length=P.cellsOf f.type+(ks.length-P.cellsOf f.type):=by omega
       conv=>lhs; rw[this]
       exact List.take_add
      rw[hsplit];exact k2.app k4
     ·rw[bO] at k5;omega
   obtain⟨Xs,k1,k2,k3⟩:=gE fs.toList 0 0 ks hb (fun i f hi=>by rw[bB] at hi; simpa using hi);refine⟨Xs,k1,?_⟩
   have hfull: (cs.drop 0).take ks.length=cs:=by rw[bJ];exact bh (by omega)
   rwa [hfull] at k2
  ·cases hb
end
end
section
open Go Go.ChangeShapes Go.WideShapes Go.RowKit
theorem C9 (t:Ty) (x:t.D):t.unflat (t.flat x)=some x:=by
 cases t with
 |st n=>cases n<;>rfl
 |i k=>simp[Ty.unflat,Ty.flat,gI,gN]
 |b=>rfl
 |s=>rfl
 |ls u=>simp[Ty.unflat,Ty.flat,gL,gN]
theorem Q3 (l:List C):Ix (l.map Cl.c)=some l:=by
 induction l with
 |nil=>rfl
 |cons a l ih=>simp[Ix,ih]
theorem Uz {ρ:Type} (t:Ty) (x:t.D) (κ:t.D->Option ρ):un t (Kv t x) κ=κ x:=by
 unfold Kv;cases hag:t.ag with
 |true=>simp only[cond_true,un,hag,Q3,C9]
 |false=>
  simp only[cond_false];have h1: ∃c,t.flat x= [c] :=by cases t<;>first |exact⟨_,rfl⟩| (simp[Ty.ag] at hag)
  obtain⟨c,hc⟩:=h1;rw[hc];have:=C9 t x;rw[hc] at this;simp only[aZ,ct,un,hag,cond_false,this]
theorem Tc {ρ:Type} (t:Ty) (x:t.D) (κ:t.D->Option ρ):Vp t (Kv t x) κ=κ x:=by
 rw[<-Uz t x κ];cases t with
 |st n=>cases n<;>rfl
 | _=>rfl
theorem N0 {ρ:Type}: ∀ (l:List Ty) (x:sU.D (l.map .ty)) (κ:sU.D (l.map .ty)->Option ρ),Ff (l.map .ty) (nL (l.map .ty) x) κ=κ x
 | [],x,κ=>rfl
 |t::l,x,κ=>by show (Wd (.ty t) (Kv t x.1) fun a=>Ff (l.map .ty) (nL (l.map .ty) x.2) fun b=>κ (a,b))=κ x;show (Vp t (Kv t x.1) fun a=>Ff (l.map .ty) (nL (l.map .ty) x.2) fun b=>κ (a,b))=κ x;rw[Tc,N0 l x.2];rfl
def Wo: (l:List Ty)->sU.D (l.map .ty)->Prop
 | [],_=>True
 |t::l,x=>MB t x.1/\Wo l x.2
def Td (P:Program) (Θ:qG) (t:TypeId) (τ:Ty):Bool:=C7 P Θ 9 t τ.kc&&(match oA Θ t with |some ti=>decide (ti.ty=τ)|none=>false)&&P.readableRec t&&Nat.blt t P.types.size
def Fg (P:Program) (Θ:qG):List TypeId->List Ty->Bool
 | [],[] =>true
 |t::ts,τ::τs=>Td P Θ t τ&&Fg P Θ ts τs
 | _,_=>false
section
variable {H:Type} {enc:TypeId×Value->H} {P:Program} {W:World} {Θ:qG} {base:Nat}
theorem C.VR {c:C} {u:Value} {bt:Bt} (hA:bt.A=fun b=>b<W.heap.size) (h:RO W (fun b=>b<W.heap.size) c.tree u) (hg:c.good=true):En.VR W bt c.av u:=by
 cases c with
 |sc v=>
  cases h with
  |sc h=>exact .sc h
 |ls t l=>exact .ro (by rw[hA]; exact h)
theorem UA (hΘ:iq P Θ) {bt:Bt} (hA:bt.A=fun b=>b<W.heap.size) {t:TypeId} {τ:Ty} {v:Value} {d:DataW H} {p:List MemPlace} (hp:Td P Θ t τ=true) (hv:Value.okWide P W .any base t v) (h:DataW.Trod enc P W 0 (fun _=>true) true t v d p):
  ∃x:τ.D,VR W bt (Kv τ x).av v/\MB τ x:=by
 unfold Td at hp;simp only[aq] at hp;obtain⟨⟨⟨h1,h2⟩,h3⟩,h4⟩:=hp;split at h2
 case h_2=>cases h2
 rename_i ti hti;have h2:=of_decide_eq_true h2;subst h2;have hok:=hΘ t ti hti;obtain⟨n,hn⟩:=h;obtain⟨Xs,k1,k2⟩:=IR hΘ 9 h1 hn;obtain⟨x,rfl⟩:=HH _ k1
 have bd:MB ti.ty x:=by intro y hy;rw[Ty.row_flat] at hy;obtain⟨c,hc,rfl⟩:=aM.1 hy;exact k2.bd c hc
 have good: ∀c∈ti.ty.flat x,c.good=true:=by
  intro c hc;have:=k2.bd c hc;cases c with
  |sc v=>cases this<;>rfl
  |ls t l=>rfl
 refine⟨x,?_,bd⟩;have hag:=hok.ag;unfold Kv;cases ha:ti.ty.ag with
 |true=>
  rw[ha] at hag
  have hst: ∃fs,P.underlying t=some (.struct fs):=by
   have hpl:=hok.pl ha;unfold C7 at h1;split at h1
   ·rename_i hu; simp[F5,hu] at hag
   ·rename_i hu; simp[F5,hu] at hag
   ·rename_i hu; simp[F5,hu] at hag
   ·rename_i fs hu; exact⟨fs,hu⟩
   ·cases h1
  obtain⟨fs,hu⟩:=hst;obtain⟨us,rfl,_⟩:=okWide_struct hu hv;simp only[cond_true,V1.av];have : (Value.agg us)= .agg us.toList.toArray:=by simp
  rw[this];have hus: (Value.agg us).cells.toList=us.toList:=rfl;rw[hus] at k2;refine .agg (by simp[k2.len]) k2.one fun k c u hk hu=> ?_;simp only[bE,ar,ak] at hk;obtain⟨c',hc,rfl⟩:=hk;exact C.VR hA (k2.ro k c' u hc hu) (good c' (ao hc))
 |false=>
  rw[ha] at hag
  have hcells:v.cells.toList= [v] :=by
   unfold C7 at h1;split at h1
   ·rename_i hu; obtain⟨_,rfl⟩:=okWide_int hu hv; rfl
   ·rename_i hu; obtain⟨_,rfl⟩:=okWide_bool hu hv; rfl
   ·rename_i hu; obtain⟨_,_,_,rfl⟩:=okWide_slice hu hv; rfl
   ·rename_i fs hu; simp[F5,hu] at hag
   ·cases h1
  rw[hcells] at k2;have hl:=k2.len;obtain⟨c,hc⟩:=List.length_eq_one_iff.1 hl;simp only[cond_false,hc,aZ,ct,V1.av];exact C.VR hA (k2.ro 0 c v (by rw[hc]; rfl) rfl) (good c (by rw[hc]; exact az.2 rfl))
theorem N1 (hΘ:iq P Θ) {bt:Bt} (hA:bt.A=fun b=>b<W.heap.size): ∀ {ts:List TypeId} {τs:List Ty} {vs:List Value} {ds:List (DataW H)} {p:List MemPlace},Fg P Θ ts τs=true->(∀ (j:Nat) t v,ts[j]? =some t->vs[j]? =some v->Value.okWide P W .any base t v)->DataW.TrodAll enc P W 0 (fun _=>true) true ts vs ds p->
  ∃x:sU.D (τs.map .ty),vs.length=τs.length/\(∀ (k:Nat) (v:AV) (u:Value),((nL (τs.map .ty) x).map V1.av)[k]? =some v->vs[k]? =some u->VR W bt v u)/\Wo τs x
 | [],[],vs,ds,p,_,_,h=>by obtain⟨rfl,_,_⟩:=trodAll_nil h;exact⟨(),rfl,fun k v u hk hu=>(by cases hu),trivial⟩
 |t::ts,τ::τs,vs,ds,p,hb,hv,h=>by
  obtain⟨v,vs',d,ds',q,q',rfl,rfl,rfl,h1,h2⟩:=trodAll_cons h;unfold Fg at hb;simp only[aq] at hb;obtain⟨x,k1,k2⟩:=UA hΘ hA hb.1 (hv 0 t v rfl rfl) h1;obtain⟨y,k3,k4,k5⟩:=N1 hΘ hA hb.2 (fun j t' v' ht hv'=>hv (j+1) t' v' ht hv') h2;refine⟨(x,y),by simp[k3],fun k v' u hk hu=> ?_,k2,k5⟩;cases k with
  |zero=>have hk:some (Kv τ x).av=some v':=hk;cases hk;cases hu;exact k1
  |succ k=>exact k4 k v' u hk hu
 | [],_::_,_,_,_,hb,_,_=>by cases hb
 | _::_,[],_,_,_,hb,_,_=>by cases hb
theorem zF {W':World} (hl:laidOutB P=true) (hb:Below W.heap.size W W'): ∀ {ts:List TypeId} {τs:List Ty} {vs:List Value} {ds:List (DataW H)} {p:List MemPlace},Fg P Θ ts τs=true->DataW.TrodAll enc P W 0 (fun _=>true) true ts vs ds p->DataW.TrodAll enc P W' 0 (fun b=>decide (b<W.heap.size)) true ts vs ds p
 | [],[],vs,ds,p,_,h=>by obtain⟨rfl,rfl,rfl⟩:=trodAll_nil h;exact rfl
 |t::ts,τ::τs,vs,ds,p,hp,h=>by obtain⟨v,vs',d,ds',q,q',rfl,rfl,rfl,h1,h2⟩:=trodAll_cons h;unfold Fg Td at hp;simp only[aq] at hp;obtain⟨⟨⟨_,hr⟩,hs⟩,hrest⟩:=hp;refine trodAll_cons_mk (Below.trod hl hr (aA hs) h1 hb ?_) (zF hl hb hrest h2);intro x hx;obtain⟨m,hm⟩:=h1;exact DataW.trod_lt m _ _ _ hm x hx
 | [],_::_,_,_,_,hb,_=>by cases hb
 | _::_,[],_,_,_,hb,_=>by cases hb
theorem OW (hΘ:iq P Θ) {f:FuncId} {τs:List Ty} {G:sU.D (τs.map .ty)->Option (vj.D [.b])} (he:Bm P f (QW (τs.map .ty) [.b] G)) (hG: ∀x,Wo τs x->G x=some (true,()))
  {ts:List TypeId} {vs:List Value} {ds:List (DataW H)} {p:List MemPlace} (hp:Fg P Θ ts τs=true) (hv: ∀ (j:Nat) t v,ts[j]? =some t->vs[j]? =some v->Value.okWide P W .any base t v) (h:DataW.TrodAll enc P W 0 (fun _=>true) true ts vs ds p) (hk:Nat.blt f 1048576=true:=by rfl):
  Calls P f vs.toArray W fun e W'=>e= .returned (.bool true)/\Below W.heap.size W W':=by
 let bt:Bt:=⟨fun _=>0,fun _=>0,fun _=>0,0,0,fun b=>b<W.heap.size⟩
 obtain⟨x,h1,h2,h3⟩:=N1 (bt:=bt) hΘ rfl hp hv h;have hg:=hG x h3
 obtain⟨res,out,k1,k2,k3⟩:=he (nL (τs.map .ty) x) (V×List fr) (fun v g=>some (v,g)) (.v (.cl (.c (.sc (.bool true)))),[]) (by unfold QW;rw[N0,hg];rfl)
 cases k3
 have:=k1.fn (aA hk) W (fun _=>False) bt vs (Nt W bt fun b hb=>hb) (by
  rw[h1,aD];clear h1 h2 h3 hg k1 hG he
  have : ∀ (l:List Ty) (x:sU.D (l.map .ty)),l.length=(nL (l.map .ty) x).length:=by
   intro l
   induction l with
   |nil=>intro x; rfl
   |cons t l ih=>intro x; show l.length+1=(nL (l.map .ty) x.2).length+1; rw[ih x.2]
  exact this τs x) h2
 refine this.2.mono fun e W' hx=> ?_;obtain⟨v,btn,rfl,hI,_,_,hvr⟩:=hx;refine⟨?_,wn hI⟩;cases hvr with
 |sc=>rfl
end
end
section
open Go
section
variable {α β σ ε:Type}
theorem iB {B:σ->Option (σ⊕ε)} (l:List α) (mk:Nat->β->σ) (J:Nat->β->Prop) (g:Nat->List α->β->ε)
  (hn: ∀b,J l.length b->B (mk l.length b)=some (.inr (g l.length [] b)))
  (hc: ∀k b x,l[k]? =some x->J k b->(∃b',B (mk k b)=some (.inl (mk (k+1) b'))/\J (k+1) b'/\g k (x::l.drop (k+1)) b=g (k+1) (l.drop (k+1)) b')\/B (mk k b)=some (.inr (g k (x::l.drop (k+1)) b))):
  ∀k b,k<=l.length->J k b->gQ B (mk k b)=some (g k (l.drop k) b):=by
 intro k b hk hJ;generalize hn0:l.length-k=n
 induction n generalizing k b with
 |zero=>
  obtain rfl:k=l.length:=by omega
  rw[xN,hn b hJ,List.drop_length];rfl
 |succ n ih=>
  have hlt:k<l.length:=by omega
  rw[bS hlt];rcases hc k b l[k] (ah hlt) hJ with ⟨b',h1,h2,h3⟩|h1
  ·rw[xN,h1,h3];exact ih (k+1) b' (by omega) h2 (by omega)
  ·rw[xN,h1];rfl
theorem sV {B:σ->Option (σ⊕ε)} (I:σ->Prop) (μ:σ->Nat) (E:ε->Prop)
  (h: ∀s,I s->(∃s',B s=some (.inl s')/\I s'/\μ s'<μ s)\/ ∃e,B s=some (.inr e)/\E e) {s:σ} (hs:I s): ∃e,gQ B s=some e/\E e:=by
 generalize hn:μ s=n
 induction n using Nat.strongRecOn generalizing s with
 | _ n ih=>
   rcases h s hs with ⟨s',h1,h2,h3⟩| ⟨e,h1,h2⟩
   ·rw[xN,h1];exact ih (μ s') (by omega) h2 rfl
   ·exact⟨e,by rw[xN,h1]; rfl,h2⟩
theorem en (x y:α):br true x y=x:=rfl
theorem eB (x y:α):br false x y=y:=rfl
theorem Q4 (b:Bool) (x y:α):br b x y=if b=true then x else y:=by cases b<;>rfl
theorem ei (p:Prop) [Decidable p] (x y:α):br (decide p) x y=if p then x else y:=by unfold br; by_cases h:p<;>simp[h]
theorem fB {p:Prop} [Decidable p] (h:p) (x y:α):eh p x y=x:=if_pos h
theorem ek (p:Prop) [Decidable p] (x y:α):eh p x y=if p then x else y:=rfl
end
theorem fP {n:Int} (h1: -9223372036854775808<=n) (h2:n<9223372036854775808):IntKind.wrap .i64 n=n:=by
 simp only[IntKind.wrap,IntKind.bits,IntKind.signed,ef];split
 ·rename_i h;have h:=of_decide_eq_true h;omega
 ·rename_i h;have h: ¬ (n % 2 ^ 64≥2 ^ (64-1)):=fun hh=>h (decide_eq_true hh);omega
theorem i5 {α:Type} {l:List α} {k:Nat} {x:α} (h:l[k]? =some x):k<l.length:=(ai.1 h).1
theorem xO {t:Ty} {l:List t.D} (h:MB (.ls t) l):l.length<=maxLen:=by
 have:=h (.sl t.width (l.map t.row)) (az.2 rfl);cases this with
 |sl hl _=>simpa using hl
theorem Q5 {t:Ty} {l:List t.D} (h:MB (.ls t) l) {x:t.D} (hx:x∈l):MB t x:=by
 have:=h (.sl t.width (l.map t.row)) (az.2 rfl);cases this with
 |sl _ h=>exact h (t.row x) (aM.2 ⟨x,hx,rfl⟩)
theorem rr {α:Type} {l:List α} {k:Nat} (y:α) (h:k<l.length): (l.set k y).take (k+1)=l.take k++ [y] :=by rw[bK,cD h];simp[List.take_set_of_le]
theorem Te {α ρ:Type} (l:List α) (n:Nat) (κ:List α×Unit->Option ρ):Uk l (Sg (κ ([],())) (eh ((([]:List α)++l).length*n<=2 ^ 40) (κ (([]:List α)++l,())) none) none) (eh ((([]:List α)++l).length*n<=2 ^ 40) (κ (([]:List α)++l,())) none)=(eh (l.length*n<=2 ^ 40) (some (l,())) none).bind κ:=by
 cases l with
 |nil=>
  have :eh ((([]:List α)++ []).length*n<=2 ^ 40) (κ (([]:List α)++ [],())) none=κ ([],()):=by unfold eh;rw[if_pos (by simp)];rfl
  rw[this];show Sg _ _ _=_;rw[QA];unfold eh;rw[if_pos (by simp)];rfl
 |cons x l=>show eh _ _ _=_;simp only[bo];unfold eh;split<;>rfl
end
end Go.Proofs.YtjnleglhcppgcaaGreat.En
