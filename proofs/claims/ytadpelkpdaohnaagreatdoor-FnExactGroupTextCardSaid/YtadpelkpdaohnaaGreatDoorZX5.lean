import Derived.Test.YtadpelkpdaohnaaGreatDoorZX4
namespace Go.Proofs.YtadpelkpdaohnaaGreatDoor.En
section
open Go Go.RowKit
section
variable {P:Program} {w0 w w':World} {W:Nat->Prop} {btI bt bt':Bt} {SI S S' SV:St} {a a':Act} {D:mu} {Q:Exit->Act->World->Prop} {ops:Array Oper} {ms:List gm}
def nG (ops:Array Oper) (S:St) (i:Nat):Nat:=S.nb-1-eJ (ops.toList.drop (i+1))
def uK (ops:Array Oper) (S:St) (L:Array Bool) (n:Nat):Bool:=(List.range ops.size).any fun i=>match ops[i]? with |some o=>eO o&& !L.getD i false&&(nG ops S i==n)|none=>false
def uL (ops:Array Oper) (S:St) (L:Array Bool) (n:Nat):Option (List AV):=if uK ops S L n then none else S.bx n
theorem jz {S:St} {L:Array Bool} {n:Nat}:uK ops S L n=true↔ ∃i o,ops[i]? =some o/\eO o=true/\L.getD i false=false/\nG ops S i=n:=by
 unfold uK;rw[bN];constructor
 ·rintro⟨i,_,h⟩
  cases ho:ops[i]? with
  |none=>rw[ho] at h; cases h
  |some o=>rw[ho] at h;simp only[ao,bL,beq_iff_eq] at h;exact⟨i,o,ho,h.1.1,h.1.2,h.2⟩
 ·rintro⟨i,o,ho,h1,h2,h3⟩
  refine⟨i,bk.2 (aD.1 ho).1,?_⟩;rw[ho];simp[h1,h2,h3]
def sy (ops:Array Oper) (S SV:St) (ms:List gm) (L:Array Bool):St:= { S with env:=fg ops S SV L,bx:=uL ops S L,gh:=tL S ms L,ng:=SV.ng }
abbrev G4:AV->AV:=fun v=>v
def Iq (w0:World) (W:Nat->Prop) (btI:Bt) (SI:St) (D:mu) (P:Program) (ops:Array Oper) (S SV S':St) (ms:List gm) (M:Bool) (L:Array Bool) (a:Act) (w:World):Prop:=
 (∃bt,(∀i o,ops[i]? =some o->dF o=true->L.getD i false=false)/\Lv w0 W btI SI bt (sy ops S SV ms L) a w/\ ∀ (p:eb) (c:Nat),S.ng<=p.r->ll ms p.r=some c->L.getD c false=false->bt.κ p=0)\/
 (∃bt k Sm,∃K:AV->AV,(∀i o,ops[i]? =some o->dF o=false->kw o=true->L.getD i false=true)/\(∀i o,ops[i]? =some o->dF o=true->(L.getD i false=true↔i<k))/\v7 D P ops (ops.toList.drop k) Sm=some S'/\Sm.env=(fun t=>K (SV.env t))/\Sm.nt=S.nt/\
   (∀i o t x n,ops[i]? =some o->o.op= .load t x->L.getD i false=false->ew Sm n (jd ops.toList (eY ops.toList) S SV i x)=ew SV n (jd ops.toList (eY ops.toList) S SV i x))/\Lv w0 W btI SI bt { Sm with env:=fun t=>K (fg ops S SV L t) } a w/\(M=true->K=G4)/\(∀v,ul v=true->K v=v)/\(M=false-> ∀i oi,ops[i]? =some oi->dF oi=false->L.getD i false=false->nE ops.toList (eY ops.toList) S SV i oi=true))\/
 (∃bt k Sm,(∀i o,ops[i]? =some o->dF o=false->L.getD i false=true)/\(∀i o,ops[i]? =some o->dF o=true->(L.getD i false=true↔i<k))/\v7 D P ops (ops.toList.drop k) Sm=some S'/\Lv w0 W btI SI bt Sm a w)
theorem zS {all:Array Oper}: ∀ (n k:Nat) (S:St),(∀i o,k<=i->i<k+n->ops.toList[i]? =some o->dF o=false)->v7 D P all (ops.toList.drop k) S=v7 D P all (ops.toList.drop (k+n)) S:=by
 intro n
 induction n with
 |zero=>intro k S _; rfl
 |succ n ih=>
  intro k S h;cases hk:ops.toList[k]? with
  |none=>
   have h1:ops.toList.length<=k:=by simpa using hk
   rw[cc h1,cc (by omega)]
  |some o=>have hlt:=(ai.1 hk).1;have ho:=(ai.1 hk).2;rw[bQ hlt,ho];simp only[v7,h k o (aw _) (by omega) hk,aX,if_false];rw[ih (k+1) S (fun i o h1 h2=>h i o (by omega) (by omega)),show k+1+n=k+(n+1) by omega]
theorem BM (hD:jN P D) (hm:P.follows .mixedOrders=true) (hok:uC P ops=true) {id:Nat} {Sp:St} (hpre:xL P ops.toList Sp=some S) (h:Lv w0 W btI SI bt Sp a w) (hV:uk D P ops ops.toList S=some (SV,ms)) (hev:BB (qj P) ops.toList (eY ops.toList) S ms SV=true) (hS:v7 D P ops ops.toList SV=some S')
  (hK: ∀bt' a' w',Lv w0 W btI SI bt' S' a' w'->Q .normal a' w'): (Code.region id ops true).wp P Q a w:=by
 have ok:=zJ hok;obtain⟨pr1,pr2,pr3,pr4,pr5⟩:=qO _ _ _ hpre;have sgh:S.gh=Sp.gh:=by rw[pr1]
 have sng:S.ng=Sp.ng:=by rw[pr1]
 have sfz:S.fz=Sp.fz:=by rw[pr1]
 have sev:S.env=Sp.env:=by rw[pr1]
 have hgh: ∀r t,S.gh r=some t->r<S.ng:=fun r t ht=>by rw[sng]; rw[sgh] at ht; exact h.inv.gh r t ht
 have hfzI:S.fz=SI.fz:=sfz.trans h.fz;have hfzg:S.fz<=S.ng:=by rw[sfz,sng]; exact h.fzng
 have lab: ∀i o,ops[i]? =some o->eO o=true->nG ops S i<S.nb/\Sp.nb<=nG ops S i/\S.nb=nG ops S i+1+eJ (ops.toList.drop (i+1)):=by intro i o ho hb;have h1:=w8 (l:=ops.toList) (k:=i) (by simpa using ho) hb;have h2:=tg ops.toList i;unfold nG;omega
 have labInj: ∀i j o o',ops[i]? =some o->ops[j]? =some o'->eO o=true->eO o'=true->nG ops S i=nG ops S j->i=j:=by
  have half: ∀i j o o',ops[i]? =some o->ops[j]? =some o'->eO o=true->eO o'=true->i<j->nG ops S i≠nG ops S j:=by intro i j o o' ho ho' hb hb' hij he;have a1:=(lab i o ho hb).2.2;have a2:=(lab j o' ho' hb').2.2;have a3:=w8 (l:=ops.toList) (k:=j) (by simpa using ho') hb';have a4:=zR (l:=ops.toList) (i:=i+1) (j:=j) hij;omega
  intro i j o o' ho ho' hb hb' he;rcases Nat.lt_trichotomy i j with hlt|rfl|hlt
  ·exact absurd he (half i j o o' ho ho' hb hb' hlt)
  ·rfl
  ·exact absurd he.symm (half j i o' o ho' ho hb' hb hlt)
 have bxOf: ∀n cs,S.bx n=some cs->(n<Sp.nb/\Sp.bx n=some cs)\/ ∃ (k:Nat) (o:Oper) (zs:List Value),ops[k]? =some o/\eO o=true/\n=nG ops S k/\cs=zs.map vZ:=by
  intro n cs hn;by_cases hlt:n<Sp.nb
  ·exact .inl ⟨hlt,by rw[<-pr3 n hlt]; exact hn⟩
  ·rcases pr4 n cs (by omega) hn with h1| ⟨k,o,zs,q1,q2,q3,q4⟩
   ·exact absurd (h.inv.bx n cs h1).1 hlt
   ·exact .inr ⟨k,o,zs,by simpa using q1,q2,q3,q4⟩
 have hbxn: ∀n cs,S.bx n=some cs->n<S.nb:=by
  intro n cs hn;rcases bxOf n cs hn with ⟨h1,_⟩| ⟨k,o,zs,q1,q2,rfl,_⟩
  ·omega
  ·exact (lab k o q1 q2).1
 have old: ∀n,n<S.nb-eJ ops.toList->n<Sp.nb:=by intro n hn;omega
 have oldL: ∀ (L:Array Bool) n,n<Sp.nb->uL ops S L n=S.bx n:=by intro L n hn;unfold uL;rw[if_neg];intro hw;obtain⟨i,o,ho,hb,_,he⟩:=jz.1 hw;have:=(lab i o ho hb).2.1;omega
 have fullB: ∀L:Array Bool,(∀i o,ops[i]? =some o->eO o=true->L.getD i false=true)->uL ops S L=S.bx:=by
  intro L hL
  funext n
  unfold uL;rw[if_neg];intro hw;obtain⟨i,o,ho,hb,hl,_⟩:=jz.1 hw;rw[hL i o ho hb] at hl;cases hl
 have tl: ∀ {i:Nat} {o:Oper},ops.toList[i]? =some o↔ops[i]? =some o:=by intro i o;rw[cj]
 have hpw:ops.toList.Pairwise (fun x y=> ∀d,x.dst=some d->y.dst≠some d):=by rw[bR];intro i j hi hj hij d h1 h2;have:=ok.dst i j _ _ d (tl.1 (ah hi)) (tl.1 (ah hj)) h1 h2;omega
 obtain⟨f0,f1,fN,f2,f5,f6,f3⟩:=DM ops.toList S SV ms hpw hV;have hb: ∀ (k:Nat) (m:gm),ms[k]? =some m->S.ng<=m.b:=fun k m hk=>(f5 k m hk).1;have hbN: ∀ (k:Nat) (m:gm),ms[k]? =some m->m.b+m.adds.length<=SV.ng:=fun k m hk=>(f5 k m hk).2.1;have hd: ∀ (k j:Nat) (m m':gm),ms[k]? =some m->j<k->ms[j]? =some m'->m'.b+m'.adds.length<=m.b:=fun k j m m' hk hj hm=>(f5 k m hk).2.2 j m' hj hm;have hlen:ms.length=ops.size:=by simpa using f0
 unfold BB at hev;simp only[ao] at hev;obtain⟨⟨⟨hev1,hev2⟩,hev3⟩,hev4⟩:=hev
 have hc: ∀ (k:Nat) (m:gm) (r:Nat),ms[k]? =some m->r∈m.cons->r<S.ng->S.fz<=r:=by intro k m r hk hr hlt;have:=au.1 (au.1 hev1 m (aq hk)) r hr;simp only[bg,decide_eq_true_eq] at this;omega
 have hsay: ∀ (i:Nat) (o:Oper) (x:Operand) (r:Nat),ops[i]? =some o->dF o=false->x∈o.op.operands->r∈j9 (jd ops.toList (eY ops.toList) S SV i x)->(∀j∈nD ms r,j=i\/i∈(eY ops.toList).getD j [])/\(r<S.ng\/ ∃c,ll ms r=some c/\c∈(eY ops.toList).getD i []):=by
  intro i o x r hi hs hx hr;have hin:=(aD.1 hi).1;have:=au.1 hev2 i (bk.2 (by simpa using hin));simp only[tl.2 hi,hs,cB] at this;have:=au.1 this r (cY.2 ⟨x,by simpa using hx,hr⟩);simp only[ao,bg,decide_eq_true_eq,au,beq_iff_eq,bh] at this;refine⟨this.1,?_⟩;rcases this.2 with h|h
  ·exact .inl h
  ·right;split at h
   ·rename_i c hcm;exact⟨c,hcm,bh.1 h⟩
   ·cases h
 have ln: ∀f,qG ops.toList (eY ops.toList) f=true-> ∀ (i j:Nat) (oi oj:Oper),ops[i]? =some oi->ops[j]? =some oj->dF oj=true->dF oi=false->i∉(eY ops.toList).getD j [] ->f i j oi oj=true:=by intro f hf i j oi oj hi hj hsj hsi hnb;have h1:=au.1 hf j (bk.2 (by simpa using (aD.1 hj).1));simp only[tl.2 hj,hsj,bq,cB] at h1;have h2:=au.1 h1 i (bk.2 (by simpa using (aD.1 hi).1));simp only[tl.2 hi,hsi,cB,bg,bh] at h2;exact h2.resolve_left hnb
 obtain⟨M,hM⟩: ∃M,M=qG ops.toList (eY ops.toList) (oy (qj P) ops.toList (eY ops.toList) S SV):=⟨_,rfl⟩
 have hloose:M=true-> ∀ (i j:Nat) (oi oj:Oper),ops[i]? =some oi->ops[j]? =some oj->dF oj=true->dF oi=false->i∉(eY ops.toList).getD j [] ->oy (qj P) ops.toList (eY ops.toList) S SV i j oi oj=true:=
  fun h=>ln _ (by rw[<-hM]; exact h)
 have hlooseR:M=false-> ∀ (i j:Nat) (oi oj:Oper),ops[i]? =some oi->ops[j]? =some oj->dF oj=true->dF oi=false->i∉(eY ops.toList).getD j [] ->nE ops.toList (eY ops.toList) S SV i oi=true:=by intro h;rw[<-hM,h,cB] at hev3;exact ln (fun i _ oi _=>nE ops.toList (eY ops.toList) S SV i oi) hev3
 have told:=E9 (S:=S) (ms:=ms) hgh hb hd
 have hboxP: ∀ (i:Nat) (o:Oper),ops[i]? =some o->dF o=false->eO o=false->(∀x∈o.op.operands,iA (fun n=>Nat.blt n (S.nb-eJ ops.toList)) (jd ops.toList (eY ops.toList) S SV i x)=true)/\ ∀d,o.dst=some d->iA (fun n=>Nat.blt n (S.nb-eJ ops.toList)) (SV.env d)=true:=by
  intro i o hi hs hb;have h1:=au.1 hev4 i (bk.2 (by simpa using (aD.1 hi).1));simp only[tl.2 hi,hs,hb,cB,ao] at h1;refine⟨fun x hx=> ?_,fun d hd=> ?_⟩
  ·have h3:=au.1 h1.1 x (by simpa using hx);simp only[ao] at h3;exact h3.1
  ·have h2:=h1.2;rw[hd] at h2;exact h2
 have hfreeP: ∀ (i:Nat) (o:Oper),ops[i]? =some o->dF o=false->eO o=false->kO o=true-> ∀x∈o.op.operands,iA (zo S ms) (jd ops.toList (eY ops.toList) S SV i x)=true:=by intro i o hi hs hb hfn x hx;have h1:=au.1 hev4 i (bk.2 (by simpa using (aD.1 hi).1));simp only[tl.2 hi,hs,hb,cB,ao] at h1;have h3:=au.1 h1.1 x (by simpa using hx);simp only[hfn,bq,cB,ao] at h3;exact h3.2
 have agreeV: ∀ (i:Nat) (o:Oper) (env:Nat->AV),ops[i]? =some o->(∀ (t:Nat) (j:Nat) (oj:Oper),j<i->ops.toList[j]? =some oj->dF oj=false->oj.dst=some t->env t=SV.env t)->(∀t,(∀ (j:Nat) (oj:Oper),j<i->ops.toList[j]? =some oj->dF oj=false->oj.dst≠some t)->env t=S.env t)->
   ∀t∈o.looksAt ops,env t=rm ops.toList ((eY ops.toList).getD i []) S SV t:=by
  intro i o env ho g1 g2 t ht;have hin:=(aD.1 ho).1;unfold rm;split
  ·rename_i hany;obtain⟨j,hj,hjd⟩:=bN.1 hany;cases hoj:ops.toList[j]? with
   |none=>rw[hoj] at hjd; simp at hjd
   |some oj=>
    rw[hoj] at hjd;have hdj:oj.dst=some t:=by simpa using hjd
    have hsj:dF oj=false:=by
     cases hx:dF oj with
     |false=>rfl
     |true=>rw[(ok.st j oj (tl.1 hoj) hx).1] at hdj; cases hdj
    exact g1 t j oj (ok.lt i j hin hj) hoj hsj hdj
  ·rename_i hany;refine g2 t (fun j oj hj hoj _ hdj=> ?_);rcases ok.look j i oj o t (tl.1 hoj) ho hdj ht with h| ⟨_,h|h⟩
   ·exact hany (bN.2 ⟨j,h,by rw[hoj]; simp[hdj]⟩)
   ·omega
   ·have:=ok.lt j i (aD.1 (tl.1 hoj)).1 h;omega
 have opdV: ∀ (i:Nat) (o:Oper) (X:St),ops[i]? =some o->(∀t∈o.looksAt ops,X.env t=rm ops.toList ((eY ops.toList).getD i []) S SV t)-> ∀x∈o.op.operands,opd X x=jd ops.toList (eY ops.toList) S SV i x:=by
  intro i o X ho hX x hx;cases x with
  |tmp t=>exact hX t (bP _ (cw.2 ⟨.tmp t,by simpa using hx,rfl⟩))
  | _=>rfl
 have hcons0: ∀ (j:Nat) (m:gm) (r:Nat),ms[j]? =some m->r∈m.cons->(∀j'∈nD ms r,j'=j\/j∈(eY ops.toList).getD j' [])/\(r<S.ng\/ ∃c,ll ms r=some c/\c∈(eY ops.toList).getD j []):=by
  intro j m r hj hr;have hjn:j<ops.size:=by rw[<-hlen]; exact (ai.1 hj).1
  have hoj:ops[j]? =some ops[j] :=aI hjn;cases hso:dF ops[j] with
  |true=>have:=(f6 j _ m (tl.2 hoj) hj hso).2;rw[this] at hr;cases hr
  |false=>
   obtain⟨env,b,m',g0,g1,g2,g3,g4,g5,g6,g7,g8⟩:=f3 j _ (tl.2 hoj) hso;rw[hj] at g0;simp only[ae] at g0;subst g0;cases hbb:b with
   |false=>rw[(g7 hbb).2.1] at hr; cases hr
   |true=>
    cases hnn:ez ops[j] with
    |false=>
     have hcn:m.cons= [] :=by
      cases hxb:eO ops[j] with
      |true=>exact (g8 hxb).2.2.1
      |false=>obtain⟨_,_,_,hcn,_⟩:=g6 hbb hnn hxb;exact hcn
     rw[hcn] at hr;cases hr
    |true=>obtain⟨v,hst,_⟩:=g5 hbb hnn;obtain⟨x,hx,hrx⟩:=BI hst r hr;have hagr:=agreeV j _ env hoj g1 g2;rw[opdV j _ { S with env:=env,gh:=pe S.gh (ms.take j),ng:=m.b } hoj hagr x hx] at hrx;exact hsay j _ x r hoj hso hx hrx
 have hcons: ∀ (j:Nat) (m:gm) (r:Nat),ms[j]? =some m->r∈m.cons->(r<S.ng\/ ∃c,ll ms r=some c/\c∈(eY ops.toList).getD j [])/\ ∀j'∈nD ms r,j'=j:=by
  intro j m r hj hr;obtain⟨q1,q2⟩:=hcons0 j m r hj hr;refine⟨q2,fun j' hj'=> ?_⟩;obtain⟨m',p1,p2⟩:=DP hj';have l1:j<ops.size:=by rw[<-hlen]; exact (ai.1 hj).1
  have l2:j'<ops.size:=by rw[<-hlen]; exact (ai.1 p1).1
  rcases q1 j' hj' with e|e
  ·exact e
  ·rcases (hcons0 j' m' r p1 p2).1 j (qK hj hr) with e'|e'
   ·exact e'.symm
   ·have:=ok.lt _ _ l1 e';have:=ok.lt _ _ l2 e;omega
 have heavy: ∀ (c:Nat) (m:gm) (o:Oper),ms[c]? =some m->ops[c]? =some o->(0<m.adds.length\/ ∃r,r∈m.cons)->dF o=false/\ez o=true:=by
  intro c m o hm ho hor;cases hs:dF o with
  |true=>
   obtain⟨e1,e2⟩:=f6 c o m (tl.2 ho) hm hs;rw[e1,e2] at hor;rcases hor with h| ⟨r,h⟩
   ·simp at h
   ·cases h
  |false=>
   refine⟨rfl,?_⟩;obtain⟨env,b,m',g0,g1,g2,g3,g4,g5,g6,g7,g8⟩:=f3 c o (tl.2 ho) hs;rw[hm] at g0;simp only[ae] at g0;subst g0;cases hn:ez o with
   |true=>rfl
   |false=>
    exfalso
    have :m.adds= [] /\m.cons= [] :=by
     cases hb:b with
     |true=>
      cases hxb:eO o with
      |true=>exact⟨(g8 hxb).2.1,(g8 hxb).2.2.1⟩
      |false=>obtain⟨_,_,e1,e2,_⟩:=g6 hb hn hxb; exact⟨e1,e2⟩
     |false=>obtain⟨e1,e2,_⟩:=g7 hb; exact⟨e1,e2⟩
    rw[this.1,this.2] at hor;rcases hor with h| ⟨r,h⟩
    ·simp at h
    ·cases h
 have ghFull: ∀L:Array Bool,(∀i o,ops[i]? =some o->dF o=false->ez o=true->L.getD i false=true)->tL S ms L=SV.gh:=by
  intro L hL;rw[f1];simp only
  funext r
  have tk:=told ms.length (aw _) r;rw[bH] at tk;unfold tL;by_cases hr:r<S.ng
  ·rw[if_pos hr];by_cases htk:ib ms L r=true
   ·rw[if_pos htk];obtain⟨j,m',p1,p2,p3⟩:=gM.1 htk;exact ((tk.1 hr).2 j m' p1 (ai.1 p1).1 p3).symm
   ·rw[if_neg htk];refine ((tk.1 hr).1 (fun j m' p1 hjl p3=>htk (gM.2 ⟨j,m',p1,?_,p3⟩))).symm;have hjo:ops[j]? =some (ops[j]'(by omega)):=aI _;obtain⟨hns',hnw'⟩:=heavy j m' _ p1 hjo (.inr ⟨r,p3⟩);exact hL j _ hjo hns' hnw'
  ·rw[if_neg hr];cases hmk:ll ms r with
   |none=>simp only; rw[tk.2.1 (by omega) hmk]
   |some c=>
    simp only;obtain⟨m,q1,q2,q3⟩:=(gD hd).1 hmk;have hcl:c<ms.length:=(ai.1 q1).1;have hco:ops[c]? =some (ops[c]'(by omega)):=aI _;obtain⟨hns,hnw⟩:=heavy c m _ q1 hco (.inl (by omega));rw[hL c _ hco hns hnw];have t3:=tk.2.2 c (by omega) hmk;by_cases htk:ib ms L r=true
    ·rw[htk];obtain⟨j,m',p1,p2,p3⟩:=gM.1 htk;obtain⟨c',p4,p5⟩:=(hcons j m' r p1 p3).1.resolve_left (by omega);rw[hmk] at p4;simp only[ae] at p4;subst p4;have hjl:=(ai.1 p1).1;rw[t3.2.2 j m' p1 (ok.lt j c (by omega) p5) hjl p3];rfl
    ·have :ib ms L r=false:=by simpa using htk
     rw[this];simp only[Bool.not_false,c7,if_true];refine (t3.2.1 hcl (fun j m' p1 _ hjl p3=>htk (gM.2 ⟨j,m',p1,?_,p3⟩))).symm;have hjo:ops[j]? =some (ops[j]'(by omega)):=aI _;obtain⟨hns',hnw'⟩:=heavy j m' _ p1 hjo (.inr ⟨r,p3⟩);exact hL j _ hjo hns' hnw'
 have hSV: ∀E:Nat->AV,({ SV with env:=E }:St)= { S with env:=E,gh:=SV.gh,ng:=SV.ng } :=by
  intro E;have b1:SV.bx=S.bx:=by rw[f1]
  have b2:SV.nb=S.nb:=by rw[f1]
  have b3:SV.fz=S.fz:=by rw[f1]
  have b4:SV.orc=S.orc:=by rw[f1]
  have b5:SV.nt=S.nt:=by rw[f1]
  show (⟨E,SV.bx,SV.gh,SV.nb,SV.ng,SV.fz,SV.orc,SV.nt⟩:St)=⟨E,S.bx,SV.gh,S.nb,SV.ng,S.fz,S.orc,S.nt⟩;rw[b1,b2,b3,b4,b5]
 have toN: ∀ {L:Array Bool},(∀i o,ops[i]? =some o->dF o=false->kw o=true->L.getD i false=true)-> ∀i o,ops[i]? =some o->dF o=false->ez o=true->L.getD i false=true:=
  fun hL i o h1 h2 h3=>hL i o h1 h2 (by unfold kw; rw[h3]; rfl)
 have boxNS: ∀ {o:Oper},eO o=true->dF o=false/\ez o=false:=by
  intro o hb;unfold eO at hb;split at hb
  ·rename_i t ht;unfold dF ez;rw[ht];exact⟨rfl,rfl⟩
  ·cases hb
 have full: ∀L:Array Bool,(∀i o,ops[i]? =some o->dF o=false->kw o=true->L.getD i false=true)->sy ops S SV ms L= { SV with env:=fg ops S SV L } :=by intro L hL;rw[hSV];unfold sy;rw[ghFull L (toN hL),fullB L (fun i o ho hb=>hL i o ho (boxNS hb).1 (by unfold kw; rw[hb,Bool.or_true]))]
 have envFull: ∀L:Array Bool,(∀i o,ops[i]? =some o->dF o=false->L.getD i false=true)->fg ops S SV L=SV.env:=by
  intro L hL
  funext t
  unfold fg;split
  ·rfl
  ·rename_i hn;refine (f2 t (fun o ho hs hdo=>hn ?_)).symm;obtain⟨i,hi,hio⟩:=aM ho;have hi':ops[i]? =some o:=tl.1 (by rw[<-hio]; exact ah hi);exact ik.2 ⟨i,o,hi',hL i o hi' hs,hdo⟩
 have none_left: ∀ (k:Nat) (Sm:St),(∀i o,k<=i->ops[i]? =some o->dF o=false)->v7 D P ops (ops.toList.drop k) Sm=some S'->Sm=S':=by intro k Sm hk he;rw[zS ops.toList.length k Sm (fun i o h1 _ h2=>hk i o h1 (tl.1 h2)),cc (by omega)] at he;simpa [v7] using he
 have fin: ∀L a w,(∀i,i<ops.size->L.getD i false=true)->Iq w0 W btI SI D P ops S SV S' ms M L a w->Q .normal a w:=by
  intro L a w hL hsim;have hall: ∀i o,ops[i]? =some o->dF o=false->L.getD i false=true:=fun i o hi _=>hL i (aD.1 hi).1
  have leftS: ∀ (bt:Bt) (k:Nat) (Sm:St),(∀i o,ops[i]? =some o->dF o=true->(L.getD i false=true↔i<k))->v7 D P ops (ops.toList.drop k) Sm=some S'->Lv w0 W btI SI bt Sm a w->Q .normal a w:=by
   intro bt k Sm h2 h3 h4
   have:=none_left k Sm (fun i o hk hi=>by
    cases hx:dF o with
    |false=>rfl
    |true=>have:=(h2 i o hi hx).1 (hL i (aD.1 hi).1);omega) h3
   exact hK _ _ _ (this ▸ h4)
  rcases hsim with ⟨bt,h1,h2,_⟩| ⟨bt,k,Sm,K,_,h2,h3,e1,_,_,h4,_⟩| ⟨bt,k,Sm,h1,h2,h3,h4⟩
  ·rw[full L (fun i o hi hs _=>hall i o hi hs),envFull L hall] at h2
   have:=none_left 0 SV (fun i o _ hi=>by
    cases hx:dF o with
    |false=>rfl
    |true=>have:=h1 i o hi hx;rw[hL i (aD.1 hi).1] at this;cases this) hS
   exact hK _ _ _ (this ▸ h2)
  ·rw[envFull L hall,<-e1] at h4;exact leftS bt k Sm h2 h3 h4
  ·exact leftS bt k Sm h2 h3 h4
 have hbx: ∀k cs,S.bx k=some cs-> ∀c∈cs,∀r∈j9 c,r<S.ng:=by
  intro k cs hk c hcm r hr;rcases bxOf k cs hk with ⟨_,hk'⟩| ⟨_,_,zs,_,_,_,rfl⟩
  ·obtain⟨_,_,arr,e,_,hsz,hcell⟩:=h.inv.bx k cs hk';obtain⟨j,hj,hjc⟩:=aM hcm;obtain⟨u,_,hu,_⟩:=hcell j c (by rw[<-hjc]; exact ah hj);have:=G1 hu r hr
   rwa [h.inv.ng,<-sng] at this
  ·obtain⟨x,_,rfl⟩:=aL.1 hcm;rw[Fd] at hr;cases hr
 have main: ∀ (fuel:Nat) (L:Array Bool) (rem:List Nat) (a:Act) (w:World),rem.length=fuel->rem.Nodup->(∀i,i∈rem↔i<ops.size/\L.getD i false=false)->L.size=ops.size->
   (∀j,j<ops.size->L.getD j false=true-> ∀i∈(eY ops.toList).getD j [],L.getD i false=true)->Iq w0 W btI SI D P ops S SV S' ms M L a w->wpAny P .any ops Q fuel L a w:=by
  have flip: ∀ (L:Array Bool) (i:Nat),L.size=ops.size->i<ops.size->(L.getD i true=L.getD i false):=by intro L i h1 h2;simp only[aQ];rw[aI (by omega)];rfl
  have nor: ∀ (L:Array Bool),L.size=ops.size->Region.ready .any ops L= [] -> ∀i,i<ops.size->L.getD i false=true:=by
   intro L hsz hr i
   induction i using Nat.strongRecOn with
   | _ i ih=>
     intro hi;cases hx:L.getD i false with
     |true=>rfl
     |false=>
      have hm:i∈Region.ready .any ops L:=by rw[mem_ready];refine⟨by rw[flip L i hsz hi]; exact hx,ops[i],aI hi,fun e he hb=> ?_⟩;have:=ok.on i _ e (aI hi) he hb;exact ih _ this (by omega)
      rw[hr] at hm;cases hm
  intro fuel
  induction fuel with
  |zero=>
   intro L rem a w hl _ hrem hsz hcl hsim
   have hall: ∀i,i<ops.size->L.getD i false=true:=by
    intro i hi;cases hx:L.getD i false with
    |true=>rfl
    |false=>have:=(hrem i).2 ⟨hi,hx⟩;rw[be hl] at this;cases this
   refine⟨?_,fin L a w hall hsim⟩;cases hr:Region.ready .any ops L with
   |nil=>rfl
   |cons i rs=>
    have hm:i∈Region.ready .any ops L:=by rw[hr]; exact aH
    obtain⟨h1,o,h2,_⟩:=mem_ready.1 hm;have hi:=(aD.1 h2).1;rw[flip L i hsz hi,hall i hi] at h1;cases h1
  |succ fuel ih=>
   intro L rem a w hl hnd hrem hsz hcl hsim;refine⟨fun hr=>fin L a w (nor L hsz hr) hsim,fun i hi=> ?_⟩;obtain⟨hun,o,ho,hpre⟩:=mem_ready.1 hi;have hin:=(aD.1 ho).1;rw[flip L i hsz hin] at hun
   have hB: ∀j∈(eY ops.toList).getD i [],L.getD j false=true:=by
    intro j hj;obtain⟨e,he,hb,hor⟩:=ok.edge i j o ho hj;have hl:=hpre e he hb;rcases hor with rfl|hor
    ·exact hl
    ·exact hcl e.on (Nat.lt_trans (ok.on i o e ho he hb) hin) hl j hor
   have hiL:i<L.size:=by omega
   have hset: ∀j,(L.setIfInBounds i true).getD j false=if j=i then true else L.getD j false:=fun j=>pf hiL
   have next: ∀a' w',Iq w0 W btI SI D P ops S SV S' ms M (L.setIfInBounds i true) a' w'->wpAny P .any ops Q fuel (L.setIfInBounds i true) a' w':=by
    intro a' w' hs';refine ih (L.setIfInBounds i true) (rem.erase i) a' w' ?_ (hnd.erase i) (fun j=> ?_) (by simpa using hsz) (fun j hj hjt k hk=> ?_) hs'
    ·rw[List.length_erase_of_mem ((hrem i).2 ⟨hin,hun⟩),hl];rfl
    ·rw[hnd.mem_erase_iff,hrem j,hset j];by_cases hji:j=i
     ·subst hji;simp
     ·simp[hji]
    ·rw[hset] at hjt ⊢;split at hjt
     ·rename_i hji;subst hji;split
      ·rfl
      ·exact hB k hk
     ·split
      ·rfl
      ·exact hcl j hj hjt k hk
   unfold wpOp;rw[ho];simp only;cases hst:dF o with
   |true=>
    obtain⟨hdn,hgn⟩:=ok.st i o ho hst
    have hheavy: ∀j oj,ops[j]? =some oj->dF oj=false->kw oj=true->L.getD j false=true:=by
     intro j oj hj hs hn
     have hji:j≠i:=by intro hji;subst hji;rw[ho] at hj;simp only[ae] at hj;rw[<-hj,hst] at hs;cases hs
     rcases ok.late j i oj o hj ho hji hst (.inl hs) with h|h
     ·exact hB j h
     ·rw[hn] at h;cases h.2
    have hls: ∀j oj,ops[j]? =some oj->dF oj=true->j<i->L.getD j false=true:=fun j oj hj hs hlt=>by
     rcases ok.late j i oj o hj ho (by omega) hst (.inr hlt) with h|h
     ·exact hB j h
     ·rw[hs] at h;cases h.1
    have hw:Region.wanted o (yielded ops a.tmps)=true:=by simp[Region.wanted,hgn]
    have stepS: ∀ (k:Nat) (Sm:St),(∀i o,ops[i]? =some o->dF o=true->(L.getD i false=true↔i<k))->v7 D P ops (ops.toList.drop k) Sm=some S'-> ∃S1,one D P Sm o=some S1/\v7 D P ops (ops.toList.drop (i+1)) S1=some S':=by
     intro k Sm h2 h3
     have hki:k<=i:=by
      cases bU i k with
      |inl hlt=>have:=(h2 i o ho hst).2 hlt;rw[hun] at this;cases this
      |inr h=>exact h
     have hskip:=zS (D:=D) (P:=P) (all:=ops) (ops:=ops) (i-k) k Sm (fun j oj h1 h2' h3'=>by
      cases hx:dF oj with
      |false=>rfl
      |true=>have:=(h2 j oj (tl.1 h3') hx).1 (hls j oj (tl.1 h3') hx (by omega));omega)
     rw[hskip,show k+(i-k)=i by omega,bQ (by simpa using hin)] at h3
     have hoi:ops.toList[i]'(by simpa using hin)=o:=by have:=(aD.1 ho).2;simpa using this
     rw[hoi] at h3;simp only[v7,hst,if_true] at h3;split at h3
     ·simp only[aj] at h3;exact h3
     ·cases h3
    have iff': ∀k,(∀i o,ops[i]? =some o->dF o=true->(L.getD i false=true↔i<k))-> ∀j oj,ops[j]? =some oj->dF oj=true->((L.setIfInBounds i true).getD j false=true↔j<i+1):=by
     intro k h2 j oj hj hs
     have hki:k<=i:=by
      cases bU i k with
      |inl hlt=>have:=(h2 i o ho hst).2 hlt;rw[hun] at this;cases this
      |inr h=>exact h
     rw[hset];split
     ·rename_i hji;simp[hji]
     ·rename_i hji;constructor
      ·intro hx;have:=(h2 j oj hj hs).1 hx;omega
      ·intro hx;exact hls j oj hj hs (by omega)
    by_cases hns: ∀j oj,ops[j]? =some oj->dF oj=false->L.getD j false=true
    ·obtain⟨bt,k,Sm,h2,h3,h4⟩: ∃bt k Sm,(∀i o,ops[i]? =some o->dF o=true->(L.getD i false=true↔i<k))/\v7 D P ops (ops.toList.drop k) Sm=some S'/\Lv w0 W btI SI bt Sm a w:=by
      rcases hsim with ⟨bt,h1,h2,_⟩| ⟨bt,k,Sm,K,_,h2,h3,e1,_,_,h4,_⟩| ⟨bt,k,Sm,_,h2,h3,h4⟩
      ·rw[full L hheavy,envFull L hns] at h2;exact⟨bt,0,SV,fun i o hi hs=>by rw[h1 i o hi hs]; simp,hS,h2⟩
      ·rw[envFull L hns,<-e1] at h4;exact⟨bt,k,Sm,h2,h3,h4⟩
      ·exact⟨bt,k,Sm,h2,h3,h4⟩
     obtain⟨S1,g1,g2⟩:=stepS k Sm h2 h3;rw[if_pos hw];refine .inl (nX hD h4 (ok.ok i o ho) g1 (fun bt' a' w' h'=>next a' w' (.inr (.inr ⟨bt',i+1,S1,fun j oj hj hs=> ?_,iff' k h2,g2,h'⟩))));rw[hset];split
     ·rfl
     ·exact hns j oj hj hs
    ·obtain⟨jp,ojp,hjp,hsp,hup⟩: ∃j oj,ops[j]? =some oj/\dF oj=false/\L.getD j false=false:=by
      apply Classical.byContradiction;intro hno;refine hns (fun j oj hj hs=> ?_);cases hx:L.getD j false with
      |true=>rfl
      |false=>exact absurd ⟨j,oj,hj,hs,hx⟩ hno
     obtain⟨bt,k,Sm,K,h2,h3,e1,e2,hmem,h4,hK1,hK2⟩: ∃bt k Sm,∃K:AV->AV,(∀i o,ops[i]? =some o->dF o=true->(L.getD i false=true↔i<k))/\v7 D P ops (ops.toList.drop k) Sm=some S'/\Sm.env=(fun t=>K (SV.env t))/\Sm.nt=S.nt/\
       (∀i o t x n,ops[i]? =some o->o.op= .load t x->L.getD i false=false->ew Sm n (jd ops.toList (eY ops.toList) S SV i x)=ew SV n (jd ops.toList (eY ops.toList) S SV i x))/\Lv w0 W btI SI bt { Sm with env:=fun t=>K (fg ops S SV L t) } a w/\(M=true->K=G4)/\(∀v,ul v=true->K v=v):=by
      rcases hsim with ⟨bt,h1,h2,_⟩| ⟨bt,k,Sm,K,_,h2,h3,e1,e2,hmem,h4,hK1,hK2,_⟩| ⟨bt,k,Sm,h1,_⟩
      ·rw[full L hheavy] at h2;exact⟨bt,0,SV,G4,fun i o hi hs=>by rw[h1 i o hi hs]; simp,hS,rfl,by rw[f1],fun _ _ _ _ _ _ _ _=>rfl,h2,fun _=>rfl,fun _ _=>rfl⟩
      ·exact⟨bt,k,Sm,K,h2,h3,e1,e2,hmem,h4,hK1,hK2⟩
      ·have:=h1 jp ojp hjp hsp;rw[hup] at this;cases this
     obtain⟨S1,g1,g2⟩:=stepS k Sm h2 h3
     have hlook: ∀t∈o.looksAt ops,fg ops S SV L t=SV.env t/\rm ops.toList ((eY ops.toList).getD i []) S SV t=SV.env t:=by
      intro t ht;by_cases hex: ∃ (j:Nat) (oj:Oper),ops[j]? =some oj/\oj.dst=some t
      ·obtain⟨j,oj,hj,hdj⟩:=hex
       have hbj:j∈(eY ops.toList).getD i [] :=by
        rcases ok.look j i oj o t hj ho hdj ht with h| ⟨h,_⟩
        ·exact h
        ·rw[hst] at h;cases h
       refine⟨?_,?_⟩
       ·unfold fg;rw[if_pos (ik.2 ⟨j,oj,hj,hB j hbj,hdj⟩)]
       ·unfold rm;rw[if_pos (bN.2 ⟨j,hbj,by rw[tl.2 hj]; simp[hdj]⟩)]
      ·have hno: ∀o∈ops.toList,dF o=false->o.dst≠some t:=fun o' ho' _ hdo=>by
        obtain⟨j,hj,hjo⟩:=aM ho';exact hex ⟨j,o',tl.1 (by rw[<-hjo]; exact ah hj),hdo⟩
       have:=f2 t hno;refine⟨?_,?_⟩
       ·unfold fg;split
        ·rfl
        ·exact this.symm
       ·unfold rm;split
        ·rfl
        ·exact this.symm
     have hopL: ∀x∈o.op.operands,opd { Sm with env:=fun t=>K (fg ops S SV L t) } x=opd Sm x:=by
      intro x hx;cases x with
      |tmp t=>show K (fg ops S SV L t)=Sm.env t;rw[e1];exact congrArg K (hlook t (bP _ (cw.2 ⟨.tmp t,by simpa using hx,rfl⟩))).1
      | _=>rfl
     have hopA:K=G4-> ∀x∈o.op.operands,jd ops.toList (eY ops.toList) S SV i x=opd Sm x:=by
      intro hKi x hx;cases x with
      |tmp t=>show rm ops.toList ((eY ops.toList).getD i []) S SV t=Sm.env t;rw[e1,hKi];exact (hlook t (bP _ (cw.2 ⟨.tmp t,by simpa using hx,rfl⟩))).2
      | _=>rfl
     have pendB:M=true-> ∀j oj,ops[j]? =some oj->dF oj=false->L.getD j false=false->oy (qj P) ops.toList (eY ops.toList) S SV j i oj o=true:=by intro hMt j oj hj hs hu;refine hloose hMt j i oj o hj ho hst hs (fun hb=> ?_);rw[hB j hb] at hu;cases hu
     have pendR:M=false-> ∀j oj,ops[j]? =some oj->dF oj=false->L.getD j false=false->nE ops.toList (eY ops.toList) S SV j oj=true:=by intro hMf j oj hj hs hu;refine hlooseR hMf j i oj o hj ho hst hs (fun hb=> ?_);rw[hB j hb] at hu;cases hu
     obtain⟨t,xa,xv,hop⟩: ∃t xa xv,o.op= .store t xa xv:=by
      unfold dF at hst;split at hst
      ·rename_i t xa xv hop;exact⟨t,xa,xv,hop⟩
      ·cases hst
     have hma:xa∈o.op.operands:=by rw[hop]; simp[Op.operands]
     have hmv:xv∈o.op.operands:=by rw[hop]; simp[Op.operands]
     have hstore:store P Sm t (opd Sm xa) (opd Sm xv)=some S1:=by unfold one at g1;rw[hdn] at g1;simp only[fq,hop,aj,ak] at g1;obtain⟨⟨v,S2⟩,⟨S3,g3,g4⟩,g5⟩:=g1;simp only[al] at g4;simp only[St.put,ae] at g5;rw[g3,g4.2,g5]
     have henv:fg ops S SV (L.setIfInBounds i true)=fg ops S SV L:=by
      funext t
      rw[nY hiL ho,hdn];simp
     rw[if_pos hw]
     have hheavy': ∀j oj,ops[j]? =some oj->dF oj=false->kw oj=true->(L.setIfInBounds i true).getD j false=true:=by
      intro j oj hj hs hn;rw[hset];split
      ·rfl
      ·exact hheavy j oj hj hs hn
     cases hMM:M with
     |true=>
      have hKi:=hK1 hMM;subst hKi
      have hsimp:wZ (qj P) t (opd Sm xa)=true:=by have:=pendB hMM jp ojp hjp hsp hup;unfold oy at this;rw[hop] at this;simp only[ao] at this;rw[<-hopA rfl xa hma];exact this.1
      obtain⟨q1,q2,q3,q4⟩:=xZ hsimp hstore
      have g1':one D P { Sm with env:=fun t=>G4 (fg ops S SV L t) } o=some { S1 with env:=fun t=>G4 (fg ops S SV L t) } :=by unfold one;rw[hdn];simp only[fq,hop];rw[hopL xa hma,hopL xv hmv,q3];rfl
      refine .inl (nX hD h4 (ok.ok i o ho) g1' (fun bt' a' w' h'=>next a' w' (.inr (.inl ⟨bt',i+1,S1,G4,hheavy',iff' k h2,g2,q1.trans e1,q2.trans e2,fun j oj t' x n hj hl hu=> ?_,by rw[henv]; exact h',fun _=>rfl,fun _ _=>rfl,fun hf=>absurd (hMM.symm.trans hf) (by decide)⟩))));rw[hset] at hu;split at hu
      ·cases hu
      ·have hsj:dF oj=false:=by unfold dF; rw[hl]
       have hlb:=pendB hMM j oj hj hsj hu;unfold oy at hlb;rw[hop,hl] at hlb;simp only[ao] at hlb;rw[hopA rfl xa hma] at hlb;rw[q4 _ n hlb.2];exact hmem j oj t' x n hj hl hu
     |false=>
      obtain⟨K',k1,k2,k3,k4⟩:=wk hstore;have k4':store P { Sm with env:=fun t=>K (fg ops S SV L t) } t (opd Sm xa) (opd Sm xv)=some { S1 with env:=fun t=>K' (K (fg ops S SV L t)) } :=k4 (fun t=>K (fg ops S SV L t))
      have g1':one D P { Sm with env:=fun t=>K (fg ops S SV L t) } o=some { S1 with env:=fun t=>K' (K (fg ops S SV L t)) } :=by unfold one;rw[hdn];simp only[fq,hop];rw[hopL xa hma,hopL xv hmv,k4'];rfl
      refine .inl (nX hD h4 (ok.ok i o ho) g1' (fun bt' a' w' h'=>next a' w' (.inr (.inl ⟨bt',i+1,S1,fun v=>K' (K v),hheavy',iff' k h2,g2,by rw[k2,e1],k3.trans e2,fun j oj t' x n hj hl hu=> ?_,by rw[henv]; exact h',fun hf=>absurd (hMM.symm.trans hf) (by decide),fun v hv=>by show K' (K v)=v; rw[hK2 v hv,k1 v hv],fun _ j oj hj hs hu=> ?_⟩))))
      ·rw[hset] at hu;split at hu
       ·cases hu
       ·have hsj:dF oj=false:=by unfold dF; rw[hl]
        have hlb:=pendR hMM j oj hj hsj hu;unfold nE at hlb;rw[hl] at hlb;simp at hlb
      ·rw[hset] at hu;split at hu
       ·cases hu
       ·exact pendR hMM j oj hj hs hu
   |false=>
    obtain⟨env,b,m,g0,g1,g2,g3,g4,g5,g6,g7,gB⟩:=f3 i o (tl.2 ho) hst;have him:i<ms.length:=by rw[hlen]; exact hin
    have hagr:=agreeV i o env ho g1 g2
    have agree: ∀t,t∈o.looksAt ops->fg ops S SV L t=env t:=by
     intro t ht;rw[hagr t ht];unfold rm;split
     ·rename_i hany;obtain⟨j,hj,hjd⟩:=bN.1 hany;cases hoj:ops.toList[j]? with
      |none=>rw[hoj] at hjd; simp at hjd
      |some oj=>
       rw[hoj] at hjd;have hdj:oj.dst=some t:=by simpa using hjd
       unfold fg;rw[if_pos (ik.2 ⟨j,oj,tl.1 hoj,hB j hj,hdj⟩)]
     ·rename_i hany;unfold fg;split
      ·rename_i hdn;exfalso;obtain⟨j,oj,hj,hlj,hdj⟩:=ik.1 hdn;rcases ok.look j i oj o t hj ho hdj ht with h| ⟨_,h|h⟩
       ·exact hany (bN.2 ⟨j,h,by rw[tl.2 hj]; simp[hdj]⟩)
       ·rw[h,hun] at hlj;cases hlj
       ·have:=hcl j (aD.1 hj).1 hlj i h;rw[hun] at this;cases this
      ·rfl
    have hopX: ∀x∈o.op.operands,opd { S with env:=env,gh:=pe S.gh (ms.take i),ng:=m.b } x=jd ops.toList (eY ops.toList) S SV i x:=opdV i o _ ho hagr
    have hwantsX: ∀X:St,X.env=fg ops S SV L->jL X ops o=some b:=by
     intro X hX;rw[<-g3];unfold jL;cases hg:o.guard with
     |none=>rfl
     |some gw=>
      obtain⟨j,want⟩:=gw;simp only;cases hdj: (ops[j]?).bind (·.dst) with
      |none=>rfl
      |some d=>simp only;rw[hX,agree d (cz _ (by simp[hg,hdj]))]
    have htree: ∀r,(∀j∈nD ms r,j=i\/i∈(eY ops.toList).getD j [])/\(r<S.ng\/ ∃c,ll ms r=some c/\c∈(eY ops.toList).getD i [])->tL S ms L r=pe S.gh (ms.take i) r:=by
     intro r hr;obtain⟨htk,hr⟩:=hr;have tk:=told i (by omega) r
     have hnt:ib ms L r=false:=by
      cases hx:ib ms L r with
      |false=>rfl
      |true=>
       obtain⟨j,m',p1,p2,p3⟩:=gM.1 hx;rcases htk j (qK p1 p3) with e|e
       ·rw[e,hun] at p2;cases p2
       ·have:=hcl j (by rw[<-hlen]; exact (ai.1 p1).1) p2 i e;rw[hun] at this;cases this
     have hnot: ∀ (j:Nat) (m':gm),ms[j]? =some m'->j<i->r∉m'.cons:=by
      intro j m' p1 hji p3;rcases htk j (qK p1 p3) with e|e
      ·omega
      ·have:=ok.lt j i (by rw[<-hlen]; exact (ai.1 p1).1) e;omega
     unfold tL;by_cases hlt:r<S.ng
     ·rw[if_pos hlt,hnt];exact ((tk.1 hlt).1 hnot).symm
     ·rw[if_neg hlt];rcases hr with hr| ⟨c,hmk,hcb⟩
      ·omega
      ·rw[hmk];simp only;have hci:=ok.lt i c hin hcb;rw[hB c hcb,hnt];simp only[Bool.not_false,c7,if_true];exact ((tk.2.2 c (by omega) hmk).2.1 hci (fun j m' p1 _ hji p3=>hnot j m' p1 hji p3)).symm
    have envNext: ∀v,(∀d,o.dst=some d->SV.env d=v)-> ∀ (X:St),X.env=fg ops S SV L->X.nt=S.nt->X.put o.dst v=some { X with env:=fg ops S SV (L.setIfInBounds i true) } :=by
     intro v hv X hX hXn;cases hdo:o.dst with
     |none=>
      simp only[St.put,ae]
      have :fg ops S SV (L.setIfInBounds i true)=X.env:=by
       funext t
       rw[nY hiL ho,hdo,hX];simp
      rw[this]
     |some d=>
      simp only[St.put];rw[if_pos (by rw[hXn]; exact g4 d hdo)]
      congr 2
      funext t
      rw[nY hiL ho,hdo,hX];unfold eh;by_cases ht:t=d
      ·subst ht;simp[hv t hdo]
      ·have : ¬ (some d=some t):=by simpa using fun e=>ht e.symm
       rw[if_neg ht,if_neg this]
    by_cases hph: ∃bt k Sm,∃K:AV->AV,(∀i o,ops[i]? =some o->dF o=false->kw o=true->L.getD i false=true)/\(∀i o,ops[i]? =some o->dF o=true->(L.getD i false=true↔i<k))/\v7 D P ops (ops.toList.drop k) Sm=some S'/\Sm.env=(fun t=>K (SV.env t))/\Sm.nt=S.nt/\
      (∀i o t x n,ops[i]? =some o->o.op= .load t x->L.getD i false=false->ew Sm n (jd ops.toList (eY ops.toList) S SV i x)=ew SV n (jd ops.toList (eY ops.toList) S SV i x))/\Lv w0 W btI SI bt { Sm with env:=fun t=>K (fg ops S SV L t) } a w/\(M=true->K=G4)/\(∀v,ul v=true->K v=v)/\(M=false-> ∀i oi,ops[i]? =some oi->dF oi=false->L.getD i false=false->nE ops.toList (eY ops.toList) S SV i oi=true)
    ·obtain⟨bt,k,Sm,K,hv,h2s,h3,e1,e2,hmem,h4,hK1,hK2,hK3⟩:=hph
     have hhv:kw o=false:=by
      cases hx:kw o with
      |false=>rfl
      |true=>have:=hv i o ho hst hx;rw[hun] at this;cases this
     have hnn:ez o=false:=by unfold kw at hhv;simp only[Bool.or_eq_false_iff] at hhv;exact hhv.1
     have hbo:eO o=false:=by unfold kw at hhv;simp only[Bool.or_eq_false_iff] at hhv;exact hhv.2
     have hroot: ∀x∈o.op.operands,K (jd ops.toList (eY ops.toList) S SV i x)=jd ops.toList (eY ops.toList) S SV i x:=by
      intro x hx;cases hMM:M with
      |true=>rw[hK1 hMM]
      |false=>have:=hK3 hMM i o ho hst hun;unfold nE at this;simp only[ao] at this;exact hK2 _ (au.1 this.1.2 x (by simpa using hx))
     have hrootD: ∀d,o.dst=some d->K (SV.env d)=SV.env d:=by
      intro d hdd;cases hMM:M with
      |true=>rw[hK1 hMM]
      |false=>have:=hK3 hMM i o ho hst hun;unfold nE at this;rw[hdd] at this;simp only[ao] at this;exact hK2 _ this.2
     have hwantsK:jL { Sm with env:=fun t=>K (fg ops S SV L t) } ops o=some b:=by
      cases hMM:M with
      |true=>have hKi:=hK1 hMM;subst hKi;exact hwantsX { Sm with env:=fun t=>G4 (fg ops S SV L t) } rfl
      |false=>have:=hK3 hMM i o ho hst hun;unfold nE at this;simp only[ao,cE] at this;rw[<-g3];unfold jL;rw[this.1.1.1]
     have hw:=jf h4.er hwantsK
     have ni: ∀v,(∀d,o.dst=some d->SV.env d=v)->({ Sm with env:=fun t=>K (fg ops S SV L t) }:St).put o.dst v=some { Sm with env:=fun t=>K (fg ops S SV (L.setIfInBounds i true) t) } :=by
      intro v hv;cases hdo:o.dst with
      |none=>
       simp only[St.put,ae]
       have :fg ops S SV (L.setIfInBounds i true)=fg ops S SV L:=by
        funext t
        rw[nY hiL ho,hdo];simp
       rw[this]
      |some d=>
       simp only[St.put];rw[if_pos (by rw[show ({ Sm with env:=fun t=>K (fg ops S SV L t) }:St).nt=S.nt from e2]; exact g4 d hdo)]
       congr 2
       funext t
       rw[nY hiL ho,hdo];unfold eh;by_cases ht:t=d
       ·subst ht;have h1:=hv t hdo;have h2:=hrootD t hdo;rw[if_pos rfl,if_pos rfl,h2,h1]
       ·have : ¬ (some d=some t):=by simpa using fun e=>ht e.symm
        rw[if_neg ht,if_neg this]
     have next2: ∀a',Lv w0 W btI SI bt { Sm with env:=fun t=>K (fg ops S SV (L.setIfInBounds i true) t) } a' w->wpAny P .any ops Q fuel (L.setIfInBounds i true) a' w:=by
      intro a' h';refine next a' w (.inr (.inl ⟨bt,k,Sm,K,fun j oj hj hs hn=> ?_,fun j oj hj hs=> ?_,h3,e1,e2,fun j oj t' x n hj hl hu=> ?_,h',hK1,hK2,fun hf j oj hj hs hu=> ?_⟩))
      ·rw[hset];split
       ·rfl
       ·exact hv j oj hj hs hn
      ·rw[hset];split
       ·rename_i hji;subst hji;rw[ho] at hj;simp only[ae] at hj;rw[<-hj,hst] at hs;cases hs
       ·exact h2s j oj hj hs
      ·rw[hset] at hu;split at hu
       ·cases hu
       ·exact hmem j oj t' x n hj hl hu
      ·rw[hset] at hu;split at hu
       ·cases hu
       ·exact hK3 hf j oj hj hs hu
     cases hbb:b with
     |true=>
      rw[hw,hbb,if_pos rfl];obtain⟨v,k1,k2,k3,k4⟩:=g6 hbb hnn hbo
      have k1':dH D P { Sm with env:=fun t=>K (fg ops S SV L t) } o=some v:=by
       rw[<-k1];refine qM (ok.ok i o ho) hnn (fun x hx=> ?_) (fun t xa hta=> ?_)
       ·have h5:=hopX x hx;have h6:=hroot x hx;cases x with
        |tmp t=>have h7:=agree t (bP _ (cw.2 ⟨.tmp t,by simpa using hx,rfl⟩));show K (fg ops S SV L t)=env t;rw[h7];have h5:env t=jd ops.toList (eY ops.toList) S SV i (.tmp t):=h5;rw[h5,h6]
        | _=>rfl
       ·have hxa:xa∈o.op.operands:=by rw[hta]; simp[Op.operands]
        rw[hopX xa hxa,nm,hmem i o t xa _ ho hta hun]
        have hal:km { S with env:=env,gh:=pe S.gh (ms.take i),ng:=m.b } { ({ S with env:=env,gh:=pe S.gh (ms.take i),ng:=m.b }:St) with gh:=SV.gh,ng:=SV.ng } (jd ops.toList (eY ops.toList) S SV i xa):=by intro r hr;have:=htree r (hsay i o xa r ho hst hxa hr);rw[ghFull L (toN hv)] at this;exact this
        rw[<-wi hal];have hS':=hSV env;rw[<-nm (S:=SV) env,hS']
      have hnf:kO o=false:=by
       cases hx:kO o with
       |false=>rfl
       |true=>
        unfold kO at hx;split at hx
        ·rename_i hop;simp[ez,hop] at hnn
        ·cases hx
      obtain⟨u,g8,g9⟩:=sr h4.inv h4.er (ok.ok i o ho) hnf k1';left;unfold Oper.wp;rw[g8,Oper.upon_value];exact next2 _ (h4.put g9 (ni v k4))
     |false=>obtain⟨k2,k3,k4⟩:=g7 hbb;rw[hw,hbb,if_neg (by simp)];exact next2 _ (h4.put uy (ni (.tup []) k4))
    obtain⟨bt,h1,h2,hκ⟩: ∃bt,(∀i o,ops[i]? =some o->dF o=true->L.getD i false=false)/\Lv w0 W btI SI bt (sy ops S SV ms L) a w/\ ∀ (p:eb) (c:Nat),S.ng<=p.r->ll ms p.r=some c->L.getD c false=false->bt.κ p=0:=by
     rcases hsim with hsim|hsim| ⟨bt,k,Sm,h1,_⟩
     ·exact hsim
     ·exact absurd hsim hph
     ·have:=h1 i o ho hst;rw[hun] at this;cases this
    have hw:=jf h2.er (hwantsX (sy ops S SV ms L) rfl)
    have halike: ∀x∈o.op.operands,km { S with env:=env,gh:=pe S.gh (ms.take i),ng:=m.b } { ({ S with env:=env,gh:=pe S.gh (ms.take i),ng:=m.b }:St) with gh:=tL S ms L,ng:=SV.ng } (opd { S with env:=env,gh:=pe S.gh (ms.take i),ng:=m.b } x):=by intro x hx r hr;rw[hopX x hx] at hr;exact htree r (hsay i o x r ho hst hx hr)
    have hbxA: ∀k,zo S ms k=true-> ∀cs,({ S with env:=env,gh:=pe S.gh (ms.take i),ng:=m.b }:St).bx k=some cs-> ∀c∈cs,km { S with env:=env,gh:=pe S.gh (ms.take i),ng:=m.b } { ({ S with env:=env,gh:=pe S.gh (ms.take i),ng:=m.b }:St) with gh:=tL S ms L,ng:=SV.ng } c:=by intro k hfk cs hk c hcm r hr;have hk:S.bx k=some cs:=hk;refine htree r ⟨fun j hj=> ?_, .inl (hbx k cs hk c hcm r hr)⟩;unfold zo at hfk;rw[hk] at hfk;have h3:=au.1 (au.1 hfk c hcm) r hr;rw[List.isEmpty_iff] at h3;rw[h3] at hj;cases hj
    have hops: ∀x∈o.op.operands,opd (sy ops S SV ms L) x=opd { ({ S with env:=env,gh:=pe S.gh (ms.take i),ng:=m.b }:St) with gh:=tL S ms L,ng:=SV.ng } x:=by
     intro x hx;cases x with
     |tmp t=>exact agree t (bP _ (cw.2 ⟨.tmp t,by simpa using hx,rfl⟩))
     | _=>rfl
    have nostore: ∀j oj,ops[j]? =some oj->dF oj=true->(L.setIfInBounds i true).getD j false=false:=by
     intro j oj hj hs;rw[hset];split
     ·rename_i hji;subst hji;rw[ho] at hj;simp only[ae] at hj;rw[<-hj,hst] at hs;cases hs
     ·exact h1 j oj hj hs
    have ghNext: ∀r,tL S ms (L.setIfInBounds i true) r=if m.b<=r/\r<m.b+m.adds.length then m.adds[r-m.b]? else if m.cons.contains r then none else tL S ms L r:=by
     intro r;by_cases hin':m.b<=r/\r<m.b+m.adds.length
     ·rw[if_pos hin'];have hmk:ll ms r=some i:=(gD hd).2 ⟨m,g0,hin'⟩;unfold tL;rw[if_neg (by have:=hb i m g0; omega),hmk];simp only[hset,if_true]
      have hnt:ib ms (L.setIfInBounds i true) r=false:=by
       cases hx:ib ms (L.setIfInBounds i true) r with
       |false=>rfl
       |true=>
        obtain⟨j,m',p1,p2,p3⟩:=gM.1 hx;obtain⟨c,q1,q2⟩:=(hcons j m' r p1 p3).1.resolve_left (by have:=hb i m g0; omega);rw[hmk] at q1;simp only[ae] at q1;subst q1;have hjn:j<ops.size:=by rw[<-hlen]; exact (ai.1 p1).1
        rw[hset] at p2;split at p2
        ·rename_i hji;subst hji;have:=ok.lt j j hjn q2;omega
        ·have:=hcl j hjn p2 i q2;rw[hun] at this;cases this
      rw[hnt,g0];rfl
     ·rw[if_neg hin']
      have htk:ib ms (L.setIfInBounds i true) r=(ib ms L r||m.cons.contains r):=by
       rw[bZ,bg,gM,gM];constructor
       ·rintro⟨j,m',p1,p2,p3⟩
        rw[hset] at p2;split at p2
        ·rename_i hji;subst hji;rw[g0] at p1;simp only[ae] at p1;subst p1;exact .inr (by simpa using p3)
        ·exact .inl ⟨j,m',p1,p2,p3⟩
       ·rintro (⟨j,m',p1,p2,p3⟩|hcon)
        ·exact⟨j,m',p1,by rw[hset]; split<;>first |rfl|exact p2,p3⟩
        ·exact⟨i,m,g0,by rw[hset,if_pos rfl],by simpa using hcon⟩
      unfold tL;by_cases hlt:r<S.ng
      ·rw[if_pos hlt,if_pos hlt,htk];cases m.cons.contains r<;>cases ib ms L r<;>rfl
      ·rw[if_neg hlt,if_neg hlt];cases hmk:ll ms r with
       |none=>simp
       |some c=>
        have hci:c≠i:=by intro he;subst he;obtain⟨m',q1,q2⟩:=(gD hd).1 hmk;rw[g0] at q1;simp only[ae] at q1;subst q1;exact hin' q2
        simp only;rw[hset,if_neg hci];rw[htk];cases hcon:m.cons.contains r<;>simp
    have plain:m.adds= [] ->m.cons= [] ->tL S ms (L.setIfInBounds i true)=tL S ms L:=by
     intro e1 e2
     funext r
     rw[ghNext r,e1,e2];simp;intro h1 h2;omega
    have κNext: ∀ (bt2:Bt),(∀p:eb,S.ng<=p.r->p.r<SV.ng-> ¬ (m.b<=p.r/\p.r<m.b+m.adds.length)->bt2.κ p=bt.κ p)-> ∀ (p:eb) (c:Nat),S.ng<=p.r->ll ms p.r=some c->(L.setIfInBounds i true).getD c false=false->bt2.κ p=0:=by
     intro bt2 hbt p c hp hmk hun';rw[hset] at hun';split at hun'
     ·cases hun'
     ·rename_i hci;obtain⟨m',q1,q2⟩:=(gD hd).1 hmk;have:=hbN c m' q1
      rw[hbt p hp (by omega) (fun hr=>hci (by have:=(gD hd).2 ⟨m,g0,hr⟩;rw[hmk] at this;simpa using this))]
      exact hκ p c hp hmk hun'
    cases hbo:eO o with
    |true=>
     obtain⟨hbb,q2,q3,q4⟩:=gB hbo;obtain⟨t,zs,hop,hz,hbz⟩:=pr5 i o (tl.2 ho) hbo;have hbz:S.bx (nG ops S i)=some (zs.map vZ):=hbz;rw[hw,hbb,if_pos rfl];left;obtain⟨lb1,lb2,lb3⟩:=lab i o ho hbo
     have hfree:uL ops S L (nG ops S i)=none:=by unfold uL;rw[if_pos (jz.2 ⟨i,o,ho,hbo,hun,rfl⟩)]
     have toB: ∀v,iA (fun n=>Nat.blt n Sp.nb) v=true->iA (rx S.nb (nG ops S i)) v=true:=fun v hv=>sx (fun n hn=>by have :n<Sp.nb:=ax hn;exact x0 (by omega) (by omega)) v hv
     have henvB: ∀t,iA (rx S.nb (nG ops S i)) (fg ops S SV L t)=true:=by
      intro t;unfold fg;split
      ·rename_i hdn;obtain⟨j,oj,hj,hlj,hdj⟩:=ik.1 hdn
       have hsj:dF oj=false:=by
        cases hx:dF oj with
        |false=>rfl
        |true=>rw[(ok.st j oj hj hx).1] at hdj; cases hdj
       cases hbj:eO oj with
       |true=>obtain⟨envj,bj,mj,_,_,_,_,_,_,_,_,gj⟩:=f3 j oj (tl.2 hj) hsj;have e:=(gj hbj).2.2.2 t hdj;rw[e];show rx S.nb (nG ops S i) (nG ops S j)=true;refine x0 (lab j oj hj hbj).1 (fun he=> ?_);have:=labInj j i oj o hj ho hbj hbo he;subst this;rw[hun] at hlj;cases hlj
       |false=>refine sx (fun n hn=> ?_) _ ((hboxP j oj hj hsj hbj).2 t hdj);have :n<S.nb-eJ ops.toList:=ax hn;exact x0 (by omega) (by omega)
      ·rw[sev];refine toB _ ?_;have:=(h.er.2 t).boxlt;rw[h.inv.nb] at this;exact this
     have hbxB: ∀n cs,uL ops S L n=some cs-> ∀c∈cs,iA (rx S.nb (nG ops S i)) c=true:=by
      intro n cs hn c hc;unfold uL at hn;split at hn
      ·cases hn
      ·rcases bxOf n cs hn with ⟨_,hk'⟩| ⟨_,_,zs,_,_,_,rfl⟩
       ·obtain⟨_,_,arr,e,_,hsz,hcell⟩:=h.inv.bx n cs hk';obtain⟨j,hj,hjc⟩:=aM hc;obtain⟨u,_,hu,_⟩:=hcell j c (by rw[<-hjc]; exact ah hj);refine toB _ ?_;have:=hu.boxlt;rw[h.inv.nb] at this;exact this
       ·obtain⟨x,_,rfl⟩:=aL.1 hc;exact Fc _ _
     obtain⟨u,w',bt',r1,r2,r3,r4,r5,r6⟩:=wl h2.inv h2.er hz (m:=nG ops S i) lb1 hfree henvB hbxB
     have hmm:zs.map vZ=zs.map tZ:=by
      refine aG fun c hc=> ?_;obtain⟨i,z,_,_,rfl,hall⟩:=jM hz;have:=au.1 hall c hc;unfold vZ;split
      ·simp[Value.oneCell'] at this
      ·rfl
     have hrun: (execOp a.eval o).run P w= .ok (.value u) w':=by obtain⟨dst,op,type,pos,after,guard⟩:=o;simp only at hop;subst hop;simp[execOp,r1]
     unfold Oper.wp;rw[hrun,Oper.upon_value]
     have hnext:eh (uL ops S L) (nG ops S i) (some (zs.map tZ))=uL ops S (L.setIfInBounds i true):=by
      funext n
      unfold eh;split
      ·rename_i he;subst he;unfold uL;rw[if_neg,hbz,hmm];intro hwt;obtain⟨j,oj,hj,hbj,hlj,he⟩:=jz.1 hwt;have:=labInj j i oj o hj ho hbj hbo he;subst this;rw[hset,if_pos rfl] at hlj;cases hlj
      ·rename_i he;unfold uL
       have :uK ops S (L.setIfInBounds i true) n=uK ops S L n:=by
        rw[bZ,jz,jz];constructor
        ·rintro⟨j,oj,hj,hbj,hlj,hl⟩
         rw[hset] at hlj;split at hlj
         ·cases hlj
         ·exact⟨j,oj,hj,hbj,hlj,hl⟩
        ·rintro⟨j,oj,hj,hbj,hlj,hl⟩
         refine⟨j,oj,hj,hbj,?_,hl⟩;rw[hset,if_neg]
         ·exact hlj
         ·intro hji;subst hji;exact he hl.symm
       rw[this]
     have lv:Lv w0 W btI SI bt' { sy ops S SV ms L with bx:=uL ops S (L.setIfInBounds i true) } a w':=by refine⟨by rw[<-hnext]; exact r2,r3,h2.defers,h2.fz,h2.fzng,fun p hp=>by rw[r5,r6]; exact h2.keep p hp,h2.gone⟩
     refine next _ _ (.inl ⟨bt',nostore,?_,κNext bt' (fun _ _ _ _=>by rw[r6])⟩)
     have:=lv.put r4 (envNext (.ptrB (nG ops S i) 0) (fun d hd=>q4 d hd) { sy ops S SV ms L with bx:=uL ops S (L.setIfInBounds i true) } rfl rfl);unfold sy at this ⊢;rw[plain q2 q3];exact this
    |false=>
    have bxNext:uL ops S (L.setIfInBounds i true)=uL ops S L:=by
     funext n
     unfold uL
     have :uK ops S (L.setIfInBounds i true) n=uK ops S L n:=by
      rw[bZ,jz,jz];constructor
      ·rintro⟨j,oj,hj,hbj,hlj,hl⟩
       rw[hset] at hlj;split at hlj
       ·cases hlj
       ·exact⟨j,oj,hj,hbj,hlj,hl⟩
      ·rintro⟨j,oj,hj,hbj,hlj,hl⟩
       refine⟨j,oj,hj,hbj,?_,hl⟩;rw[hset,if_neg]
       ·exact hlj
       ·intro hji;subst hji;rw[ho] at hj;simp only[ae] at hj;rw[<-hj,hbo] at hbj;cases hbj
     rw[this]
    have hbxF: ∀n,Nat.blt n (S.nb-eJ ops.toList)=true->uL ops S L n=S.bx n:=fun n hn=>oldL L n (old n (ax hn));cases hbb:b with
    |true=>
     rw[hw,hbb,if_pos rfl];cases hnn:ez o with
     |false=>
      obtain⟨v,k1,k2,k3,k4⟩:=g6 hbb hnn hbo
      have k1':dH D P (sy ops S SV ms L) o=some v:=by
       rw[<-k1,<-zM hnn halike];refine qM (ok.ok i o ho) hnn hops (fun t xa hta=> ?_);have hxa:xa∈o.op.operands:=by rw[hta]; simp[Op.operands]
       have hbp:=(hboxP i o ho hst hbo).1 xa hxa;rw[<-hopX xa hxa] at hbp;have e1:=BL (S:= { ({ S with env:=env,gh:=pe S.gh (ms.take i),ng:=m.b }:St) with gh:=tL S ms L,ng:=SV.ng }) (f:=uL ops S L) hbxF (n:=P.cellsOf t) hbp;have e2:=nm (S:=sy ops S SV ms L) env (P.cellsOf t) (opd { S with env:=env,gh:=pe S.gh (ms.take i),ng:=m.b } xa);exact e2.symm.trans e1
      have hnf:kO o=false:=by
       cases hx:kO o with
       |false=>rfl
       |true=>
        unfold kO at hx;split at hx
        ·rename_i hop;simp[ez,hop] at hnn
        ·cases hx
      obtain⟨u,g8,g9⟩:=sr h2.inv h2.er (ok.ok i o ho) hnf k1';left;unfold Oper.wp;rw[g8,Oper.upon_value];refine next _ _ (.inl ⟨bt,nostore,?_,κNext bt (fun _ _ _ _=>rfl)⟩)
      have:=h2.put g9 (envNext v k4 (sy ops S SV ms L) rfl rfl);unfold sy at this ⊢;rw[plain k2 k3,bxNext];exact this
     |true=>
      obtain⟨v,k1,k4⟩:=g5 hbb hnn
      have k1':fk D P (sy ops S SV ms L) o=some (v,m.adds,m.cons):=by
       rw[<-k1,<-zP (q:=zo S ms) (fun hfn x hx=>by rw[hopX x hx]; exact hfreeP i o ho hst hbo hfn x hx) halike hbxA];rw[<-zQ (S:= { ({ S with env:=env,gh:=pe S.gh (ms.take i),ng:=m.b }:St) with gh:=tL S ms L,ng:=SV.ng }) (env:=fg ops S SV L) hops]
       exact Ff (S:= { ({ ({ S with env:=env,gh:=pe S.gh (ms.take i),ng:=m.b }:St) with gh:=tL S ms L,ng:=SV.ng }:St) with env:=fg ops S SV L }) (f:=uL ops S L) hbxF (fun x hx=>by
        have hbp:=(hboxP i o ho hst hbo).1 x hx;rw[<-hopX x hx] at hbp;have e:=hops x hx;cases x with
        |tmp t=>have e':fg ops S SV L t=env t:=e;show iA _ (fg ops S SV L t)=true;rw[e'];exact hbp
        | _=>exact hbp)
      left;refine zK hD h2.inv h2.er h2.fzng (ok.ok i o ho) k1' (fun bt1 u w' l1 l2 l3=> ?_);have hbase:=hb i m g0;have htop:=hbN i m g0;obtain⟨mI,mV⟩:=eK.moved (N:=SV.ng) (b:=m.b) (k:=m.adds.length) h2.inv l2 l1.inv rfl rfl rfl htop (fun p hp1 hp2=>hκ p i (by omega) ((gD hd).2 ⟨m,g0,hp1,hp2⟩) hun)
      have hst2: ((sy ops S SV ms L).make ⟨(sy ops S SV ms L).ng,m.adds,m.cons⟩).moved SV.ng m.b m.adds.length= { sy ops S SV ms L with gh:=tL S ms (L.setIfInBounds i true) } :=by
       unfold St.moved St.make sy;simp only
       congr 1
       funext r
       rw[ghNext r];by_cases hr:m.b<=r/\r<m.b+m.adds.length
       ·rw[if_pos hr,if_pos hr,if_pos (by omega)]
        congr 1
        omega
       ·rw[if_neg hr,if_neg hr];by_cases hrN:r<SV.ng
        ·rw[if_pos hrN,if_neg (by omega)]
        ·rw[if_neg hrN]
         have :tL S ms L r=none:=by
          unfold tL;rw[if_neg (by omega)];cases hmk:ll ms r with
          |none=>rfl
          |some c=>obtain⟨m',q1,q2⟩:=(gD hd).1 hmk;have:=hbN c m' q1;omega
         rw[this];simp
      rw[hst2] at mI
      have hfzn:SI.fz<=S.ng:=by omega
      have lv:Lv w0 W btI SI (bt1.moved SV.ng m.b m.adds.length) { sy ops S SV ms L with gh:=tL S ms (L.setIfInBounds i true) } a w':=by
       refine⟨mI,⟨h2.er.1,fun t=>mV (h2.er.2 t) (l1.er.2 t)⟩,h2.defers,h2.fz,h2.fzng,fun p hp=> ?_,fun r hr hnone=> ?_⟩
       ·have hnr: ¬ (m.b<=p.r/\p.r<m.b+m.adds.length):=by omega
        have hk:=h2.keep p hp
        have hlt:p.r<bt.ng:=by have:=h2.inv.ng;have e: (sy ops S SV ms L).ng=SV.ng:=rfl;omega
        simp only[Bt.moved];rw[if_neg hnr,if_neg hnr,l2.β p hlt,l2.κ p hlt];exact hk
       ·refine h2.gone r hr ?_;have hn':tL S ms (L.setIfInBounds i true) r=none:=hnone;rw[ghNext r,if_neg (by omega)] at hn';split at hn'
        ·rename_i hcon;have:=hc i m r g0 (by simpa using hcon) (by omega);omega
        ·exact hn'
      have hv:VR w' (bt1.moved SV.ng m.b m.adds.length) (shift m.b v) u:=by
       have hng1:bt1.ng=SV.ng+m.adds.length:=l1.inv.ng
       have one: ∀ {x:AV} {y:Value},VR w' bt1 (kN SV.ng x) y->VR w' (bt1.moved SV.ng m.b m.adds.length) (kN m.b x) y:=by
        intro x y hxy;cases x with
        |own p sz lo len=>
         simp only[kN] at hxy ⊢;cases hxy with
         |own hp hcp hk ha=>
          have hp':p.r+SV.ng<bt1.ng:=hp;have hr:m.b<=p.r+m.b/\p.r+m.b<m.b+m.adds.length:=by omega
          have e1: (bt1.moved SV.ng m.b m.adds.length).κ ⟨p.r+m.b,p.l⟩=bt1.κ ⟨p.r+SV.ng,p.l⟩:=by simp only[Bt.moved];rw[if_pos hr,ck,ct]
          have e2: (bt1.moved SV.ng m.b m.adds.length).β ⟨p.r+m.b,p.l⟩=bt1.β ⟨p.r+SV.ng,p.l⟩:=by simp only[Bt.moved];rw[if_pos hr,ck,ct]
          exact .own (by show p.r+m.b<SV.ng; omega) hcp (by rw[e1]; exact hk) (by rw[e2]; exact ha)
        |sc x=>simp only[kN] at hxy ⊢; cases hxy with |sc h=>exact .sc h
        | _=>exact .dead _
       have two: ∀ {x:AV} {y:Value},VR w' bt1 (jI SV.ng x) y->VR w' (bt1.moved SV.ng m.b m.adds.length) (jI m.b x) y:=by
        intro x y hxy;cases x with
        |agg cs=>
         simp only[jI] at hxy ⊢;cases hxy with
         |agg hl' ho' hr=>refine .agg (by simpa using hl') ho' (fun k c u h1 h2=> ?_);rw[an] at h1;simp only[ak] at h1;obtain⟨c',e1,rfl⟩:=h1;exact one (hr k (kN SV.ng c') u (by rw[an,e1]; rfl) h2)
        | _=>simp only[jI] at hxy ⊢;exact one hxy
       cases v with
       |tup vs=>
        simp only[shift] at l3 ⊢;have l3':VR w' bt1 (.tup (vs.map (jI SV.ng))) u:=l3;cases l3' with
        |tup hl' hr=>refine .tup (by simpa using hl') (fun k c u h1 h2=> ?_);rw[an] at h1;simp only[ak] at h1;obtain⟨c',e1,rfl⟩:=h1;exact two (hr k (jI SV.ng c') u (by rw[an,e1]; rfl) h2)
       | _=>simp only[shift] at l3 ⊢;exact two l3
      refine next _ _ (.inl ⟨bt1.moved SV.ng m.b m.adds.length,nostore,?_,κNext _ (fun p hp1 hp2 hp3=> ?_)⟩)
      ·have:=lv.put hv (envNext _ k4 { sy ops S SV ms L with gh:=tL S ms (L.setIfInBounds i true) } rfl rfl);unfold sy at this ⊢;rw[bxNext];exact this
      ·simp only[Bt.moved];rw[if_neg hp3]
       exact l2.κ p (by have:=h2.inv.ng;have e: (sy ops S SV ms L).ng=SV.ng:=rfl;omega)
    |false=>
     obtain⟨k2,k3,k4⟩:=g7 hbb;rw[hw,hbb,if_neg (by simp)];refine next _ _ (.inl ⟨bt,nostore,?_,κNext bt (fun _ _ _ _=>rfl)⟩)
     have:=h2.put uy (envNext (.tup []) k4 (sy ops S SV ms L) rfl rfl);unfold sy at this ⊢;rw[plain k2 k3,bxNext];exact this
 have start:Iq w0 W btI SI D P ops S SV S' ms M (Array.replicate ops.size false) a { w with drawn:=w.drawn+1 } :=by
  have hno: ∀i,(Array.replicate ops.size false).getD i false=false:=by intro i;rw[aQ,Array.getElem?_replicate];split<;>rfl
  refine .inl ⟨({ bt with nb:=S.nb }:Bt).widen S.ng SV.ng,fun i o _ _=>hno i,?_,fun p c hp _ _=> ?_⟩
  ·have e1:fg ops S SV (Array.replicate ops.size false)=S.env:=by
    funext t
    unfold fg;rw[if_neg];intro hdn;obtain⟨i,o,hi,hl,_⟩:=ik.1 hdn;rw[hno] at hl;cases hl
   have e2:tL S ms (Array.replicate ops.size false)=S.gh:=by
    funext r
    have hnt:ib ms (Array.replicate ops.size false) r=false:=by
     cases hx:ib ms (Array.replicate ops.size false) r with
     |false=>rfl
     |true=>obtain⟨j,m',p1,p2,p3⟩:=gM.1 hx;rw[hno] at p2;cases p2
    unfold tL;rw[hnt];split
    ·rfl
    ·rename_i hr
     have :S.gh r=none:=by
      cases hx:S.gh r with
      |none=>rfl
      |some t=>exact absurd (hgh r t hx) hr
     rw[this];split
     ·rw[hno]; rfl
     ·rfl
   have e3:uL ops S (Array.replicate ops.size false)=Sp.bx:=by
    funext n
    by_cases hn:n<Sp.nb
    ·rw[oldL _ n hn,pr3 n hn]
    ·have hsp:Sp.bx n=none:=by
      cases hx:Sp.bx n with
      |none=>rfl
      |some cs=>exact absurd (h.inv.bx n cs hx).1 hn
     rw[hsp];unfold uL;split
     ·rfl
     ·rename_i hw;cases hx:S.bx n with
      |none=>rfl
      |some cs=>
       exfalso;rcases bxOf n cs hx with ⟨h1,_⟩| ⟨k,o,_,q1,q2,q3,_⟩
       ·exact hn h1
       ·exact hw (jz.2 ⟨k,o,q1,q2,hno k,q3.symm⟩)
   have e4:sy ops S SV ms (Array.replicate ops.size false)= { ({ Sp with nb:=S.nb }:St) with ng:=SV.ng } :=by
    unfold sy;rw[e1,e2,e3]
    conv=>lhs; rw[pr1]
   rw[e4];have hw:=((h.widenB (N:=S.nb) (by omega)).widen (N:=SV.ng) (by show Sp.ng<=SV.ng; rw[<-sng]; exact fN)).drawn (w.drawn+1);rw[sng];exact hw
  ·simp only[Bt.widen];rw[if_neg (by omega)]
 refine wp_region_any hm (main ops.size _ (List.range ops.size) a _ (by simp) List.nodup_range (fun i=> ?_) (by simp) (fun j hj hjt=> ?_) start)
 ·simp only[bk];constructor
  ·intro hi;exact⟨hi,by simp[aQ,hi]⟩
  ·exact fun h=>h.1
 ·simp[aQ,hj] at hjt
end
end
section
open Go Go.RowKit
section
variable {P:Program} {w0 w w':World} {W:Nat->Prop} {btI bt bt':Bt} {SI S S' SV:St} {a a':Act} {D:mu} {Q:Exit->Act->World->Prop} {ops:Array Oper}
def G5 (S S':St):Prop:=S'.env=S.env/\S'.bx=S.bx/\S'.nt=S.nt/\S.ng<=S'.ng
theorem BN {sz:Nat} {fl:Bool} {x:AV} {more:List (List T)} {env:Nat->AV} (h:gA S sz fl x=some (more,S')):gA { S with env:=env } sz fl x=some (more,{ S' with env:=env })/\G5 S S':=by
 cases x with
 |em=>simp only[gA,ae,al] at h ⊢;obtain⟨rfl,rfl⟩:=h;exact⟨⟨rfl,rfl⟩,rfl,rfl,rfl,aw _⟩
 |ro s rows=>
  simp only[gA] at h ⊢;split at h
  ·rename_i hc;simp only[ae,al] at h;obtain⟨rfl,rfl⟩:=h;exact⟨by rw[if_pos hc],rfl,rfl,rfl,aw _⟩
  ·cases h
 |own p s lo len=>
  simp only[gA] at h ⊢;split at h
  ·rename_i hc;rw[if_pos hc];simp only[aj] at h;obtain⟨rows,h1,h⟩:=h;rw[show ({ S with env:=env }:St).rows p sz=S.rows p sz from rfl,h1];simp only[af];split at h
   ·rename_i hd;simp only[ae,al] at h;obtain⟨rfl,rfl⟩:=h;exact⟨by rw[if_pos hd],rfl,rfl,rfl,aw _⟩
   ·rename_i hd;rw[if_neg hd];split at h
    ·rename_i he;simp only[ae,al] at h;obtain⟨rfl,rfl⟩:=h;exact⟨by rw[if_pos he],rfl,rfl,rfl,aw _⟩
    ·cases h
  ·cases h
 | _=>simp[gA] at h
theorem ya {b:AV} {sz:Nat} {more:List (List T)} {v:AV} {env:Nat->AV} (h:fW S b sz more=some (v,S')):fW { S with env:=env } b sz more=some (v,{ S' with env:=env })/\G5 S S':=by
 cases b with
 |em=>simp only[fW,ae,al] at h ⊢;obtain⟨rfl,rfl⟩:=h;exact⟨⟨rfl,rfl⟩,rfl,rfl,rfl,cF _⟩
 |own p s lo len=>
  simp only[fW] at h ⊢;split at h
  ·rename_i hc;rw[if_pos hc];simp only[aj] at h;obtain⟨rows,h1,h⟩:=h;rw[show ({ S with env:=env }:St).rows p sz=S.rows p sz from rfl,h1];simp only[af];split at h
   ·cases h
   ·rename_i hd;rw[if_neg hd];simp only[ae,al] at h;obtain⟨rfl,rfl⟩:=h;refine⟨?_,?_,?_,?_,?_⟩
    ·split<;>rfl
    ·split<;>rfl
    ·split<;>rfl
    ·split<;>rfl
    ·split<;>exact cF _
  ·cases h
 | _=>simp[fW] at h
def w9 (P:Program) (o:Oper):Bool:=match o.op with
 | .buildSlice t _ _=>match o6 P t with |some el=>qj P el|none=>true
 | _=>true
theorem zT {o:Oper} {v:AV} {env:Nat->AV} (hn:ez o=true) (hf:kO o=false) (hfl:w9 P o=true) (hop: ∀x∈o.op.operands,opd { S with env:=env } x=opd S x) (h:fq D P S o=some (v,S')):
  fq D P { S with env:=env } o=some (v,{ S' with env:=env })/\G5 S S':=by
 obtain⟨dst,op,type,pos,after,guard⟩:=o;cases op with
 |buildSlice t len parts=>
  have e1: ∀x∈parts.toList,opd { S with env:=env } x.2=opd S x.2:=fun x hx=>hop x.2 (by simp only[Op.operands,cX]; exact aL.2 ⟨x,hx,rfl⟩);simp only[fq,aj] at h ⊢;obtain⟨el,hel,h⟩:=h
  have a1:parts.toList.all (fun x=>decide ((opd { S with env:=env } x.2).cells.length=P.cellsOf el)&& !(opd { S with env:=env } x.2).isDead)=parts.toList.all (fun x=>decide ((opd S x.2).cells.length=P.cellsOf el)&& !(opd S x.2).isDead):=by rw[bZ,au,au];exact forall_congr' fun x=>forall_congr' fun hx=>by rw[e1 x hx]
  have a2:parts.toList.any (fun x=>(opd { S with env:=env } x.2).cells.any xJ)=parts.toList.any (fun x=>(opd S x.2).cells.any xJ):=by rw[bZ,bN,bN];exact exists_congr fun x=>and_congr_right fun hx=>by rw[e1 x hx]
  have a3:parts.toList.map (fun x=>(opd { S with env:=env } x.2).cells)=parts.toList.map (fun x=>(opd S x.2).cells):=aG fun x hx=>by rw[e1 x hx]
  have a4:parts.toList.map (fun x=>(opd { S with env:=env } x.2).cells.map T.ofSc)=parts.toList.map (fun x=>(opd S x.2).cells.map T.ofSc):=aG fun x hx=>by rw[e1 x hx]
  have hfl': (ku P 9 el).all (· ==0)=true:=by simp only[w9,hel] at hfl;exact hfl
  split at h
  ·rename_i hc;split at h
   ·rename_i hr;simp only[ak,al] at h;obtain⟨rows,h1,rfl,rfl⟩:=h;refine⟨⟨el,hel,?_⟩,rfl,rfl,rfl,aw _⟩;rw[a1,if_pos hc,a2,if_pos hr,a3,h1];rfl
   ·rename_i hr
    first |rw[if_pos hfl'] at h|skip
    simp only[az,ae,al] at h;obtain⟨rfl,rfl⟩:=h;refine⟨⟨el,hel,?_⟩,rfl,rfl,rfl,cF _⟩;rw[a1,if_pos hc,a2,if_neg hr,if_pos hfl',a4];rfl
  ·cases h
 |call c=>
  obtain⟨cl,as,ts⟩:=c;cases cl with
  |value f=>simp[kO] at hf
  |invoke r m=>simp[ez] at hn
  |builtin b=>
   cases b with
   |append=>
    have e1: ∀x∈as.toList,opd { S with env:=env } x=opd S x:=fun x hx=>hop x (by simp only[Op.operands,Call.operands];simpa using hx)
    simp only[fq] at h ⊢;split at h
    ·rename_i s x t t' has hts;have es:opd { S with env:=env } s=opd S s:=e1 s (by rw[has]; simp);have ex:opd { S with env:=env } x=opd S x:=e1 x (by rw[has]; simp);simp only[es,ex];split at h
     ·rename_i htt;rw[if_pos htt];simp only[aj] at h ⊢;obtain⟨el,hel,⟨more,S1⟩,h1,⟨v1,S2⟩,h2,h3⟩:=h;obtain⟨g1,c1⟩:=BN (env:=env) h1;obtain⟨g2,c2⟩:=ya (env:=env) h2;simp only at h3;split at h3
      ·split at h3
       ·rename_i hc;simp only[ae,al] at h3;obtain⟨rfl,rfl⟩:=h3;refine⟨⟨el,hel,_,g1,_,g2,?_⟩,c2.1.trans c1.1,c2.2.1.trans c1.2.1,c2.2.2.1.trans c1.2.2.1,bE c1.2.2.2 c2.2.2.2⟩;simp only;rw[if_pos hc]
       ·cases h3
      ·cases h3
     ·rename_i htt;rw[if_neg htt];simp only[aj] at h ⊢;obtain⟨el,hel,z,hz,h⟩:=h;split at h
      ·rename_i h1 h2;split at h
       ·rename_i hc;simp only[ae,al] at h;obtain⟨rfl,rfl⟩:=h;refine⟨⟨el,hel,z,hz,?_⟩,rfl,rfl,rfl,cF _⟩;rw[if_pos hc]
       ·cases h
      ·cases h
    ·cases h
   | _=>simp[ez] at hn
 | _=>simp[ez] at hn
def ry (o:Oper):Bool:=match o.op with | .buildSlice .. =>false| _=>ez o
theorem Fg {o:Oper} {v:AV} (hn:ez o=true) (ha:ry o=false) (hfl:w9 P o=true) (h:fq D P S o=some (v,S')): ∀r,r<S.ng->S'.gh r=S.gh r:=by
 obtain⟨dst,op,type,pos,after,guard⟩:=o;cases op with
 |buildSlice t len parts=>
  simp only[fq,aj] at h;obtain⟨el,hel,h⟩:=h
  have hfl': (ku P 9 el).all (· ==0)=true:=by simp only[w9,hel] at hfl;exact hfl
  split at h
  ·split at h
   ·simp only[ak,al] at h;obtain⟨rows,h1,rfl,rfl⟩:=h;exact fun r _=>rfl
   ·first |rw[if_pos hfl'] at h|skip
    simp only[az,ae,al] at h;obtain⟨rfl,rfl⟩:=h;intro r hr;simp only[eh];rw[if_neg (by omega)]
  ·cases h
 | _=>simp only[ry,hn] at ha; cases ha
def Ir (n0:Nat) (pin:Bool):AV->Bool| .ptrB _ _=>true| .pro _=>true| .ptrT p _ _ _=>pin&&Nat.blt p.r n0| _=>false
def yb (n0:Nat) (pin:Bool) (S:St) (o:Oper):Bool:=match o.op with | .load _ x=>Ir n0 pin (opd S x)| _=>true
def BO (ops:List Oper) (B:List (List Nat)) (j:Nat):Bool:=(List.range ops.length).all fun i=>match ops[i]? with
 |some oi=> !ry oi||(B.getD j []).contains i||(B.getD i []).contains j
 |none=>true
def wm:mu:=fun _ _ _ _=>none
theorem qP:jN P wm:=by intro d f args gs res out h;cases h
def uM (P:Program) (n0:Nat) (S:St) (o:Oper) (pin:Bool):Option (AV×St):=if ez o||dF o then fq wm P S o else if yb n0 pin S o then (dH wm P S o).map fun v=>(v,S) else none
def G6 (P:Program) (n0:Nat) (ops:List Oper) (B:List (List Nat)):Nat->List Oper->St->Option St
 | _,[],S=>some S
 |k,o::os,S=>(uM P n0 S o (BO ops B k)).bind fun (v,S1)=>(S1.put o.dst v).bind (G6 P n0 ops B (k+1) os)
theorem DS {n0:Nat} {ops:List Oper} {B:List (List Nat)}: ∀ (l:List Oper) (k:Nat) (S S':St),G6 P n0 ops B k l S=some S'-> ∃T:Nat->St,T k=S/\T (k+l.length)=S'/\ ∀i o,l[i]? =some o-> ∃v Y,uM P n0 (T (k+i)) o (BO ops B (k+i))=some (v,Y)/\Y.put o.dst v=some (T (k+i+1)):=by
 intro l
 induction l with
 |nil=>intro k S S' h;simp only[G6,ae] at h;exact⟨fun _=>S,rfl,h,fun i o hi=>by simp at hi⟩
 |cons o l ih=>
  intro k S S' h;simp only[G6,aj] at h;obtain⟨⟨v,Y⟩,h1,S1,h2,h3⟩:=h;obtain⟨T,t1,t2,t3⟩:=ih (k+1) S1 S' h3;refine⟨fun n=>if n<=k then S else T n,by simp,?_,fun i oi hi=> ?_⟩
  ·simp only;rw[if_neg (by simp),<-t2]
   congr 1
   simp only[aY];omega
  ·cases i with
   |zero=>simp only[aF,ae] at hi;subst hi;refine⟨v,Y,by simpa using h1,?_⟩;simp only;rw[if_neg (by omega),show k+0+1=k+1 by omega,t1];exact h2
   |succ i=>
    simp only[bV] at hi;obtain⟨v',Y',g1,g2⟩:=t3 i oi hi;refine⟨v',Y',?_,?_⟩
    ·simp only;rw[if_neg (by omega),show k+(i+1)=k+1+i by omega];exact g1
    ·simp only;rw[if_neg (by omega),show k+(i+1)+1=k+1+i+1 by omega];exact g2
def zU (all:Array Oper) (B:List (List Nat)) (i j:Nat) (oi oj:Oper):Bool:=
 (i==j||oi.dst.isNone||oi.dst != oj.dst)&&(!(ez oi&&ez oj&&decide (i<j))||(B.getD j []).contains i)&&
 (match oi.dst with |some d=> !(oj.looksAt all).contains d||(B.getD j []).contains i|none=>true)
def KA (all:Array Oper):Bool:=
 let ops:=all.toList
 let B:=eY ops
 CQ ops B&&(match ops.getLast? with |some o=>dF o|none=>false)&&(List.range ops.length).all fun j=>match ops[j]? with
  |none=>false
  |some oj=> !kO oj&& !eO oj&&oj.guard.isNone&&(oj.after.toList.all fun e=> !Region.binds .any e||decide (e.on<j))&&
   (!dF oj||(decide (j+1=ops.length)&&oj.dst.isNone&&(List.range j).all fun i=>(B.getD j []).contains i))&&
   (List.range ops.length).all fun i=>match ops[i]? with |none=>false|some oi=>zU all B i j oi oj
def uN (all:Array Oper):Bool:=(all.toList.any fun o=>match o.op with | .indexAddr .. =>true| _=>false)&&(all.toList.any fun o=>match o.op with | .call { callee:= .builtin .append, .. } =>true| _=>false)&&KA all
def Fh (P:Program) (all:Array Oper):Bool:=KA all&&all.toList.all fun o=>kQ P o&&w9 P o
structure KO (P:Program) (ops:Array Oper) (B:List (List Nat)):Prop where
 lt: ∀ (j i:Nat),j<ops.size->i∈B.getD j [] ->i<j
 edge: ∀ (j i:Nat) (o:Oper),ops[j]? =some o->i∈B.getD j [] -> ∃e∈o.after,Region.binds .any e=true/\(e.on=i\/i∈B.getD e.on [])
 ok: ∀ (j:Nat) (o:Oper),ops[j]? =some o->kQ P o=true/\w9 P o=true
 on: ∀ (j:Nat) (o:Oper) (e:Edge),ops[j]? =some o->e∈o.after->Region.binds .any e=true->e.on<j
 st: ∀ (j:Nat) (o:Oper),ops[j]? =some o->dF o=true->j+1=ops.size/\o.dst=none/\ ∀i,i<j->i∈B.getD j []
 last: ∃o,0<ops.size/\ops[ops.size-1]? =some o/\dF o=true
 pl: ∀ (j:Nat) (o:Oper),ops[j]? =some o->kO o=false/\o.guard=none
 dst: ∀ (i j:Nat) (oi oj:Oper) (d:Tmp),ops[i]? =some oi->ops[j]? =some oj->oi.dst=some d->oj.dst=some d->i=j
 wr: ∀ (i j:Nat) (oi oj:Oper),ops[i]? =some oi->ops[j]? =some oj->ez oi=true->ez oj=true->i<j->i∈B.getD j []
 look: ∀ (i j:Nat) (oi oj:Oper) (d:Tmp),ops[i]? =some oi->ops[j]? =some oj->oi.dst=some d->d∈oj.looksAt ops->i∈B.getD j []
theorem DT (h:Fh P ops=true):KO P ops (eY ops.toList):=by
 unfold Fh at h;simp only[ao] at h;obtain⟨h0,hP⟩:=h;unfold KA at h0;simp only[ao] at h0;obtain⟨⟨h1,hl⟩,h2⟩:=h0
 have lst: ∀ (j:Nat) (o:Oper),ops[j]? =some o->j<ops.toList.length/\ops.toList[j]? =some o:=by intro j o ho;refine⟨?_,by simpa using ho⟩;have:=(aD.1 ho).1;simpa using this
 have h3: ∀ (j:Nat) (oj:Oper),ops[j]? =some oj->kO oj=false/\oj.guard=none/\(oj.after.toList.all fun e=> !Region.binds .any e||decide (e.on<j))=true/\(dF oj=true->j+1=ops.size/\oj.dst=none/\ ∀i,i<j->i∈(eY ops.toList).getD j [])/\
   ∀ (i:Nat) (oi:Oper),ops[i]? =some oi->zU ops (eY ops.toList) i j oi oj=true:=by
  intro j oj hj;obtain⟨l1,l2⟩:=lst j oj hj;have:=au.1 h2 j (bk.2 l1);simp only[l2,ao,bL,cE,bg] at this;obtain⟨⟨⟨⟨⟨q1,_⟩,q2⟩,q3⟩,q4⟩,q5⟩:=this;refine⟨q1,q2,?_,fun hs=> ?_,fun i oi hi=> ?_⟩
  ·rw[au] at q3 ⊢;intro e he;have:=q3 e he;simpa using this
  ·rcases q4 with q4|q4
   ·rw[hs] at q4;cases q4
   ·obtain⟨⟨r1,r2⟩,r3⟩:=q4;refine⟨by simpa using r1,r2,fun i hi=> ?_⟩;exact bh.1 (au.1 r3 i (bk.2 hi))
  ·obtain⟨m1,m2⟩:=lst i oi hi;have:=au.1 q5 i (bk.2 m1);simpa only[m2] using this
 have h4: ∀ (j i:Nat),j<ops.size->i∈(eY ops.toList).getD j [] ->i<j/\ ∀o,ops[j]? =some o-> ∃e∈o.after,Region.binds .any e=true/\(e.on=i\/i∈(eY ops.toList).getD e.on []):=by intro j i hj hi;unfold CQ at h1;have:=au.1 (au.1 h1 j (bk.2 (by simpa using hj))) i hi;simp only[ao,decide_eq_true_eq] at this;refine⟨this.1,fun o ho=> ?_⟩;have h5:=this.2;rw[(lst j o ho).2] at h5;simp only[bN,ao,bg,beq_iff_eq,bh] at h5;obtain⟨e,he,hb,hc⟩:=h5;exact⟨e,by simpa using he,hb,hc⟩
 refine⟨fun j i hj hi=>(h4 j i hj hi).1,fun j i o ho hi=>(h4 j i (aD.1 ho).1 hi).2 o ho,fun j o ho=> ?_,fun j o e ho he hb=> ?_,fun j o ho hs=>(h3 j o ho).2.2.2.1 hs,?_,fun j o ho=>⟨(h3 j o ho).1,(h3 j o ho).2.1⟩,fun i j oi oj d hi hj hdi hdj=> ?_,fun i j oi oj hi hj hni hnj hlt=> ?_,fun i j oi oj d hi hj hd hlk=> ?_⟩
 ·have:=au.1 hP o (aq (lst j o ho).2);simpa using this
 ·have:=au.1 (h3 j o ho).2.2.1 e (by simpa using he);simpa [hb] using this
 ·split at hl
  ·rename_i o ho;rw[List.getLast?_eq_getElem?] at ho;have hlt:=(ai.1 ho).1;refine⟨o,?_,?_,hl⟩
   ·simp only[b7] at hlt;omega
   ·simpa using ho
  ·cases hl
 ·have:=(h3 j oj hj).2.2.2.2 i oi hi;unfold zU at this;simp only[ao,bg,beq_iff_eq] at this;rcases this.1.1 with (h|h)|h
  ·exact h
  ·rw[hdi] at h; cases h
  ·rw[hdi,hdj] at h; simp at h
 ·have:=(h3 j oj hj).2.2.2.2 i oi hi;unfold zU at this;simp only[ao,bg] at this;rcases this.1.2 with h|h
  ·simp[hni,hnj,hlt] at h
  ·exact bh.1 h
 ·have:=(h3 j oj hj).2.2.2.2 i oi hi;unfold zU at this;simp only[ao] at this;have h':=this.2;rw[hd] at h';simp only[bg,bL,bh] at h';rcases h' with h'|h'
  ·rw[bh.2 hlk] at h';cases h'
  ·exact h'
theorem BP {d:Option Tmp} {v:AV} (h:S.put d v=some S'):S'= { S with env:=fun t=>if d=some t then v else S.env t } /\ ∀env:Nat->AV,({ S with env:=env }:St).put d v=some { S' with env:=fun t=>if d=some t then v else env t } :=by
 unfold St.put at h ⊢;cases d with
 |none=>simp only[ae] at h;subst h;exact⟨rfl,fun env=>rfl⟩
 |some t=>
  simp only at h;split at h
  ·rename_i hlt;simp only[ae] at h;subst h
   have e: ∀env:Nat->AV,eh env t v=fun u=>if some t=some u then v else env u:=by
    intro env
    funext u
    unfold eh;by_cases hu:u=t
    ·subst hu; simp
    ·rw[if_neg hu,if_neg (by simpa using fun h=>hu h.symm)]
   refine⟨by rw[e],fun env=> ?_⟩;simp only;rw[if_pos hlt,e]
  ·cases h
theorem Fi {D':mu} {o:Oper} (hf:kO o=false) (hn:ez o=true\/dF o=true):fq D P S o=fq D' P S o:=by
 obtain⟨dst,op,type,pos,after,guard⟩:=o;cases op with
 |call c=>
  obtain⟨cl,as,ts⟩:=c;cases cl with
  |value f=>simp[kO] at hf
  |invoke r m=>simp[ez,dF] at hn
  |builtin b=>cases b<;>first |rfl| (simp[ez,dF] at hn)
 | _=>first |rfl| (simp[ez,dF] at hn)
theorem BQ {all:Array Oper} (h:uN all=true): ∀o∈all.toList,kO o=false:=by intro o ho;unfold uN KA at h;simp only[ao] at h;obtain⟨j,hj,he⟩:=aM ho;have:=au.1 h.2.2 j (bk.2 hj);rw[show all.toList[j]? =some o by rw[<-he]; exact ah hj] at this;simp only[ao,bL] at this;exact this.1.1.1.1.1
theorem zV (hm:P.follows .mixedOrders=true) (hok:Fh P ops=true) {id:Nat} (h:Lv w0 W btI SI bt S a w) (hV:G6 P S.ng ops.toList (eY ops.toList) 0 ops.toList S=some S')
  (hK: ∀bt' a' w',Lv w0 W btI SI bt' S' a' w'->Q .normal a' w'): (Code.region id ops true).wp P Q a w:=by
 have ok:=DT hok;obtain⟨oL,hpos,hoL,hsL⟩:=ok.last;obtain⟨T,t1,t2,t3⟩:=DS _ _ _ _ hV;have tl: ∀ {i:Nat} {o:Oper},ops.toList[i]? =some o↔ops[i]? =some o:=by intro i o; simp
 simp only[aV] at t2 t3;have hn:ops.toList.length=ops.size:=by simp
 rw[hn] at t2
 have noSt: ∀i o,ops[i]? =some o->i+1<ops.size->dF o=false:=by
  intro i o ho hi;cases hs:dF o with
  |false=>rfl
  |true=>have:=(ok.st i o ho hs).1;omega
 have uQ: ∀i o,ops[i]? =some o->i+1<ops.size-> ∃v Y,uM P S.ng (T i) o (BO ops.toList (eY ops.toList) i)=some (v,Y)/\G5 (T i) Y/\(ez o=false->Y=T i)/\T (i+1)= { Y with env:=fun t=>if o.dst=some t then v else (T i).env t } /\(ez o=true->fq wm P (T i) o=some (v,Y))/\(ez o=false->dH wm P (T i) o=some v/\yb S.ng (BO ops.toList (eY ops.toList) i) (T i) o=true)/\Y.put o.dst v=some (T (i+1)):=by
  intro i o ho hi;obtain⟨v,Y,h1,h2⟩:=t3 i o (tl.2 ho);have hs:=noSt i o ho hi;have h1':=h1;unfold uM at h1;rw[hs,Bool.or_false] at h1;cases hnw:ez o with
  |true=>rw[hnw,if_pos rfl] at h1;obtain⟨_,hc⟩:=zT (env:=(T i).env) hnw (ok.pl i o ho).1 (ok.ok i o ho).2 (fun _ _=>rfl) h1;refine⟨v,Y,h1',hc,fun h=>(nomatch h),?_,fun _=>h1,fun h=>(nomatch h),h2⟩;rw[(BP h2).1,hc.1]
  |false=>
   rw[hnw,if_neg (by simp)] at h1;split at h1
   ·rename_i hp;simp only[ak,al] at h1;obtain⟨v',h3,rfl,rfl⟩:=h1;refine⟨v',_,h1',⟨rfl,rfl,rfl,aw _⟩,fun _=>rfl,(BP h2).1,fun h=>(nomatch h),fun _=>⟨h3,hp⟩,h2⟩
   ·cases h1
 have bxT: ∀j,j+1<=ops.size->(T j).bx=S.bx:=by
  intro j
  induction j with
  |zero=>intro _; rw[t1]
  |succ j ih=>intro hj;obtain⟨v,Y,_,hc,_,he,_⟩:=uQ j ops[j] (aI (by omega)) (by omega);rw[he];exact hc.2.1.trans (ih (by omega))
 have envOld: ∀j t,j+1<=ops.size->(∀i o,i<j->ops[i]? =some o->o.dst≠some t)->(T j).env t=S.env t:=by
  intro j t
  induction j with
  |zero=>intro _ _; rw[t1]
  |succ j ih=>intro hj hno;obtain⟨v,Y,_,hc,_,he,_⟩:=uQ j ops[j] (aI (by omega)) (by omega);rw[he];simp only;rw[if_neg (hno j _ (by omega) (aI (by omega)))];exact ih (by omega) (fun i o hi=>hno i o (by omega))
 have envNew: ∀j i o t,i<j->j+1<=ops.size->ops[i]? =some o->o.dst=some t->(T j).env t=(T (i+1)).env t:=by
  intro j i o t hij hj ho hd
  induction j with
  |zero=>omega
  |succ j ih=>
   by_cases he:i=j
   ·rw[he]
   ·obtain⟨v,Y,_,hc,_,heq,_⟩:=uQ j ops[j] (aI (by omega)) (by omega);rw[heq];simp only;rw[if_neg (fun hd'=>he (ok.dst i j o _ t ho (aI (by omega)) hd hd'))];exact ih (by omega) (by omega)
 have memT: ∀j k (env:Nat->AV),j<=k->k+1<=ops.size->(∀i o,j<=i->i<k->ops[i]? =some o->ez o=false)->({ T j with env:=env }:St)= { T k with env:=env } :=by
  intro j k env hjk
  induction k with
  |zero=>intro _ _; rw[show j=0 by omega]
  |succ k ih=>
   intro hk hno;by_cases he:j=k+1
   ·rw[he]
   ·obtain⟨v,Y,_,hc,hy,heq,_⟩:=uQ k ops[k] (aI (by omega)) (by omega);have hy:=hy (hno k _ (by omega) (by omega) (aI (by omega)));rw[ih (by omega) (by omega) (fun i o h1 h2=>hno i o h1 (by omega)),heq,hy]
 have ngT: ∀j,j+1<=ops.size->S.ng<=(T j).ng:=by
  intro j
  induction j with
  |zero=>intro _; rw[t1]; exact aw _
  |succ j ih=>intro hj;obtain⟨v,Y,_,hc,_,he,_⟩:=uQ j ops[j] (aI (by omega)) (by omega);rw[he];exact bE (ih (by omega)) hc.2.2.2
 have ghT: ∀j k (r:Nat),j<=k->k+1<=ops.size->(∀i o,j<=i->i<k->ops[i]? =some o->ry o=false)->r<S.ng->(T j).gh r=(T k).gh r:=by
  intro j k r hjk
  induction k with
  |zero=>intro _ _ _; rw[show j=0 by omega]
  |succ k ih=>
   intro hk hno hr;by_cases he:j=k+1
   ·rw[he]
   ·obtain⟨v,Y,_,hc,hy,heq,hst,_⟩:=uQ k ops[k] (aI (by omega)) (by omega);have ha:=hno k _ (by omega) (by omega) (aI (show k<ops.size by omega));rw[ih (by omega) (by omega) (fun i o h1 h2=>hno i o h1 (by omega)) hr,heq];show (T k).gh r=Y.gh r;cases hn:ez ops[k] with
    |false=>rw[hy hn]
    |true=>exact (Fg hn ha (ok.ok k _ (aI (by omega))).2 (hst hn) r (aW hr (ngT k (by omega)))).symm
 let SV:=T (ops.size-1)
 let Iq (L:Array Bool) (a:Act) (w:World):Prop:=(L.getD (ops.size-1) false=false/\ ∃bt k,k+1<=ops.size/\(∀i o,ops[i]? =some o->ez o=true->(L.getD i false=true↔i<k))/\Lv w0 W btI SI bt { T k with env:=fg ops S SV L } a w)\/
  (L.getD (ops.size-1) false=true/\ ∃bt,Lv w0 W btI SI bt S' a w)
 have fin: ∀L a w,(∀i,i<ops.size->L.getD i false=true)->Iq L a w->Q .normal a w:=by
  intro L a w hL hsim;rcases hsim with ⟨h1,_⟩| ⟨_,bt,h2⟩
  ·rw[hL _ (by omega)] at h1;cases h1
  ·exact hK _ _ _ h2
 have main: ∀ (fuel:Nat) (L:Array Bool) (rem:List Nat) (a:Act) (w:World),rem.length=fuel->rem.Nodup->(∀i,i∈rem↔i<ops.size/\L.getD i false=false)->L.size=ops.size->
   (∀j,j<ops.size->L.getD j false=true-> ∀i∈(eY ops.toList).getD j [],L.getD i false=true)->Iq L a w->wpAny P .any ops Q fuel L a w:=by
  have flip: ∀ (L:Array Bool) (i:Nat),L.size=ops.size->i<ops.size->(L.getD i true=L.getD i false):=by intro L i h1 h2;simp only[aQ];rw[aI (by omega)];rfl
  have nor: ∀ (L:Array Bool),L.size=ops.size->Region.ready .any ops L= [] -> ∀i,i<ops.size->L.getD i false=true:=by
   intro L hsz hr i
   induction i using Nat.strongRecOn with
   | _ i ih=>
     intro hi;cases hx:L.getD i false with
     |true=>rfl
     |false=>
      have hm:i∈Region.ready .any ops L:=by rw[mem_ready];refine⟨by rw[flip L i hsz hi]; exact hx,ops[i],aI hi,fun e he hb=> ?_⟩;have:=ok.on i _ e (aI hi) he hb;exact ih _ this (by omega)
      rw[hr] at hm;cases hm
  intro fuel
  induction fuel with
  |zero=>
   intro L rem a w hl _ hrem hsz hcl hsim
   have hall: ∀i,i<ops.size->L.getD i false=true:=by
    intro i hi;cases hx:L.getD i false with
    |true=>rfl
    |false=>have:=(hrem i).2 ⟨hi,hx⟩;rw[be hl] at this;cases this
   refine⟨?_,fin L a w hall hsim⟩;cases hr:Region.ready .any ops L with
   |nil=>rfl
   |cons i rs=>
    have hm:i∈Region.ready .any ops L:=by rw[hr]; exact aH
    obtain⟨h1,o,h2,_⟩:=mem_ready.1 hm;have hi:=(aD.1 h2).1;rw[flip L i hsz hi,hall i hi] at h1;cases h1
  |succ fuel ih=>
   intro L rem a w hl hnd hrem hsz hcl hsim;refine⟨fun hr=>fin L a w (nor L hsz hr) hsim,fun i hi=> ?_⟩;obtain⟨hun,o,ho,hpre⟩:=mem_ready.1 hi;have hin:=(aD.1 ho).1;rw[flip L i hsz hin] at hun
   have hB: ∀j∈(eY ops.toList).getD i [],L.getD j false=true:=by
    intro j hj;obtain⟨e,he,hb,hor⟩:=ok.edge i j o ho hj;have hl:=hpre e he hb;rcases hor with rfl|hor
    ·exact hl
    ·exact hcl e.on (Nat.lt_trans (ok.on i o e ho he hb) hin) hl j hor
   have hiL:i<L.size:=by omega
   have hset: ∀j,(L.setIfInBounds i true).getD j false=if j=i then true else L.getD j false:=fun j=>pf hiL
   have next: ∀a' w',Iq (L.setIfInBounds i true) a' w'->wpAny P .any ops Q fuel (L.setIfInBounds i true) a' w':=by
    intro a' w' hs';refine ih (L.setIfInBounds i true) (rem.erase i) a' w' ?_ (hnd.erase i) (fun j=> ?_) (by simpa using hsz) (fun j hj hjt k hk=> ?_) hs'
    ·rw[List.length_erase_of_mem ((hrem i).2 ⟨hin,hun⟩),hl];rfl
    ·rw[hnd.mem_erase_iff,hrem j,hset j];by_cases hji:j=i
     ·subst hji;simp
     ·simp[hji]
    ·rw[hset] at hjt ⊢;split at hjt
     ·rename_i hji;subst hji;split
      ·rfl
      ·exact hB k hk
     ·split
      ·rfl
      ·exact hcl j hj hjt k hk
   unfold wpOp;rw[ho];simp only;have hw:Region.wanted o (yielded ops a.tmps)=true:=by simp[Region.wanted,(ok.pl i o ho).2]
   rw[if_pos hw];rcases hsim with ⟨hlast,bt,k,hk,hph,hLv⟩| ⟨hlast,_⟩
   case inr=>
    exfalso;have hst:=ok.st _ oL hoL hsL;by_cases he:i=ops.size-1
    ·rw[he,hlast] at hun; cases hun
    ·have:=hcl (ops.size-1) (by omega) hlast i (hst.2.2 i (by omega));rw[this] at hun;cases hun
   have hlook: ∀x∈o.op.operands,opd { T k with env:=fg ops S SV L } x=opd (T i) x:=by
    intro x hx;cases x with
    |tmp t=>
     show fg ops S SV L t=(T i).env t;have hlk:t∈o.looksAt ops:=bP _ (cw.2 ⟨.tmp t,by simpa using hx,rfl⟩);by_cases hex: ∃ (j:Nat) (oj:Oper),ops[j]? =some oj/\oj.dst=some t
     ·obtain⟨j,oj,hj,hd⟩:=hex;have hjB:=ok.look j i oj o t hj ho hd hlk;have hji:=ok.lt i j hin hjB;unfold fg;rw[if_pos (ik.2 ⟨j,oj,hj,hB j hjB,hd⟩)];rw[envNew i j oj t hji (by omega) hj hd];exact envNew (ops.size-1) j oj t (by omega) (by omega) hj hd
     ·unfold fg
      rw[if_neg (fun hdn=>by obtain⟨j,oj,h1,_,h3⟩:=ik.1 hdn;exact hex ⟨j,oj,h1,h3⟩)]
      rw[envOld i t (by omega) (fun j oj _ hj hd=>hex ⟨j,oj,hj,hd⟩)]
    | _=>rfl
   by_cases hie:i=ops.size-1
   ·
    subst hie;rw[ho] at hoL;simp only[ae] at hoL;subst hoL;obtain⟨hs1,hs2,hs3⟩:=ok.st _ o ho hsL;have hall: ∀j,j<ops.size-1->L.getD j false=true:=fun j hj=>hB j (hs3 j hj)
    have henv:fg ops S SV L=SV.env:=by
     funext t
     unfold fg;split
     ·rfl
     ·rename_i hnd;refine (envOld (ops.size-1) t (by omega) (fun j oj hj hoj hd=>hnd (ik.2 ⟨j,oj,hoj,hall j hj,hd⟩))).symm
    have hX: ({ T k with env:=fg ops S SV L }:St)=T (ops.size-1):=by
     rw[memT k (ops.size-1) _ (by omega) (by omega) (fun j oj h1 h2 hoj=>by
      cases hx:ez oj with
      |false=>rfl
      |true=>have:=(hph j oj hoj hx).1 (hall j h2);omega),henv]
    rw[hX] at hLv;obtain⟨v,Y,g1,g2⟩:=t3 _ o (tl.2 ho);unfold uM at g1;rw[hsL,Bool.or_true,if_pos rfl] at g1
    have g3:one wm P (T (ops.size-1)) o=some S':=by unfold one;rw[g1];simp only[af];rw[g2,show ops.size-1+1=ops.size by omega,t2]
    refine .inl <| nX qP hLv (ok.ok _ o ho).1 g3 (fun bt' a' w' h'=>next a' w' (.inr ⟨?_,bt',h'⟩));rw[hset,if_pos rfl]
   ·have hi1:i+1<ops.size:=by omega
    obtain⟨v,Y,g1,hc,hy,heq,hst,hvl,hput⟩:=uQ i o ho hi1
    have henvS: (fun t=>if o.dst=some t then v else fg ops S SV L t)=fg ops S SV (L.setIfInBounds i true):=by
     funext t
     rw[nY hiL ho];by_cases hd:o.dst=some t
     ·rw[if_pos hd,if_pos hd];show v=(T (ops.size-1)).env t;rw[envNew (ops.size-1) i o t (by omega) (by omega) ho hd,heq];simp only;rw[if_pos hd]
     ·rw[if_neg hd,if_neg hd]
    have hlast': (L.setIfInBounds i true).getD (ops.size-1) false=false:=by rw[hset,if_neg (by omega)]; exact hlast
    have notDone: ∀j oj,ops[j]? =some oj->i∈(eY ops.toList).getD j [] ->L.getD j false=false:=by
     intro j oj hj hij;cases hx:L.getD j false with
     |false=>rfl
     |true=>have:=hcl j (aD.1 hj).1 hx i hij;rw[hun] at this;cases this
    have memG:BO ops.toList (eY ops.toList) i=true->ez o=false-> ∀r,r<S.ng->(T k).gh r=(T i).gh r:=by
     intro hp hnw0 r hr
     have appN: ∀oj,ry oj=true->ez oj=true:=by
      intro oj h;unfold ry at h;split at h
      ·cases h
      ·exact h
     have hp': ∀j oj,ops[j]? =some oj->ry oj=true->j∈(eY ops.toList).getD i [] \/i∈(eY ops.toList).getD j [] :=by intro j oj hj hnw;unfold BO at hp;have:=au.1 hp j (bk.2 (by simpa using (aD.1 hj).1));rw[tl.2 hj] at this;simpa [hnw] using this
     rcases Nat.le_total k i with hki|hki
     ·refine ghT k i r hki (by omega) (fun j oj h1 h2 hoj=> ?_) hr;cases hx:ry oj with
      |false=>rfl
      |true=>
       exfalso;rcases hp' j oj hoj hx with h|h
       ·have:=(hph j oj hoj (appN oj hx)).1 (hB j h);omega
       ·have:=ok.lt j i (aD.1 hoj).1 h;omega
     ·refine (ghT i k r hki hk (fun j oj h1 h2 hoj=> ?_) hr).symm;cases hx:ry oj with
      |false=>rfl
      |true=>
       exfalso;have hd:=(hph j oj hoj (appN oj hx)).2 h2;by_cases hji:j=i
       ·rw[hji,hun] at hd; cases hd
       ·rcases hp' j oj hoj hx with h|h
        ·have:=ok.lt i j hin h;omega
        ·rw[notDone j oj hoj h] at hd; cases hd
    have memI:ez o=true-> ∀env:Nat->AV,({ T k with env:=env }:St)= { T i with env:=env } :=by
     intro hp env
     have hp': ∀j oj,ops[j]? =some oj->ez oj=true->j≠i->j∈(eY ops.toList).getD i [] \/i∈(eY ops.toList).getD j [] :=by
      intro j oj hj hnw hji;rcases Nat.lt_or_gt_of_ne hji with hlt|hlt
      ·exact .inl (ok.wr j i oj o hj ho hnw hp hlt)
      ·exact .inr (ok.wr i j o oj ho hj hp hnw hlt)
     rcases Nat.le_total k i with hki|hki
     ·refine memT k i env hki (by omega) (fun j oj h1 h2 hoj=> ?_);cases hx:ez oj with
      |false=>rfl
      |true=>
       exfalso;rcases hp' j oj hoj hx (by omega) with h|h
       ·have:=(hph j oj hoj hx).1 (hB j h);omega
       ·have:=ok.lt j i (aD.1 hoj).1 h;omega
     ·refine (memT i k env hki hk (fun j oj h1 h2 hoj=> ?_)).symm;cases hx:ez oj with
      |false=>rfl
      |true=>
       exfalso;have hd:=(hph j oj hoj hx).2 h2;by_cases hji:j=i
       ·rw[hji,hun] at hd; cases hd
       ·rcases hp' j oj hoj hx hji with h|h
        ·have:=ok.lt i j hin h;omega
        ·rw[notDone j oj hoj h] at hd; cases hd
    cases hnw:ez o with
    |true=>
     have hX:=memI hnw (fg ops S SV L);rw[hX] at hLv hlook;obtain⟨k1,_⟩:=zT (env:=fg ops S SV L) hnw (ok.pl i o ho).1 (ok.ok i o ho).2 hlook (hst hnw);have k2:=(BP hput).2 (fg ops S SV L);rw[henvS] at k2
     have k3:one wm P { T i with env:=fg ops S SV L } o=some { T (i+1) with env:=fg ops S SV (L.setIfInBounds i true) } :=by unfold one;rw[k1];simp only[af];exact k2
     refine .inl <| nX qP hLv (ok.ok _ o ho).1 k3 (fun bt' a' w' h'=>next a' w' (.inl ⟨hlast',bt',i+1,by omega,fun j oj hoj hx=> ?_,h'⟩));rw[hset];by_cases hji:j=i
     ·simp[hji]
     ·rw[if_neg hji];constructor
      ·intro hd;rcases Nat.lt_or_gt_of_ne hji with hlt|hlt
       ·omega
       ·rw[notDone j oj hoj (ok.wr i j o oj ho hoj hnw hx hlt)] at hd;cases hd
      ·intro hlt;exact hB j (ok.wr j i oj o hoj ho hx hnw (by omega))
    |false=>
     obtain⟨k1,k2⟩:=hvl hnw
     have k3:dH wm P { T k with env:=fg ops S SV L } o=some v:=by
      rw[<-k1];refine qM (ok.ok i o ho).1 hnw hlook (fun t x hx=> ?_);unfold yb at k2;rw[hx] at k2;simp only at k2;have b1: (T k).bx=(T i).bx:=(bxT k hk).trans (bxT i (by omega)).symm;generalize opd (T i) x=y at k2;cases y with
      |ptrB b j=>simp only[ew,b1]
      |pro cs=>rfl
      |ptrT p sz i' j'=>simp only[Ir,ao] at k2;have g:=memG k2.1 hnw p.r (by simpa using k2.2);simp only[ew,St.rows,St.look,g]
      | _=>cases k2
     refine .inl <| DN qP hLv (ok.ok i o ho).1 k3 (fun bt' u w' h' hv=>next _ _ (.inl ⟨hlast',bt',k,hk,fun j oj hoj hx=> ?_,?_⟩))
     ·rw[hset]
      have hji:j≠i:=by intro e;subst e;rw[ho] at hoj;simp only[ae] at hoj;rw[<-hoj,hnw] at hx;cases hx
      rw[if_neg hji];exact hph j oj hoj hx
     ·refine h'.put hv ?_
      have hnt: (T k).nt=(T i).nt:=by
       have ntT: ∀j,j+1<=ops.size->(T j).nt=S.nt:=by
        intro j
        induction j with
        |zero=>intro _; rw[t1]
        |succ j ih=>intro hj;obtain⟨v,Y,_,hc,_,he,_⟩:=uQ j ops[j] (aI (by omega)) (by omega);rw[he];exact hc.2.2.1.trans (ih (by omega))
       rw[ntT k hk,ntT i (by omega)]
      have hy:=hy hnw;rw[hy] at hput;rw[<-henvS];unfold St.put at hput ⊢;cases hd:o.dst with
      |none=>simp
      |some d=>
       rw[hd] at hput;simp only at hput ⊢;split at hput
       ·rename_i hlt;rw[if_pos (by simpa [hnt] using hlt)];simp only[ae]
        congr 1
        funext u
        unfold eh;by_cases hu:u=d
        ·subst hu; simp
        ·rw[if_neg hu,if_neg (fun h=>hu h.symm)]
       ·cases hput
 have hw0:=h.drawn (w.drawn+1);refine wp_region_any hm (main ops.size _ (List.range ops.size) a _ (by simp) List.nodup_range (fun i=> ?_) (by simp) (fun j hj hjt=> ?_) (.inl ⟨?_,bt,0,by omega,fun i o hi _=> ?_,?_⟩))
 ·simp only[bk];constructor
  ·intro hi;exact⟨hi,by simp[aQ,hi]⟩
  ·exact fun h=>h.1
 ·simp[aQ,hj] at hjt
 ·simp[aQ,show ops.size-1<ops.size by omega]
 ·have:=(aD.1 hi).1;simp[aQ,this]
 ·have e1:fg ops S SV (Array.replicate ops.size false)=S.env:=by
   funext t
   unfold fg;rw[if_neg];intro hd;obtain⟨i,o,h1,h2,_⟩:=ik.1 hd;have:=(aD.1 h1).1;simp[aQ,this] at h2
  rw[e1,t1];exact hw0
end
end
section
open Go Go.RowKit
section
variable {P:Program} {w0 w w':World} {W:Nat->Prop} {btI bt bt':Bt} {SI S S':St} {a a':Act} {D:mu}
def iH (P:Program):Code->Bool
 | .skip=>true
 | .region _ ops false=>ops.toList.all (kQ P)
 | .region _ ops true=>if uN ops then Fh P ops else uC P ops
 | .seq a b=>iH P a&&iH P b
 | .cond _ a b=>iH P a&&iH P b
 | .block _ c=>iH P c
 | .loop c=>iH P c
 | .exit _=>true
 | .ret=>true
 | _=>false
def X.out:X->Exit
 | .nor=> .normal
 | .ret=> .ret
 | .ext i=> .exit i
theorem CS {J:Nat->Prop} (h: ∃n,J n): ∃n,J n/\ ∀m,J m->n<=m:=by
 obtain⟨n,hn⟩:=h
 induction n using Nat.strongRecOn with
 | _ n ih=>
   by_cases hx: ∃m,m<n/\J m
   ·obtain⟨m,h1,h2⟩:=hx;exact ih m h1 h2
   ·exact⟨n,hn,fun m hm=>by
     cases bU m n with
     |inl h=>exact absurd ⟨m,h,hm⟩ hx
     |inr h=>exact h⟩
end
end
section
open Go Go.RowKit
section
variable {P:Program} {w0 w w':World} {W:Nat->Prop} {bt bt':Bt} {S0 S S':St} {a a':Act} {D:mu}
def lL (bt:Bt) (σ:List (Option Nat)):Bt where
 β:=fun p=>match σ[p.r]? with |some (some r)=>bt.β ⟨r,p.l⟩| _=>0
 κ:=fun p=>match σ[p.r]? with |some (some r)=>bt.κ ⟨r,p.l⟩| _=>0
 bb:=fun _=>0
 nb:=0
 ng:=σ.length
 A:=bt.A
theorem CT (bt:Bt) (σ τ:List (Option Nat)): (lL bt σ).le (lL bt (σ++τ)):=by
 refine⟨aw _,by simp[lL],fun _ h=>h,fun p hp=> ?_,fun p hp=> ?_,fun _ _=>rfl⟩
 ·have : (σ++τ)[p.r]? =σ[p.r]? :=aJ hp;simp only[lL,this]
 ·have : (σ++τ)[p.r]? =σ[p.r]? :=aJ hp;simp only[lL,this]
def Tr (S0:St) (r:Nat) (t:T):Prop:= ∀m s rs,t.go m= .sl s rs-> ∃rs0,S0.look ⟨r,m⟩= .sl s rs0/\rs.length<=rs0.length/\ ∀ (i:Nat) (row:List T),rs[i]? =some row->rs0[i]? =some row
structure Ex (S0 S:St) (gs:List T) (σ:List (Option Nat)):Prop where
 len:σ.length=gs.length
 sub: ∀r t,S.gh r=some t->S0.gh r=some t
 fz:S.fz=S0.fz
 src: ∀ (k:Nat) (t:T),gs[k]? =some t->(∃r,σ[k]? =some (some r)/\Tr S0 r t)\/(σ[k]? =some none/\ ∃sz,t= .sl sz [])
 inj: ∀ (j k r:Nat),σ[j]? =some (some r)->σ[k]? =some (some r)->j=k
 used: ∀ (k r:Nat),σ[k]? =some (some r)->r<S0.fz\/S.gh r=none
theorem uO {gs gs':List T} {σ:List (Option Nat)} (hx:Ex S0 S gs σ) {sz:Nat} {v v':AV} {u:Value} (hv:VR w bt v u) (h:tI S gs sz v=some (v',gs',S')):
  ∃τ,Ex S0 S' gs' (σ++τ)/\VR w (lL bt (σ++τ)) v' u:=by
 cases hv with
 |sc hs=>simp only[tI,ae,al] at h;obtain⟨rfl,rfl,rfl⟩:=h;exact⟨[],by rw[bw]; exact hx, .sc hs⟩
 |em ad=>
  simp only[tI,ae,al] at h;obtain⟨rfl,rfl,rfl⟩:=h;have hnew: (σ++ [none])[gs.length]? =some none:=by rw[<-hx.len]; simp
  refine⟨[none],⟨by simp[hx.len],hx.sub,hx.fz,fun k t hk=> ?_,fun j k r hj hk=> ?_,fun k r hk=> ?_⟩, .own (by simp[lL,hx.len]) (aw _) (by simp[lL,hnew]) (fun h=>absurd h (by omega))⟩
  ·rcases bU k gs.length with hl|hl
   ·rw[aJ hl] at hk;rw[aJ (by rw[hx.len]; exact hl)];exact hx.src k t hk
   ·rw[aO hl] at hk
    have :k=gs.length:=by have:=(ai.1 hk).1;simp at this;omega
    subst this;simp at hk;exact .inr ⟨hnew,sz,hk.symm⟩
  ·have low: ∀k:Nat,(σ++ [none])[k]? =some (some r)->σ[k]? =some (some r):=by
    intro k hk;rw[cZ] at hk;split at hk
    ·exact hk
    ·have:=aq hk;simp at this
   exact hx.inj j k r (low j hj) (low k hk)
  ·rw[cZ] at hk;split at hk
   ·exact hx.used k r hk
   ·have:=aq hk;simp at this
 |own hp hc hkap ha=>
  rename_i p s lo len ad cap;simp only[tI] at h;split at h
  ·rename_i hcond;obtain⟨hl,rfl,rfl,hfz⟩:=hcond;simp only[aj] at h;obtain⟨rows,hrows,h⟩:=h;split at h
   ·rename_i hlen;simp only[ae,al] at h;obtain⟨rfl,rfl,rfl⟩:=h;obtain⟨pr,pl⟩:=p;simp only at hl hfz;subst hl
    have hgh:S.gh pr=some (.sl s rows):=by
     have:=gC hrows;unfold St.look at this;split at this
     ·rename_i t ht;simp only[T.go] at this;rw[ht,this]
     ·cases this
    have hnew: (σ++ [some pr])[gs.length]? =some (some pr):=by rw[<-hx.len]; simp
    have notin: ∀k:Nat,σ[k]? ≠some (some pr):=by
     intro k hk;rcases hx.used k pr hk with h|h
     ·rw[hx.fz] at hfz; omega
     ·rw[hgh] at h; cases h
    refine⟨[some pr],⟨by simp[hx.len],fun r t ht=> ?_,hx.fz,fun k t hk=> ?_,fun j k r hj hk=> ?_,fun k r hk=> ?_⟩, .own (by simp[lL,hx.len]) hc ?_ (fun h=> ?_)⟩
    ·simp only[eh] at ht;split at ht
     ·cases ht
     ·exact hx.sub r t ht
    ·rcases bU k gs.length with hl|hl
     ·rw[aJ hl] at hk;rw[aJ (by rw[hx.len]; exact hl)];exact hx.src k t hk
     ·rw[aO hl] at hk
      have :k=gs.length:=by have:=(ai.1 hk).1;simp at this;omega
      subst this;simp at hk;subst hk;refine .inl ⟨pr,hnew,fun m s' rs hg=> ?_⟩
      have hlk: ∀m,S0.look ⟨pr,m⟩=(T.sl s rows).go m:=by intro m;unfold St.look;rw[hx.sub pr _ hgh]
      rcases T.go_take hg with ⟨rfl,rfl,rfl⟩| ⟨hm,hg'⟩
      ·exact⟨rows,hlk [],by simp; omega,fun i row hi=>by
        rw[aZ] at hi;split at hi
        ·exact hi
        ·cases hi⟩
      ·exact⟨rs,by rw[hlk]; exact hg',aw _,fun i row hi=>hi⟩
    ·rw[cZ] at hj hk;split at hj<;>split at hk
     ·exact hx.inj j k r hj hk
     ·have:=aq hk;simp at this;subst this;exact absurd hj (notin j)
     ·have:=aq hj;simp at this;subst this;exact absurd hk (notin k)
     ·have h1:=(ai.1 hj).1;have h2:=(ai.1 hk).1;simp at h1 h2;omega
    ·rw[cZ] at hk;split at hk
     ·rcases hx.used k r hk with h|h
      ·exact .inl h
      ·right;simp only[eh];split
       ·rfl
       ·exact h
     ·have:=aq hk;simp at this;subst this;right;simp[eh]
    ·show 0+cap<=(lL bt (σ++ [some pr])).κ ⟨gs.length,[]⟩;simp only[lL,hnew];exact hkap
    ·show ad=some (⟨(lL bt (σ++ [some pr])).β ⟨gs.length,[]⟩,0*s,none⟩:Addr);simp only[lL,hnew];exact ha h
   ·cases h
  ·cases h
 | _=>simp[tI] at h
theorem yc: ∀ (szs:List Nat) (vs:List AV) (us:List Value) (gs gs':List T) (σ:List (Option Nat)) (S S':St) (vs':List AV),Ex S0 S gs σ->us.length=vs.length->(∀ (k:Nat) (v:AV) (u:Value),vs[k]? =some v->us[k]? =some u->VR w bt v u)->
  ox S gs szs vs=some (vs',gs',S')-> ∃τ,Ex S0 S' gs' (σ++τ)/\us.length=vs'.length/\ ∀ (k:Nat) (v:AV) (u:Value),vs'[k]? =some v->us[k]? =some u->VR w (lL bt (σ++τ)) v u:=by
 intro szs
 induction szs with
 |nil=>
  intro vs us gs gs' σ S S' vs' hx hl hv h;cases vs with
  |nil=>simp only[ox,ae,al] at h;obtain⟨rfl,rfl,rfl⟩:=h;exact⟨[],by rw[bw]; exact hx,hl,fun k v u hk=>by simp at hk⟩
  |cons v vs=>simp[ox] at h
 |cons sz szs ih=>
  intro vs us gs gs' σ S S' vs' hx hl hv h;cases vs with
  |nil=>simp[ox] at h
  |cons v vs=>
   cases us with
   |nil=>simp at hl
   |cons u us=>
    simp only[ox,aj,ak,Prod.exists,al] at h;obtain⟨v1,gs1,S1,h1,vs2,gs2,S2,h2,rfl,rfl,rfl⟩:=h;obtain⟨τ1,e1,e2⟩:=uO hx (hv 0 v u rfl rfl) h1;obtain⟨τ2,e3,e4,e5⟩:=ih vs us gs1 gs2 (σ++τ1) S1 S2 vs2 e1 (by simpa using hl) (fun k v u hk hu=>hv (k+1) v u (by simpa using hk) (by simpa using hu)) h2;refine⟨τ1++τ2,by rw[<-aU]; exact e3,by simp[e4],fun k v u hk hu=> ?_⟩;rw[<-aU];cases k with
    |zero=>simp only[aF,ae] at hk hu;subst hk hu;exact e2.mono (CT _ _ _) (fun _ _=>rfl)
    |succ k=>exact e5 k v u (by simpa using hk) (by simpa using hu)
theorem BR {gs gs':List T} {σ:List (Option Nat)} (hx:Ex S0 S gs σ) {t:TypeId} {v v':AV} {u:Value} (hv:VR w bt v u) (h:DC P S gs t v=some (v',gs',S')):
  ∃τ,Ex S0 S' gs' (σ++τ)/\VR w (lL bt (σ++τ)) v' u:=by
 cases v with
 |agg cs=>
  simp only[DC,ak,Prod.exists,al] at h;obtain⟨vs,gs1,S1,h1,rfl,rfl,rfl⟩:=h;cases hv with
  |agg hl ho hr=>obtain⟨τ,e1,e2,e3⟩:=yc _ _ _ _ _ _ _ _ _ hx hl hr h1;exact⟨τ,e1, .agg e2 ho e3⟩
 | _=>exact uO (sz:=(ku P 9 t).headD 0) hx hv h
theorem uP: ∀ (ts:List (TypeId×AV)) (us:List Value) (gs gs':List T) (σ:List (Option Nat)) (S:St) (vs':List AV),Ex S0 S gs σ->us.length=ts.length->(∀ (k:Nat) (v:TypeId×AV) (u:Value),ts[k]? =some v->us[k]? =some u->VR w bt v.2 u)->
  zn P S gs ts=some (vs',gs')-> ∃τ S',Ex S0 S' gs' (σ++τ)/\us.length=vs'.length/\ ∀ (k:Nat) (v:AV) (u:Value),vs'[k]? =some v->us[k]? =some u->VR w (lL bt (σ++τ)) v u:=by
 intro ts
 induction ts with
 |nil=>intro us gs gs' σ S vs' hx hl hv h;simp only[zn,ae,al] at h;obtain⟨rfl,rfl⟩:=h;exact⟨[],S,by rw[bw]; exact hx,hl,fun k v u hk=>by simp at hk⟩
 |cons tv ts ih=>
  intro us gs gs' σ S vs' hx hl hv h;obtain⟨t,v⟩:=tv;cases us with
  |nil=>simp at hl
  |cons u us=>
   simp only[zn,aj,ak,Prod.exists,al] at h;obtain⟨v1,gs1,S1,h1,vs2,gs2,h2,rfl,rfl⟩:=h;obtain⟨τ1,e1,e2⟩:=BR hx (hv 0 (t,v) u rfl rfl) h1;obtain⟨τ2,S2,e3,e4,e5⟩:=ih us gs1 gs2 (σ++τ1) S1 vs2 e1 (by simpa using hl) (fun k v u hk hu=>hv (k+1) v u (by simpa using hk) (by simpa using hu)) h2;refine⟨τ1++τ2,S2,by rw[<-aU]; exact e3,by simp[e4],fun k v u hk hu=> ?_⟩;rw[<-aU];cases k with
   |zero=>simp only[aF,ae] at hk hu;subst hk hu;exact e2.mono (CT _ _ _) (fun _ _=>rfl)
   |succ k=>exact e5 k v u (by simpa using hk) (by simpa using hu)
theorem eK.out (hI:eK w0 W bt S0 w) {gs:List T} {σ:List (Option Nat)} (hx:Ex S0 S gs σ):eK w0 W (lL bt σ) (jY gs) w:=by
 have look: ∀p s rs,(jY gs).look p= .sl s rs->(∃r rs0,σ[p.r]? =some (some r)/\S0.look ⟨r,p.l⟩= .sl s rs0/\rs.length<=rs0.length/\ ∀ (i:Nat) (row:List T),rs[i]? =some row->rs0[i]? =some row)\/(σ[p.r]? =some none/\rs= []):=by
  intro p s rs h;unfold St.look jY at h;simp only at h;split at h
  ·rename_i t ht;rcases hx.src _ t ht with ⟨r,h1,h2⟩| ⟨h1,sz,rfl⟩
   ·obtain⟨rs0,h3,h4,h5⟩:=h2 _ _ _ h;exact .inl ⟨r,rs0,h1,h3,h4,h5⟩
   ·right;refine⟨h1,?_⟩;cases hl:p.l with
    |nil=>rw[hl] at h; simp only[T.go,T.sl.injEq] at h; exact h.2.symm
    |cons y l=>rw[hl] at h;obtain⟨i,j⟩:=y;simp[T.go,T.cell,T.dd_go] at h
  ·cases h
 have eκ: ∀ (p:eb) (r:Nat),σ[p.r]? =some (some r)->(lL bt σ).κ p=bt.κ ⟨r,p.l⟩/\(lL bt σ).β p=bt.β ⟨r,p.l⟩:=by intro p r h;simp[lL,h]
 have e0: ∀ (p:eb),σ[p.r]? =some none->(lL bt σ).κ p=0:=by intro p h;simp[lL,h]
 exact { os:=hI.os,tape:=hI.tape,output:=hI.output,size:=hI.size,keep:=hI.keep,nb:=rfl,ng:=by simp[lL,jY,hx.len]
         bx:=fun n cells h=>by cases h
         gh:=fun r t h=>(ai.1 h).1
         tr:=fun p s rs h=>by
          rcases look p s rs h with ⟨r,rs0,h1,h2,h3,h4⟩| ⟨h1,rfl⟩
          ·rw[(eκ p r h1).1,(eκ p r h1).2];obtain⟨k1,k2⟩:=hI.tr _ _ _ h2;refine⟨by omega,fun hk=>⟨(k2 hk).1,?_⟩⟩;obtain⟨_,cs,e,g1,g2,g3,g4⟩:=k2 hk;refine⟨cs,e,by rw[(eκ p r h1).2]; exact g1,by rw[(eκ p r h1).1]; exact g2,g3,fun i row hi=> ?_⟩;obtain⟨m1,m2⟩:=g4 i row (h4 i row hi);refine⟨m1,fun j x hj=> ?_⟩;obtain⟨c,m3,m4⟩:=m2 j x hj;have:=eκ (p.sub i j) r h1;refine⟨c,m3,?_⟩;cases m4 with
           |sc h=>exact .sc h
           |dd u=>exact .dd _
           |sl q1 q2 q3=>exact .sl q1 (by rw[this.1]; exact q2) (by rw[this.2]; exact q3)
          ·rw[e0 p h1];exact⟨aw _,fun h=>absurd h (by omega)⟩
         inj:=fun p q s rs s' rs' h h' hk hk' he=>by
          rcases look p s rs h with ⟨r,rs0,h1,h2,_⟩| ⟨h1,_⟩
          ·rcases look q s' rs' h' with ⟨r',rs0',h1',h2',_⟩| ⟨h1',_⟩
           ·rw[(eκ p r h1).1] at hk;rw[(eκ q r' h1').1] at hk';rw[(eκ p r h1).2,(eκ q r' h1').2] at he;have:=hI.inj _ _ _ _ _ _ h2 h2' hk hk' he;simp only[eb.mk.injEq] at this;obtain⟨rfl,hl⟩:=this;obtain⟨pr,pl⟩:=p;obtain⟨qr,ql⟩:=q;simp only at*;rw[hl,hx.inj pr qr r h1 h1']
           ·rw[e0 q h1'] at hk'; omega
          ·rw[e0 p h1] at hk; omega
         bbinj:=fun n m c c' h=>by cases h
         bbtr:=fun n c p s rs h=>by cases h
         alt:=hI.alt
         atr:=fun p s rs h hk=>by
          rcases look p s rs h with ⟨r,rs0,h1,h2,_⟩| ⟨h1,_⟩
          ·rw[(eκ p r h1).1] at hk;rw[(eκ p r h1).2];exact hI.atr _ _ _ h2 hk
          ·rw[e0 p h1] at hk; omega
         abb:=fun n c h=>by cases h }
end
end
end Go.Proofs.YtadpelkpdaohnaaGreatDoor.En
