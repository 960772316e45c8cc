import Derived.Test.YtadpelkpdaohnaaGreatDoorZX3
namespace Go.Proofs.YtadpelkpdaohnaaGreatDoor.En
section
open Go Go.RowKit
section
variable {P:Program} {S SV:St} {D:mu}
def Ip (g:Nat->Option T) (m:gm):Nat->Option T:=fun r=>if m.b<=r/\r<m.b+m.adds.length then m.adds[r-m.b]? else if m.cons.contains r then none else g r
def pe: (Nat->Option T)->List gm->Nat->Option T
 |g,[] =>g
 |g,m::ms=>pe (Ip g m) ms
theorem t7 (g:Nat->Option T) (b:Nat):Ip g ⟨b,[],[]⟩=g:=by
 funext r
 unfold Ip;simp only[bJ,ca];rw[if_neg (by omega)];simp
def KN (D:mu) (P:Program) (all:Array Oper) (l:List Oper) (S SV:St) (ms:List gm) (k:Nat) (o:Oper):Prop:=
 ∃env b m,ms[k]? =some m/\(∀ (t:Nat) (j:Nat) (oj:Oper),j<k->l[j]? =some oj->dF oj=false->oj.dst=some t->env t=SV.env t)/\
  (∀t,(∀ (j:Nat) (oj:Oper),j<k->l[j]? =some oj->dF oj=false->oj.dst≠some t)->env t=S.env t)/\jL { S with env:=env } all o=some b/\(∀d,o.dst=some d->d<S.nt)/\
  (b=true->ez o=true-> ∃v,fk D P { S with env:=env,gh:=pe S.gh (ms.take k),ng:=m.b } o=some (v,m.adds,m.cons)/\ ∀d,o.dst=some d->SV.env d=shift m.b v)/\
  (b=true->ez o=false->eO o=false-> ∃v,dH D P { S with env:=env,gh:=pe S.gh (ms.take k),ng:=m.b } o=some v/\m.adds= [] /\m.cons= [] /\ ∀d,o.dst=some d->SV.env d=v)/\
  (b=false->m.adds= [] /\m.cons= [] /\ ∀d,o.dst=some d->SV.env d= .tup [])/\
  (eO o=true->b=true/\m.adds= [] /\m.cons= [] /\ ∀d,o.dst=some d->SV.env d= .ptrB (S.nb-1-eJ (l.drop (k+1))) 0)
abbrev JK (D:mu) (P:Program) (all:Array Oper) (l:List Oper) (S SV:St) (ms:List gm):Prop:=
 ms.length=l.length/\SV= { S with env:=SV.env,gh:=pe S.gh ms,ng:=SV.ng } /\S.ng<=SV.ng/\(∀t,(∀o∈l,dF o=false->o.dst≠some t)->SV.env t=S.env t)/\
  (∀ (k:Nat) (m:gm),ms[k]? =some m->S.ng<=m.b/\m.b+m.adds.length<=SV.ng/\ ∀ (j:Nat) (m':gm),j<k->ms[j]? =some m'->m'.b+m'.adds.length<=m.b)/\
  (∀ (k:Nat) (o:Oper) (m:gm),l[k]? =some o->ms[k]? =some m->dF o=true->m.adds= [] /\m.cons= [])/\
  ∀ (k:Nat) (o:Oper),l[k]? =some o->dF o=false->KN D P all l S SV ms k o
theorem DM {all:Array Oper}: ∀ (l:List Oper) (S SV:St) (ms:List gm),l.Pairwise (fun x y=> ∀d,x.dst=some d->y.dst≠some d)->uk D P all l S=some (SV,ms)->JK D P all l S SV ms:=by
 intro l
 induction l with
 |nil=>intro S SV ms _ h;simp only[uk,ae,al] at h;obtain⟨rfl,rfl⟩:=h;exact⟨rfl,rfl,aw _,fun _ _=>rfl,fun k m hk=>by simp at hk,fun k o m hk=>by simp at hk,fun k o hk=>by simp at hk⟩
 |cons o l ih=>
  intro S SV ms hp h;obtain⟨hp1,hp2⟩:=cu.1 hp
  have way: ∀ (S1:St) (m:gm) (ms':List gm),ms=m::ms'->m.b=S.ng->uk D P all l S1=some (SV,ms')->S1= { S with env:=S1.env,gh:=Ip S.gh m,ng:=S.ng+m.adds.length } ->
    (dF o=true->m.adds= [] /\m.cons= [] /\S1.env=S.env)->
    (dF o=false-> ∃b v,jL S all o=some b/\S1.env=(match o.dst with |some d=>eh S.env d v|none=>S.env)/\(∀d,o.dst=some d->d<S.nt)/\
      (b=true->ez o=true-> ∃v0,fk D P S o=some (v0,m.adds,m.cons)/\v=shift m.b v0)/\(b=true->ez o=false->eO o=false->dH D P S o=some v/\m.adds= [] /\m.cons= [])/\(b=false->m.adds= [] /\m.cons= [] /\v= .tup [])/\(eO o=true->b=true/\m.adds= [] /\m.cons= [] /\v= .ptrB (S.nb-1-eJ l) 0))->
    JK D P all (o::l) S SV ms:=by
   intro S1 m ms' hms hmb he hS1 hst hns;obtain⟨e1,e2,e3,e4,e5,e6,e7⟩:=ih S1 SV ms' hp2 he;subst hms;have hng1:S1.ng=S.ng+m.adds.length:=by rw[hS1]
   have hgh1:S1.gh=Ip S.gh m:=by rw[hS1]
   have hnt1:S1.nt=S.nt:=by rw[hS1]
   have hnb1:S1.nb=S.nb:=by rw[hS1]
   have hform: ∀ (env:Nat->AV) (g:Nat->Option T) (n:Nat),({ S1 with env:=env,gh:=g,ng:=n }:St)= { S with env:=env,gh:=g,ng:=n } :=by intro env g n;rw[hS1]
   have hform2: ∀ (env:Nat->AV),jL ({ S1 with env:=env }:St) all=jL ({ S with env:=env }:St) all:=by
    intro env
    funext o
    rw[hS1];rfl
   have h1other: ∀t,(dF o=false->o.dst≠some t)->S1.env t=S.env t:=by
    intro t ht;cases hso:dF o with
    |true=>rw[(hst hso).2.2]
    |false=>
     obtain⟨b,v,_,h2,_⟩:=hns hso;rw[h2];cases hd:o.dst with
     |none=>rfl
     |some d=>simp only[eh];rw[if_neg];intro he;exact ht hso (by rw[hd,he])
   refine⟨by simp[e1],?_,by omega,fun t ht=> ?_,fun k m' hk=> ?_,fun k o' m' hk hm hs=> ?_,fun k o' hk hs=> ?_⟩
   ·have :pe S.gh (m::ms')=pe S1.gh ms':=by rw[hgh1]; rfl
    rw[this,e2];exact hform _ _ _
   ·rw[e4 t (fun o' ho'=>ht o' (aE _ ho')),h1other t (ht o aH)]
   ·cases k with
    |zero=>simp only[aF,ae] at hk;subst hk;exact⟨by omega,by omega,fun j m' hj=>by omega⟩
    |succ k=>
     obtain⟨q1,q2,q3⟩:=e5 k m' (by simpa using hk);refine⟨by omega,q2,fun j m'' hj hjm=> ?_⟩;cases j with
     |zero=>simp only[aF,ae] at hjm;subst hjm;omega
     |succ j=>exact q3 j m'' (by omega) (by simpa using hjm)
   ·cases k with
    |zero=>simp only[aF,ae] at hk hm;subst hk hm;exact⟨(hst hs).1,(hst hs).2.1⟩
    |succ k=>exact e6 k o' m' (by simpa using hk) (by simpa using hm) hs
   ·cases k with
    |zero=>
     simp only[aF,ae] at hk;subst hk;obtain⟨b,v,h1,h2,h3,h4,h5,h6,h7⟩:=hns hs
     have hown: ∀d,o.dst=some d->SV.env d=v:=by intro d hd;rw[e4 d (fun o' ho' _=>hp1 o' ho' d hd),h2,hd];simp[eh]
     have hS: ({ S with env:=S.env,gh:=pe S.gh ((m::ms').take 0),ng:=m.b }:St)=S:=by rw[hmb]; rfl
     refine⟨S.env,b,m,rfl,fun t j oj hj=>by omega,fun _ _=>rfl,h1,h3,fun hb hn=> ?_,fun hb hn hx=> ?_,fun hb=> ?_,fun hx=> ?_⟩
     ·obtain⟨v0,g1,g2⟩:=h4 hb hn;exact⟨v0,by rw[hS]; exact g1,fun d hd=>by rw[hown d hd,g2]⟩
     ·obtain⟨g1,g2,g3⟩:=h5 hb hn hx;exact⟨v,by rw[hS]; exact g1,g2,g3,hown⟩
     ·obtain⟨g1,g2,g3⟩:=h6 hb;exact⟨g1,g2,fun d hd=>by rw[hown d hd,g3]⟩
     ·obtain⟨g1,g2,g3,g4⟩:=h7 hx;exact⟨g1,g2,g3,fun d hd=>by rw[hown d hd,g4]; rfl⟩
    |succ k=>
     obtain⟨env,b,m',g0,g1,g2,g3,g4,g5,g6,g7,g8⟩:=e7 k o' (by simpa using hk) hs;have htk:pe S.gh ((m::ms').take (k+1))=pe S1.gh (ms'.take k):=by rw[hgh1]; rfl
     rw[hform2] at g3;simp only[hform] at g5 g6;refine⟨env,b,m',by simpa using g0,fun t j oj hj hjj hs' hd=> ?_,fun t ht=> ?_,g3,fun d hd=>by rw[<-hnt1]; exact g4 d hd,fun hb hn=>by rw[htk]; exact g5 hb hn,fun hb hn hx=>by rw[htk]; exact g6 hb hn hx,g7,fun hx=>by rw[<-hnb1]; exact g8 hx⟩
     ·cases j with
      |zero=>simp only[aF,ae] at hjj;subst hjj;obtain⟨b',v,_,h2,_⟩:=hns hs';rw[g2 t (fun _ o'' _ ho'' _=>hp1 o'' (aq ho'') t hd),e4 t (fun o'' ho'' _=>hp1 o'' ho'' t hd)]
      |succ j=>exact g1 t j oj (by omega) (by simpa using hjj) hs' hd
     ·rw[g2 t (fun j o'' hj ho'' hs=>ht (j+1) o'' (by omega) (by simpa using ho'') hs),h1other t (fun hs=>ht 0 o (by omega) rfl hs)]
  have put: ∀ {S0 S1:St} {v:AV},S0.put o.dst v=some S1->S1= { S0 with env:=S1.env } /\S1.env=(match o.dst with |some d=>eh S0.env d v|none=>S0.env)/\(∀d,o.dst=some d->d<S0.nt):=by
   intro S0 S1 v hput;cases hd:o.dst with
   |none=>rw[hd] at hput;simp only[St.put,ae] at hput;subst hput;exact⟨rfl,rfl,fun d hd=>by cases hd⟩
   |some d=>
    rw[hd] at hput;simp only[St.put] at hput;split at hput
    ·simp only[ae] at hput;subst hput;exact⟨rfl,rfl,fun d' hd'=>by cases hd'; assumption⟩
    ·cases hput
  simp only[uk] at h;split at h
  ·rename_i hst;simp only[ak,Prod.exists,al] at h;obtain⟨SV',ms',h1,rfl,rfl⟩:=h;exact way S ⟨S.ng,[],[]⟩ ms' rfl rfl h1 (by rw[t7]; rfl) (fun _=>⟨rfl,rfl,rfl⟩) (fun hs=>by rw[hst] at hs; cases hs)
  ·rename_i hst;have hst:dF o=false:=by simpa using hst
   split at h
   ·rename_i hbo;split at h
    ·rename_i hg;have hg':o.guard=none:=by simpa using hg
     simp only[aj,ak,Prod.exists,al] at h;obtain⟨S1,h1,SV',ms',h2,rfl,rfl⟩:=h;obtain⟨p1,p2,p3⟩:=put h1
     have hnn:ez o=false:=by
      unfold eO at hbo;split at hbo
      ·rename_i t ht;unfold ez;rw[ht]
      ·cases hbo
     exact way S1 ⟨S.ng,[],[]⟩ ms' rfl rfl h2 (by rw[t7]; exact p1) (fun hs=>by rw[hst] at hs; cases hs) (fun _=>⟨true,_,by unfold jL; rw[hg'],p2,p3,fun _ h=>(by rw[hnn] at h; cases h),fun _ _ h=>(by rw[hbo] at h; cases h),fun h=>(nomatch h),fun _=>⟨rfl,rfl,rfl,rfl⟩⟩)
    ·cases h
   rename_i hbo;have hbo:eO o=false:=by simpa using hbo
   simp only[aj] at h;obtain⟨b,hb,h⟩:=h;cases b with
   |false=>simp only[aX,if_false,aj,ak,Prod.exists,al] at h;obtain⟨S1,h1,SV',ms',h2,rfl,rfl⟩:=h;obtain⟨p1,p2,p3⟩:=put h1;exact way S1 ⟨S.ng,[],[]⟩ ms' rfl rfl h2 (by rw[t7]; exact p1) (fun hs=>by rw[hst] at hs; cases hs) (fun _=>⟨false, .tup [],hb,p2,p3,fun h=>(nomatch h),fun h=>(nomatch h),fun _=>⟨rfl,rfl,rfl⟩,fun h=>(by rw[hbo] at h; cases h)⟩)
   |true=>
    simp only[if_true] at h;split at h
    ·rename_i hn;simp only[aj,ak,Prod.exists,al] at h;obtain⟨v,adds,cons,h0,S1,h1,SV',ms',h2,rfl,rfl⟩:=h;obtain⟨p1,p2,p3⟩:=put h1;exact way S1 ⟨S.ng,adds,cons⟩ ms' rfl rfl h2 p1 (fun hs=>by rw[hst] at hs; cases hs) (fun _=>⟨true,_,hb,p2,p3,fun _ _=>⟨v,h0,rfl⟩,fun _ h=>(by rw[hn] at h; cases h),fun h=>(nomatch h),fun h=>(by rw[hbo] at h; cases h)⟩)
    ·rename_i hn;have hn:ez o=false:=by simpa using hn
     simp only[aj,ak,Prod.exists,al] at h;obtain⟨S1,⟨v,h0,h1⟩,SV',ms',h2,rfl,rfl⟩:=h;obtain⟨p1,p2,p3⟩:=put h1;exact way S1 ⟨S.ng,[],[]⟩ ms' rfl rfl h2 (by rw[t7]; exact p1) (fun hs=>by rw[hst] at hs; cases hs) (fun _=>⟨true,v,hb,p2,p3,fun _ h=>(by rw[hn] at h; cases h),fun _ _ _=>⟨h0,rfl,rfl⟩,fun h=>(nomatch h),fun h=>(by rw[hbo] at h; cases h)⟩)
end
end
section
open Go Go.RowKit
section
variable {P:Program} {w0 w w':World} {W:Nat->Prop} {btI bt bt':Bt} {SI S S' SV:St} {a a':Act} {D:mu} {Q:Exit->Act->World->Prop} {ops:Array Oper}
theorem sr {o:Oper} {v:AV} (hI:eK w0 W bt S w) (hE:ER w bt S a) (hok:kQ P o=true) (hf:kO o=false) (h:dH D P S o=some v): ∃u,(execOp a.eval o).run P w= .ok (.value u) w/\VR w bt v u:=by
 by_cases hp:kP o=true
 ·exact zD hI hE hok hp h
 ·obtain⟨dst,op,type,pos,after,guard⟩:=o
  have sc: (∀cs b,op≠ .select cs b)->dZ P S ⟨dst,op,type,pos,after,guard⟩=some v-> ∃u,(execOp a.eval ⟨dst,op,type,pos,after,guard⟩).run P w= .ok (.value u) w/\VR w bt v u:=
   fun hs h=>mw hE (fun cs b=>hs cs b) h
  cases op with
  |call c=>
   obtain⟨cl,as,ts⟩:=c;cases cl with
   |value f=>simp[kO] at hf
   |invoke r m=>exact sc (by simp) (by simpa [dH] using h)
   |builtin b=>
    cases b with
    |len=>simp[kP] at hp
    |cap=>simp[kP] at hp
    |max=>simp[kP] at hp
    |min=>simp[kP] at hp
    | _=>exact sc (by simp) (by simpa [dH] using h)
  |select cs b=>simp[kQ] at hok
  | _=>simp[kP] at hp
theorem DN (hD:jN P D) (h:Lv w0 W btI SI bt S a w) {o:Oper} (hok:kQ P o=true) {v:AV} (hs:dH D P S o=some v) {K:Act->World->Prop}
  (hK: ∀bt' u w',Lv w0 W btI SI bt' S a w'->VR w' bt' v u->K (a.put o.dst u) w'):o.wp P a w K Q:=by
 by_cases hf:kO o=true
 ·obtain⟨dst,op,type,pos,after,guard⟩:=o;unfold kO at hf;split at hf
  ·rename_i f as ts hop;simp only at hop;subst hop;simp only[dH,aj,ak] at hs;obtain⟨⟨g,caps⟩,hc,⟨res,out⟩,hr,hi⟩:=hs;simp only[kQ,beq_iff_eq] at hok;refine ux hD h.inv h.er rfl hok hc hr (fun u w' btn hC hv=> ?_);obtain⟨bt',g1,g2,g3,g4,g5,g6⟩:=DI h.inv h.er hC hv;rw[hi] at g6;exact hK bt' u w' ⟨g1,g2,h.defers,h.fz,h.fzng,fun p hp=>by rw[g4,g5]; exact h.keep p hp,h.gone⟩ g6
  ·cases hf
 ·obtain⟨u,g0,g1⟩:=sr h.inv h.er hok (by simpa using hf) hs;unfold Oper.wp;rw[g0,Oper.upon_value];exact hK bt u w h g1
def done (ops:Array Oper) (L:Array Bool) (t:Nat):Bool:=(List.range ops.size).any fun i=>L.getD i false&&(((ops[i]?).bind (·.dst))==some t)
def fg (ops:Array Oper) (S SV:St) (L:Array Bool) (t:Nat):AV:=if done ops L t then SV.env t else S.env t
theorem ik {L:Array Bool} {t:Nat}:done ops L t=true↔ ∃i o,ops[i]? =some o/\L.getD i false=true/\o.dst=some t:=by
 unfold done;simp only[bN,bk,ao,beq_iff_eq];constructor
 ·rintro⟨i,hi,h1,h2⟩
  rw[aI hi] at h2;exact⟨i,ops[i],aI hi,h1,h2⟩
 ·rintro⟨i,o,h1,h2,h3⟩
  exact⟨i,(aD.1 h1).1,h2,by rw[h1]; exact h3⟩
theorem pf {L:Array Bool} {i j:Nat} (hi:i<L.size): (L.setIfInBounds i true).getD j false=if j=i then true else L.getD j false:=by
 simp only[aQ,Array.getElem?_setIfInBounds];by_cases h:i=j
 ·subst h;simp[hi]
 ·rw[if_neg h,if_neg (fun e=>h e.symm)]
theorem nY {L:Array Bool} {i:Nat} {o:Oper} (hi:i<L.size) (ho:ops[i]? =some o) (t:Nat):fg ops S SV (L.setIfInBounds i true) t=if o.dst=some t then SV.env t else fg ops S SV L t:=by
 unfold fg;by_cases hd:o.dst=some t
 ·rw[if_pos hd,if_pos];exact ik.2 ⟨i,o,ho,by rw[pf hi,if_pos rfl],hd⟩
 ·rw[if_neg hd]
  have :done ops (L.setIfInBounds i true) t=done ops L t:=by
   rw[bZ,ik,ik];constructor
   ·rintro⟨j,oj,h1,h2,h3⟩
    rw[pf hi] at h2;split at h2
    ·rename_i he;subst he;rw[ho] at h1;simp only[ae] at h1;exact absurd (h1 ▸ h3) hd
    ·exact⟨j,oj,h1,h2,h3⟩
   ·rintro⟨j,oj,h1,h2,h3⟩
    refine⟨j,oj,h1,?_,h3⟩;rw[pf hi];split
    ·rfl
    ·exact h2
  rw[this]
theorem Lv.drawn (h:Lv w0 W btI SI bt S a w) (n:Nat):Lv w0 W btI SI bt S a { w with drawn:=n } :=
 ⟨h.inv.change ⟨rfl,rfl,rfl,aw _,fun _ _=> .inl rfl⟩,⟨h.er.1,fun t=>(h.er.2 t).mono (Bt.le.refl _) (fun _ _=>rfl)⟩,h.defers,h.fz,h.fzng,h.keep,h.gone⟩
def ib (ms:List gm) (L:Array Bool) (r:Nat):Bool:=(List.range ms.length).any fun j=>L.getD j false&&((ms[j]?).map fun m=>m.cons.contains r).getD false
def tL (S:St) (ms:List gm) (L:Array Bool) (r:Nat):Option T:=if r<S.ng then (if ib ms L r then none else S.gh r) else match ll ms r with
 |some c=>if L.getD c false&& !ib ms L r then (ms[c]?).bind fun m=>m.adds[r-m.b]? else none
 |none=>none
theorem gM {ms:List gm} {L:Array Bool} {r:Nat}:ib ms L r=true↔ ∃j m,ms[j]? =some m/\L.getD j false=true/\r∈m.cons:=by
 unfold ib;simp only[bN,bk,ao];constructor
 ·rintro⟨j,hj,h1,h2⟩
  rw[ah hj] at h2;exact⟨j,ms[j],ah hj,h1,by simpa using h2⟩
 ·rintro⟨j,m,h1,h2,h3⟩
  exact⟨j,(ai.1 h1).1,h2,by rw[h1]; simpa using h3⟩
theorem qK {ms:List gm} {r j:Nat} {m:gm} (h1:ms[j]? =some m) (h2:r∈m.cons):j∈nD ms r:=by unfold nD;rw[cM,bk];exact⟨(ai.1 h1).1,by rw[h1]; simpa using h2⟩
theorem DP {ms:List gm} {r j:Nat} (h:j∈nD ms r): ∃m,ms[j]? =some m/\r∈m.cons:=by unfold nD at h;rw[cM,bk] at h;obtain⟨h1,h2⟩:=h;rw[ah h1] at h2;exact⟨ms[j],ah h1,by simpa using h2⟩
theorem gD {ms:List gm} (hd: ∀ (k j:Nat) (m m':gm),ms[k]? =some m->j<k->ms[j]? =some m'->m'.b+m'.adds.length<=m.b) {r c:Nat}:ll ms r=some c↔ ∃m,ms[c]? =some m/\m.b<=r/\r<m.b+m.adds.length:=by
 unfold ll;rw[List.findIdx?_eq_some_iff_getElem];constructor
 ·rintro⟨hc,h1,h2⟩
  simp only[ao,decide_eq_true_eq] at h1;exact⟨ms[c],ah hc,h1.1,h1.2⟩
 ·rintro⟨m,h1,h2,h3⟩
  obtain⟨hc,hm⟩:=ai.1 h1;refine⟨hc,by simp[hm,h2,h3],fun j hj=> ?_⟩;have:=hd c j m _ h1 hj (ah (by omega));simp;intro h4;omega
theorem E9 {S:St} {ms:List gm} (hgh: ∀r t,S.gh r=some t->r<S.ng) (hb: ∀ (k:Nat) (m:gm),ms[k]? =some m->S.ng<=m.b) (hd: ∀ (k j:Nat) (m m':gm),ms[k]? =some m->j<k->ms[j]? =some m'->m'.b+m'.adds.length<=m.b): ∀ (k:Nat),k<=ms.length-> ∀r,
  (r<S.ng->((∀j m,ms[j]? =some m->j<k->r∉m.cons)->pe S.gh (ms.take k) r=S.gh r)/\ ∀j m,ms[j]? =some m->j<k->r∈m.cons->pe S.gh (ms.take k) r=none)/\(S.ng<=r->ll ms r=none->pe S.gh (ms.take k) r=none)/\
  ∀c,S.ng<=r->ll ms r=some c->(k<=c->pe S.gh (ms.take k) r=none)/\(c<k->(∀j m,ms[j]? =some m->c<j->j<k->r∉m.cons)->pe S.gh (ms.take k) r=(ms[c]?).bind fun m=>m.adds[r-m.b]?)/\
   (∀j m,ms[j]? =some m->c<j->j<k->r∈m.cons->pe S.gh (ms.take k) r=none):=by
 intro k
 induction k with
 |zero=>
  intro _ r
  have h0:S.ng<=r->S.gh r=none:=fun h=>by
   cases hx:S.gh r with
   |none=>rfl
   |some t=>have:=hgh r t hx; omega
  exact⟨fun _=>⟨fun _=>rfl,fun j m _ hj=>by omega⟩,fun h _=>h0 h,fun c h _=>⟨fun _=>h0 h,fun hc=>by omega,fun j m _ _ hj=>by omega⟩⟩
 |succ k ih=>
  intro hk r;obtain⟨i1,i2,i3⟩:=ih (by omega) r;have hkm:ms[k]? =some (ms[k]'(by omega)):=ah _
  have fq:pe S.gh (ms.take (k+1))=Ip (pe S.gh (ms.take k)) (ms[k]'(by omega)):=by
   have app: ∀ (l:List gm) (g:Nat->Option T) (m:gm),pe g (l++ [m])=Ip (pe g l) m:=by
    intro l
    induction l with
    |nil=>intro g m; rfl
    |cons x l ih=>intro g m; exact ih _ m
   rw[List.take_succ_eq_append_getElem (by omega),app]
  generalize hm:ms[k]'(by omega)=m at*;rw[fq];unfold Ip;refine⟨fun h=>⟨fun hno=> ?_,fun j m' hj h1 h3=> ?_⟩,fun h hn=> ?_,fun c h hmk=>⟨fun hkc=> ?_,fun hck hno=> ?_,fun j m' hj h1 h2 h3=> ?_⟩⟩
  ·have:=hb k m hkm;rw[if_neg (by omega),if_neg,(i1 h).1 (fun j m' hj h1=>hno j m' hj (by omega))];intro hcon;exact hno k m hkm (by omega) (by simpa using hcon)
  ·have:=hb k m hkm;rw[if_neg (by omega)];by_cases hjk:j=k
   ·subst hjk;rw[hkm] at hj;simp only[ae] at hj;subst hj;rw[if_pos (by simpa using h3)]
   ·split
    ·rfl
    ·exact (i1 h).2 j m' hj (by omega) h3
  ·rw[if_neg]
   ·split
    ·rfl
    ·exact i2 h hn
   ·intro hr;rw[(gD hd).2 ⟨m,hkm,hr⟩] at hn;cases hn
  ·rw[if_neg]
   ·split
    ·rfl
    ·exact (i3 c h hmk).1 (by omega)
   ·intro hr;rw[(gD hd).2 ⟨m,hkm,hr⟩] at hmk;simp only[ae] at hmk;omega
  ·by_cases hkc:k=c
   ·subst hkc;obtain⟨m',q1,q2⟩:=(gD hd).1 hmk;rw[hkm] at q1;simp only[ae] at q1;subst q1;rw[if_pos q2,hkm];rfl
   ·rw[if_neg]
    ·rw[if_neg]
     ·exact (i3 c h hmk).2.1 (by omega) (fun j m' hj h1 h2=>hno j m' hj h1 (by omega))
     ·intro hcon;exact hno k m hkm (by omega) (by omega) (by simpa using hcon)
    ·intro hr;rw[(gD hd).2 ⟨m,hkm,hr⟩] at hmk;simp only[ae] at hmk;omega
  ·rw[if_neg]
   ·by_cases hjk:j=k
    ·subst hjk;rw[hkm] at hj;simp only[ae] at hj;subst hj;rw[if_pos (by simpa using h3)]
    ·split
     ·rfl
     ·exact (i3 c h hmk).2.2 j m' hj h1 (by omega) h3
   ·intro hr;rw[(gD hd).2 ⟨m,hkm,hr⟩] at hmk;simp only[ae] at hmk;omega
theorem G1 {v:AV} {u:Value} (h:VR w bt v u): ∀r∈j9 v,r<bt.ng:=by
 have one: ∀ {c:AV} {u:Value},VR w bt c u->(∀p s lo len,c= .own p s lo len->p.r<bt.ng)/\(∀p s i j,c= .ptrT p s i j->p.r<bt.ng):=by
  intro c u h;refine⟨fun p s lo len he=> ?_,fun p s i j he=> ?_⟩
  ·subst he; cases h with |own hp _ _ _=>exact hp
  ·subst he; cases h with |ptrT _ _ _ hp _=>exact hp
 have cells: ∀ {cs:List AV} {us:List Value},us.length=cs.length->(∀ (k:Nat) (c:AV) (u:Value),cs[k]? =some c->us[k]? =some u->VR w bt c u)-> ∀r,r∈cs.flatMap (fun | .own p _ _ _=> [p.r] | .ptrT p _ _ _=> [p.r] | .agg _=> [] | .fn _ _=> [] | .tup _=> [] | _=> [])->r<bt.ng:=by
  intro cs us hl hr r hm;obtain⟨c,hc,hrc⟩:=cY.1 hm;obtain⟨k,hk,hkc⟩:=aM hc;have:=one (hr k c _ (by rw[<-hkc]; exact ah hk) (ah (by omega)));cases c with
  |own p s lo len=>simp at hrc; subst hrc; exact this.1 p s lo len rfl
  |ptrT p s i j=>simp at hrc; subst hrc; exact this.2 p s i j rfl
  | _=>simp at hrc
 intro r hr;cases h with
 |own hp _ _ _=>simp[j9] at hr; subst hr; exact hp
 |ptrT _ _ _ hp _=>simp[j9] at hr; subst hr; exact hp
 |agg hl ho h=>exact cells hl h r hr
 |fn f hl h=>exact cells hl h r hr
 | _=>simp[j9] at hr
theorem uG {env:Nat->AV} {bx:Nat->Option (List AV)}: ∀ (ss:List Nat) (vs:List AV),gl { S with env:=env,bx:=bx } ss vs=gl S ss vs
 |s::ss,v::vs=>by
  have e:jc { S with env:=env,bx:=bx } s v=jc S s v:=by unfold jc; cases v<;>rfl
  unfold gl;rw[e,uG ss vs]
 | [],[] =>rfl
 | [],_::_=>rfl
 | _::_,[] =>rfl
theorem qL {env:Nat->AV} {bx:Nat->Option (List AV)} (ss:List Nat): ∀ (vss:List (List AV)),fE { S with env:=env,bx:=bx } ss vss=fE S ss vss
 | [] =>rfl
 |vs::vss=>by unfold fE;rw[uG,qL ss vss]
theorem BJ {env:Nat->AV} (ss:List Nat) (vss:List (List AV)):fE { S with env:=env } ss vss=fE S ss vss:=qL (bx:=S.bx) ss vss
theorem zQ {o:Oper} {env:Nat->AV} (h: ∀x∈o.op.operands,opd { S with env:=env } x=opd S x):fk D P { S with env:=env } o=fk D P S o:=by
 obtain⟨dst,op,type,pos,after,guard⟩:=o;cases op with
 |buildSlice t len parts=>
  have hp: ∀x∈parts.toList,opd { S with env:=env } x.2=opd S x.2:=fun x hx=>h x.2 (by simp only[Op.operands,cX]; exact aL.2 ⟨x,hx,rfl⟩);have e1:parts.toList.map (fun x=>(opd { S with env:=env } x.2).cells)=parts.toList.map (fun x=>(opd S x.2).cells):=aG fun x hx=>by rw[hp x hx]
  have e3: ∀ss vss,fE { S with env:=env } ss vss=fE S ss vss:=BJ
  have e2: ∀n,parts.toList.all (fun x=>(opd { S with env:=env } x.2).cells.length=n&& !(opd { S with env:=env } x.2).isDead)=parts.toList.all (fun x=>(opd S x.2).cells.length=n&& !(opd S x.2).isDead):=by
   intro n;rw[bZ,au,au];constructor
   ·intro g x hx; rw[<-hp x hx]; exact g x hx
   ·intro g x hx; rw[hp x hx]; exact g x hx
  simp only[fk,e1,e2,e3]
 |call c=>
  obtain⟨cl,as,ts⟩:=c;cases cl with
  |invoke r m=>rfl
  |value f=>
   simp only[fk];rw[rr (h f (by simp[Op.operands,Call.operands]))]
   congr 1
   funext x
   obtain⟨g,caps⟩:=x;simp only;rw[uA caps (fun x hx=>h x (by simp[Op.operands,Call.operands,hx]))]
  |builtin b=>
   cases b with
   |append=>
    simp only[fk];split
    ·rename_i s x t t' e1 e2;have e1:as= #[s,x] :=by apply Array.ext'; simpa using e1
     subst e1;rw[h x (by simp[Op.operands,Call.operands]),h s (by simp[Op.operands,Call.operands])];have e3: ∀sz fl v,fL { S with env:=env } sz fl v=fL S sz fl v:=fun sz fl v=>by cases v<;>rfl
     have e4: ∀L sz v,kj (dropL { S with env:=env } L) sz v=kj (dropL S L) sz v:=fun L sz v=>by cases v<;>rfl
     simp only[e3,e4]
    ·rfl
   | _=>rfl
 | _=>rfl
def Bt.widen (bt:Bt) (n N:Nat):Bt:= { bt with κ:=fun p=>if p.r<n then bt.κ p else 0,ng:=N }
theorem Lv.widen (h:Lv w0 W btI SI bt S a w) {N:Nat} (hN:S.ng<=N):Lv w0 W btI SI (bt.widen S.ng N) { S with ng:=N } a w:=by
 have hng:=h.inv.ng;have hle:bt.le (bt.widen S.ng N):=⟨aw _,by show bt.ng<=N; omega,fun _ h=>h,fun _ _=>rfl,fun p hp=>by simp only[Bt.widen]; rw[if_pos (by omega)],fun _ _=>rfl⟩
 have lk: ∀p s rs,({ S with ng:=N }:St).look p= .sl s rs->S.look p= .sl s rs/\p.r<bt.ng:=fun p s rs hp=>⟨hp,h.inv.look_lt (S:=S) hp⟩
 have eκ: ∀p:eb,p.r<bt.ng->(bt.widen S.ng N).κ p=bt.κ p:=fun p hp=>hle.κ p hp
 exact⟨{ os:=h.inv.os,tape:=h.inv.tape,output:=h.inv.output,size:=h.inv.size,keep:=h.inv.keep,nb:=h.inv.nb,ng:=rfl
         bx:=fun n cells hn=>by obtain⟨h1,h2,h3⟩:=h.inv.bx n cells hn;exact⟨h1,h2,h3.mono hle (by rw[h.inv.nb]; exact h1) (fun _ _=>rfl) rfl⟩
         gh:=fun r t hr=>aW (h.inv.gh r t hr) hN
         tr:=fun p s rs hp=>by obtain⟨h0,hlt⟩:=lk p s rs hp;obtain⟨h1,h2⟩:=h.inv.tr p s rs h0;rw[eκ p hlt];exact⟨h1,fun hk=>⟨(h2 hk).1,(h2 hk).2.mono hle hlt rfl⟩⟩
         inj:=fun p q s rs s' rs' h1 h2 hk hk' he=>by obtain⟨a1,a2⟩:=lk p s rs h1;obtain⟨b1,b2⟩:=lk q s' rs' h2;rw[eκ p a2] at hk;rw[eκ q b2] at hk';exact h.inv.inj _ _ _ _ _ _ a1 b1 hk hk' he
         bbinj:=h.inv.bbinj
         bbtr:=fun n c p s rs h1 h2 hk=>by obtain⟨a1,a2⟩:=lk p s rs h2;rw[eκ p a2] at hk;exact h.inv.bbtr _ _ _ _ _ h1 a1 hk
         alt:=h.inv.alt
         atr:=fun p s rs h1 hk=>by obtain⟨a1,a2⟩:=lk p s rs h1;rw[eκ p a2] at hk;exact h.inv.atr _ _ _ a1 hk
         abb:=h.inv.abb },⟨h.er.1,fun t=>(h.er.2 t).mono hle (fun _ _=>rfl)⟩,h.defers,h.fz,bE h.fzng hN,fun p hp=>⟨(h.keep p hp).1,by rw[eκ p (by have:=h.fz; have:=h.fzng; omega)]; exact (h.keep p hp).2⟩,h.gone⟩
end
end
section
open Go Go.RowKit
section
variable {P:Program} {S S' X Y Z:St} {D:mu}
theorem nm (env:Nat->AV) (n:Nat) (a:AV):ew { S with env:=env } n a=ew S n a:=by cases a<;>rfl
theorem BK (h: ∀x,opd X x=opd Z x) (o:Oper):dZ P X o=dZ P Z o:=by unfold dZ;have :opd X=opd Z:=funext h;rw[this]
theorem G2 (h: ∀x,opd X x=opd Z x) (d:Int) (x:Option Operand):i6 X d x=i6 Z d x:=by cases x<;>simp only[i6,h]
theorem DQ (h: ∀x,opd X x=opd Z x) {o:Oper} (hn:ez o=false) (hl: ∀t a,o.op= .load t a->ew X (P.cellsOf t) (opd Z a)=ew Z (P.cellsOf t) (opd Z a)):dH D P X o=dH D P Z o:=by
 have sc:=BK (P:=P) h o;have hf:opd X=opd Z:=funext h;obtain⟨dst,op,type,pos,after,guard⟩:=o;cases op with
 |load t x=>simp only[dH,load];rw[hf,hl t x rfl]
 |makeFunc fn first caps=>
  cases fn with
  |func f=>simp only[dH]; rw[hf]
  | _=>simp only[dH]; exact sc
 |unOp op t x=>cases op<;>simp only[dH,hf,sc]
 |binOp op t x y t'=>cases op<;>simp only[dH,hf,sc]
 |slice t x lo hi mx=>cases mx<;>simp only[dH,hf,G2 h,sc]
 |call c=>
  obtain⟨cl,as,ts⟩:=c;cases cl with
  |builtin b=>cases b<;>first | (simp only[dH]; rw[hf,sc]; done)| (simp only[dH,sc]; done)| (simp only[dH]; exact sc)
  |value f=>simp[ez] at hn
  |invoke r m=>simp only[dH]; exact sc
 | _=>first | (simp only[dH,hf,sc]; done)| (simp only[dH]; exact sc)
theorem qM {o:Oper} (hok:kQ P o=true) (hn:ez o=false) (hop: ∀x∈o.op.operands,opd X x=opd Y x) (hl: ∀t a,o.op= .load t a->ew X (P.cellsOf t) (opd Y a)=ew Y (P.cellsOf t) (opd Y a)):dH D P X o=dH D P Y o:=by
 have e1:dH D P { Y with env:=X.env } o=dH D P Y o:=zI hok (fun x hx=>by rw[<-hop x hx];cases x<;>rfl)
 rw[<-e1];refine DQ (fun x=>by cases x<;>rfl) hn (fun t a hta=> ?_);have e2:opd { Y with env:=X.env } a=opd X a:=by cases a<;>rfl
 have e3:=hop a (by rw[hta]; simp[Op.operands]);rw[e2,e3,hl t a hta];exact (nm X.env _ _).symm
theorem wi {g:Nat->Option T} {m n:Nat} {v:AV} (h:km S { S with gh:=g,ng:=m } v):ew { S with gh:=g,ng:=m } n v=ew S n v:=by
 cases v with
 |ptrT p sz i j=>have:=jg (p:=p) (sz:=sz) (h p.r (by simp[j9]));simp only[ew];rw[this]
 | _=>rfl
theorem pg {env:Nat->AV} {p:eb} {sz i j:Nat} {vs:List T}:lc { S with env:=env } p sz i j vs=(lc S p sz i j vs).map fun S1=> { S1 with env:=env } :=by
 unfold lc;have : ({ S with env:=env }:St).rows p sz=S.rows p sz:=rfl;rw[this];split
 ·split
  ·simp only[az];rfl
  ·rfl
 ·rfl
theorem ru {p:eb} {sz i j:Nat} {vs:List T} (h:lc S p sz i j vs=some S'):S'.env=S.env/\S'.bx=S.bx/\S'.nt=S.nt/\ ∀r,r≠p.r->S'.gh r=S.gh r:=by
 unfold lc at h;split at h
 ·split at h
  ·simp only[ae] at h;subst h;unfold St.setAt;refine⟨rfl,rfl,rfl,fun r hr=> ?_⟩;simp[eh,hr]
  ·cases h
 ·cases h
theorem xZ {t:TypeId} {a v:AV} (hs:wZ (qj P) t a=true) (h:store P S t a v=some S'):
  S'.env=S.env/\S'.nt=S.nt/\(∀env,store P { S with env:=env } t a v=some { S' with env:=env })/\ ∀b n,sj b a=true->ew S' n b=ew S n b:=by
 unfold store at h;simp only at h;split at h
 ·cases h
 ·rename_i hc;split at h
  ·rename_i b j;simp only[aj] at h;obtain⟨cs,h1,h⟩:=h;split at h
   ·rename_i hle;simp only[ae] at h;subst h;refine⟨rfl,rfl,fun env=> ?_,fun c n hap=> ?_⟩
    ·unfold store;simp only[hc,if_false,h1,af,hle,if_true]
    ·cases c with
     |ptrB b' j'=>
      have :b'≠b:=by simpa [sj] using hap
      simp only[ew,eh,if_neg this]
     |ptrT p sz i j=>rfl
     |pro cs=>rfl
     | _=>simp[sj] at hap
   ·cases h
  ·rename_i p sz i j;simp only[aj] at h;obtain⟨S1,h1,h⟩:=h;have hfl: (ku P 9 t).all (· ==0)=true:=hs;rw[if_pos hfl] at h;simp only[ae] at h;subst h;obtain⟨e1,e2,e3,e4⟩:=ru h1;refine⟨e1,e3,fun env=> ?_,fun c n hap=> ?_⟩
   ·unfold store;simp only[hc,if_false,pg,h1,az,af,hfl,if_true]
   ·cases c with
    |ptrB b' j'=>simp only[ew,e2]
    |pro cs=>rfl
    |ptrT q sz' i' j'=>
     have :q.r≠p.r:=by simpa [sj] using hap
     have hrows:S1.rows q sz'=S.rows q sz':=by unfold St.rows St.look; rw[e4 q.r this]
     simp only[ew,hrows]
    | _=>simp[sj] at hap
  ·cases h
theorem Fa {l:List (Nat×Nat)} (h:l≠ []):pre l [] =false:=by
 cases l with
 |nil=>exact absurd rfl h
 |cons x l=>rfl
theorem qN {p:eb} (hp:p.l≠ []) {v:AV} (h:CO v=true):lR p v=v:=by
 cases v with
 |own q sz lo len=>have :q.l= [] :=List.isEmpty_iff.1 h;simp only[lR,under,this,Fa hp,Bool.and_false,aX,if_false]
 |ptrT q sz i j=>have :q.l= [] :=List.isEmpty_iff.1 h;simp only[lR,under,this,Fa hp,Bool.and_false,aX,if_false]
 |agg cs=>cases h
 |tup vs=>cases h
 |fn f cs=>cases h
 | _=>rfl
theorem uH {f:AV->AV} {g:AV->Bool} (hf: ∀v,g v=true->f v=v) {cs:List AV} (h:cs.all g=true):cs.map f=cs:=by
 induction cs with
 |nil=>rfl
 |cons c cs ih=>simp only[cd,ao] at h;rw[aP,hf c h.1,ih h.2]
theorem uI {p:eb} (hp:p.l≠ []) {v:AV} (h:EY v=true):nS p v=v:=by
 cases v with
 |agg cs=>simp only[nS]; rw[uH (fun v hv=>qN hp hv) h]
 |fn f cs=>simp only[nS]; rw[uH (fun v hv=>qN hp hv) h]
 |tup vs=>cases h
 | _=>simp only[nS];exact qN hp h
theorem w6 {p:eb} (hp:p.l≠ []) {v:AV} (h:ul v=true):kill p v=v:=by
 cases v with
 |tup vs=>simp only[kill]; rw[uH (fun v hv=>uI hp hv) h]
 | _=>simp only[kill];exact uI hp h
theorem Fb (p:eb) (i j:Nat): (p.sub i j).l≠ [] :=by simp[eb.sub]
def rv (F:St->Option St) (S S':St):Prop:= ∃K:AV->AV,(∀v,ul v=true->K v=v)/\S'.env=(fun t=>K (S.env t))/\S'.nt=S.nt/\ ∀env,F { S with env:=env } =some { S' with env:=fun t=>K (env t) }
theorem wj {p:eb} {i j sz:Nat} {v:AV} (h:lS S p i j sz v=some S'):rv (fun X=>lS X p i j sz v) S S':=by
 have keep:lS S p i j sz v=some S->(∀env,lS { S with env:=env } p i j sz v=some { S with env:=env })->rv (fun X=>lS X p i j sz v) S S':=by intro h1 h2;rw[h1] at h;simp only[ae] at h;subst h;exact⟨id,fun _ _=>rfl,rfl,rfl,h2⟩
 cases v with
 |own q s lo len=>
  unfold lS at h;simp only at h;split at h
  ·rename_i hc;simp only[aj] at h;obtain⟨rows,h1,h⟩:=h;split at h
   ·rename_i hle;simp only[ae] at h;subst h;refine⟨kill (p.sub i j),fun v hv=>w6 (Fb p i j) hv,rfl,rfl,fun env=> ?_⟩;have h1': ({ S with env:=env }:St).rows q s=some rows:=h1;have hc':q.l= [] /\s=sz/\lo=0/\({ S with env:=env }:St).fz<=q.r/\q.r≠p.r:=hc;show (if q.l= [] /\s=sz/\lo=0/\({ S with env:=env }:St).fz<=q.r/\q.r≠p.r then (({ S with env:=env }:St).rows q s).bind fun rows=>_ else _)=_;rw[if_pos hc',h1',af,if_pos hle];rfl
   ·cases h
  ·cases h
 |em=>simp only[lS,ae] at h;subst h;exact⟨kill (p.sub i j),fun v hv=>w6 (Fb p i j) hv,rfl,rfl,fun env=>rfl⟩
 | _=>exact keep rfl fun _=>rfl
theorem sw {p:eb} {i:Nat}: ∀ (j:Nat) (ss:List Nat) (vs:List AV) (S S':St),eC S p i j ss vs=some S'->rv (fun X=>eC X p i j ss vs) S S':=by
 intro j ss
 induction ss generalizing j with
 |nil=>intro vs S S' h;simp only[eC,ae] at h;subst h;exact⟨id,fun _ _=>rfl,rfl,rfl,fun _=>rfl⟩
 |cons sz ss ih=>
  intro vs S S' h;cases vs with
  |nil=>simp only[eC,ae] at h;subst h;exact⟨id,fun _ _=>rfl,rfl,rfl,fun _=>rfl⟩
  |cons v vs=>
   simp only[eC,aj] at h;obtain⟨S1,h1,h2⟩:=h
   have g1:rv (fun X=>if sz=0 then some X else lS X p i j sz v) S S1:=by
    by_cases hz:sz=0
    ·simp only[if_pos hz,ae] at h1;subst h1;exact⟨id,fun _ _=>rfl,rfl,rfl,fun _=>by simp only[if_pos hz]; rfl⟩
    ·simp only[if_neg hz] at h1;obtain⟨K,a,b,c,d⟩:=wj h1;exact⟨K,a,b,c,fun env=>by simp only[if_neg hz]; exact d env⟩
   obtain⟨K,a1,a2,a3,a4⟩:=g1;obtain⟨K',b1,b2,b3,b4⟩:=ih _ _ _ _ h2;refine⟨fun v=>K' (K v),fun v hv=>by show K' (K v)=v; rw[a1 v hv,b1 v hv],by rw[b2]; funext t; rw[a2],b3.trans a3,fun env=> ?_⟩;have a4': (if sz=0 then some { S with env:=env } else lS { S with env:=env } p i j sz v)=some { S1 with env:=fun t=>K (env t) } :=a4 env;simp only[eC];rw[a4'];exact b4 (fun t=>K (env t))
theorem wk {t:TypeId} {a v:AV} (h:store P S t a v=some S'):rv (fun X=>store P X t a v) S S':=by
 unfold store at h;simp only at h;split at h
 ·cases h
 ·rename_i hc;split at h
  ·rename_i b j;simp only[aj] at h;obtain⟨cs,h1,h⟩:=h;split at h
   ·rename_i hle;simp only[ae] at h;subst h;refine⟨id,fun _ _=>rfl,rfl,rfl,fun env=> ?_⟩;unfold store;simp only[hc,if_false,h1,af,hle,if_true];rfl
   ·cases h
  ·rename_i p sz i j;simp only[aj] at h;obtain⟨S1,h1,h⟩:=h;obtain⟨e1,e2,e3,e4⟩:=ru h1;by_cases hfl: (ku P 9 t).all (· ==0)=true
   ·rw[if_pos hfl] at h;simp only[ae] at h;subst h;refine⟨id,fun _ _=>rfl,e1,e3,fun env=> ?_⟩;unfold store;simp only[hc,if_false,pg,h1,az,af,hfl,if_true];rfl
   ·rw[if_neg hfl] at h;split at h
    ·rename_i hfz;obtain⟨K,b1,b2,b3,b4⟩:=sw _ _ _ _ _ h;refine⟨K,b1,by rw[b2,e1],b3.trans e3,fun env=> ?_⟩;unfold store;simp only[hc,if_false,pg,h1,az,af,hfl,hfz,if_true];exact b4 env
    ·cases h
  ·cases h
end
end
section
open Go Go.RowKit
section
variable {P:Program} {w0 w w':World} {W:Nat->Prop} {btI bt bt':Bt} {SI S S' S0:St} {a:Act} {D:mu}
theorem VR.rebox {bt2:Bt} (hβ:bt2.β=bt.β) (hκ:bt2.κ=bt.κ) (hA:bt2.A=bt.A) (hng:bt2.ng=bt.ng) {p:Nat->Bool} (hp: ∀n,p n=true->n<bt2.nb/\bt2.bb n=bt.bb n) {v:AV} {u:Value} (h:VR w bt v u):iA p v=true->VR w bt2 v u:=by
 induction h with
 |sc h=>intro _; exact .sc h
 |em a=>intro _; exact .em a
 |ro h=>intro _; exact .ro (by rw[hA]; exact h)
 |own hp hc hk ha=>intro _; exact .own (by rw[hng]; exact hp) hc (by rw[hκ]; exact hk) (by rw[hβ]; exact ha)
 |pro cs hs hb hr ht=>intro _; exact .pro cs hs (by rw[hA]; exact hb) hr (fun j x hx=>by rw[hA]; exact ht j x hx)
 |ptrB j hn=>intro hb;obtain⟨h1,h2⟩:=hp _ hb;rw[<-h2];exact .ptrB j h1
 |ptrT sz i j hp hk=>intro _; rw[<-hβ]; exact .ptrT sz i j (by rw[hng]; exact hp) (by rw[hκ]; exact hk)
 |fn f hl h ih=>intro hb; exact .fn f hl (fun k c u h1 h2=>ih k c u h1 h2 (iW hb (aq h1)))
 |agg hl ho h ih=>intro hb; exact .agg hl ho (fun k c u h1 h2=>ih k c u h1 h2 (iW hb (aq h1)))
 |tup hl h ih=>intro hb; exact .tup hl (fun k c u h1 h2=>ih k c u h1 h2 (iW hb (aq h1)))
 |dead u=>intro _; exact .dead u
theorem VR.boxlt {v:AV} {u:Value} (h:VR w bt v u):iA (fun n=>Nat.blt n bt.nb) v=true:=by
 have lst: ∀ {cs:List AV} {us:List Value},us.length=cs.length->(∀ (k:Nat) (c:AV) (u:Value),cs[k]? =some c->us[k]? =some u->iA (fun n=>Nat.blt n bt.nb) c=true)->oS (fun n=>Nat.blt n bt.nb) cs=true:=by intro cs us hl h;refine uE fun c hc=> ?_;obtain⟨k,hk,he⟩:=aM hc;exact h k c _ (by rw[<-he]; exact ah hk) (ah (by omega))
 induction h with
 |ptrB j hn=>exact Nat.ble_eq_true_of_le hn
 |fn f hl h ih=>exact lst hl ih
 |agg hl ho h ih=>exact lst hl ih
 |tup hl h ih=>exact lst hl ih
 | _=>rfl
mutual
theorem sx {p q:Nat->Bool} (h: ∀n,p n=true->q n=true): ∀ (v:AV),iA p v=true->iA q v=true
 | .ptrB n _,hv=>h n hv
 | .fn _ cs,hv=>oB h cs hv
 | .agg cs,hv=>oB h cs hv
 | .tup cs,hv=>oB h cs hv
 | .sc _,_=>rfl
 | .em,_=>rfl
 | .ro _ _,_=>rfl
 | .own _ _ _ _,_=>rfl
 | .pro _,_=>rfl
 | .ptrT _ _ _ _,_=>rfl
 | .dead,_=>rfl
theorem oB {p q:Nat->Bool} (h: ∀n,p n=true->q n=true): ∀ (vs:List AV),oS p vs=true->oS q vs=true
 | [],_=>rfl
 |v::vs,hv=>by unfold oS at hv ⊢;simp only[ao] at hv ⊢;exact⟨sx h v hv.1,oB h vs hv.2⟩
end
theorem uJ (p:Nat->Bool) (v:Value):iA p (tZ v)=true:=by
 unfold tZ
 repeat' split
 all_goals rfl
theorem Fc (p:Nat->Bool) (v:Value):iA p (vZ v)=true:=by
 unfold vZ;split
 ·split
  ·unfold iA;refine uE fun c hc=> ?_;obtain⟨x,_,rfl⟩:=aL.1 hc;exact uJ p x
  ·rfl
 ·exact uJ p _
theorem w7 (v:Value):tZ v= .sc v\/tZ v= .em\/tZ v= .dead:=by
 unfold tZ;split
 ·exact .inl rfl
 ·split
  ·exact .inr (.inl rfl)
  ·exact .inr (.inr rfl)
theorem Fd (v:Value):j9 (vZ v)= [] :=by
 unfold vZ;split
 ·split
  ·simp only[j9];refine List.flatMap_eq_nil_iff.2 fun c hc=> ?_;obtain⟨x,_,rfl⟩:=aL.1 hc;rcases w7 x with h|h|h<;>rw[h]
  ·rfl
 ·rcases w7 v with h|h|h<;>rw[h]<;>rfl
def rx (N m:Nat):Nat->Bool:=fun n=>Nat.blt n N&& !Nat.beq n m
theorem G3 {N m n:Nat} (h:rx N m n=true):n<N/\n≠m:=by unfold rx at h;simp only[ao,bL] at h;refine⟨ax h.1,fun e=> ?_⟩;rw[e,co] at h;cases h.2
theorem x0 {N m n:Nat} (h:n<N) (hm:n≠m):rx N m n=true:=by
 unfold rx;have h1:Nat.blt n N=true:=Nat.ble_eq_true_of_le h
 have h2:Nat.beq n m=false:=by
  cases hx:Nat.beq n m with
  |false=>rfl
  |true=>exact absurd (ap hx) hm
 rw[h1,h2];rfl
theorem eK.addBoxAt (hI:eK w0 W bt S w) {b m:Nat} {cells:List AV} {cs:Array Value} {e:TypeId} (hb:w0.heap.size<=b) (hh:w.heap[b]? =some (.cells cs e (0,0))) (hl:cs.size=cells.length)
  (hc: ∀ (j:Nat) (v:AV),cells[j]? =some v-> ∃c,cs[j]? =some c/\VR w bt v c/\c.oneCell'=true) (hcm: ∀c∈cells,iA (rx S.nb m) c=true) (hm:m<S.nb) (hfree:S.bx m=none)
  (hbx: ∀n cs,S.bx n=some cs-> ∀c∈cs,iA (rx S.nb m) c=true)
  (hnb: ∀n cs,S.bx n=some cs->bt.bb n≠b) (hnt: ∀p sz rows,S.look p= .sl sz rows->0<bt.κ p->bt.β p≠b) (hnA: ¬bt.A b):
  (∀ (v:AV) (u:Value),VR w bt v u->iA (rx S.nb m) v=true->VR w { bt with bb:=eh bt.bb m b } v u)/\eK w0 W { bt with bb:=eh bt.bb m b } { S with bx:=eh S.bx m (some cells) } w:=by
 have re: ∀ (v:AV) (u:Value),VR w bt v u->iA (rx S.nb m) v=true->VR w { bt with bb:=eh bt.bb m b } v u:=fun v u h hv=>h.rebox (bt:=bt) (bt2:= { bt with bb:=eh bt.bb m b }) rfl rfl rfl rfl (fun n hn=>by obtain⟨h1,h2⟩:=G3 hn;exact⟨by show n<bt.nb; rw[hI.nb]; exact h1,by show eh bt.bb m b n=bt.bb n; simp[eh,h2]⟩) hv
 refine⟨re,?_⟩
 have old: ∀n c,eh S.bx m (some cells) n=some c->(n=m/\c=cells)\/(n<S.nb/\S.bx n=some c/\eh bt.bb m b n=bt.bb n):=by
  intro n c h;unfold eh at h;split at h
  ·rename_i he;simp only[ae] at h;exact .inl ⟨he,h.symm⟩
  ·rename_i he;have:=(hI.bx n c h).1;exact .inr ⟨this,h,by simp[eh,he]⟩
 have hnew:eh bt.bb m b m=b:=by simp[eh]
 have hle:bt.le { bt with bb:=bt.bb } :=Bt.le.refl _
 exact { os:=hI.os,tape:=hI.tape,output:=hI.output,size:=hI.size,keep:=hI.keep,nb:=hI.nb,ng:=hI.ng
         bx:=fun n c h=>by
          rcases old n c h with ⟨rfl,rfl⟩| ⟨h1,h2,h3⟩
          ·refine⟨hm,by show w0.heap.size<=eh bt.bb n b n; rw[hnew]; exact hb,cs,e,by show w.heap[eh bt.bb n b n]? =_; rw[hnew]; exact hh,hl,fun j v hj=> ?_⟩;obtain⟨c',g1,g2,g3⟩:=hc j v hj;exact⟨c',g1,re _ _ g2 (hcm _ (aq hj)),g3⟩
          ·obtain⟨g1,g2,cs',e',g3,g4,g5⟩:=hI.bx n c h2;refine⟨h1,?_,cs',e',?_,g4,fun j v hj=> ?_⟩
           ·show w0.heap.size<=eh bt.bb m b n;rw[h3]; exact g2
           ·show w.heap[eh bt.bb m b n]? =_;rw[h3]; exact g3
           ·obtain⟨c',k1,k2,k3⟩:=g5 j v hj;exact⟨c',k1,re _ _ k2 (hbx _ _ h2 _ (aq hj)),k3⟩
         gh:=hI.gh
         tr:=fun p sz rows h=>by obtain⟨h1,h2⟩:=hI.tr p sz rows h;refine⟨h1,fun hk=> ?_⟩;obtain⟨h3,cs',e',k1,k2,k3,k4⟩:=h2 hk;refine⟨h3,cs',e',k1,k2,k3,fun i r hr=> ?_⟩;obtain⟨q1,q2⟩:=k4 i r hr;refine⟨q1,fun j x hx=> ?_⟩;obtain⟨c,q3,q4⟩:=q2 j x hx;exact⟨c,q3,q4.mono rfl rfl⟩
         inj:=hI.inj
         bbinj:=fun n k c c' h h' he=>by
          have he':eh bt.bb m b n=eh bt.bb m b k:=he;rcases old n c h with ⟨rfl,rfl⟩| ⟨h1,h2,h3⟩<;>rcases old k c' h' with ⟨rfl,rfl⟩| ⟨k1,k2,k3⟩
          ·rfl
          ·rw[hnew,k3] at he'; exact absurd he'.symm (hnb _ _ k2)
          ·rw[hnew,h3] at he'; exact absurd he' (hnb _ _ h2)
          ·rw[h3,k3] at he'; exact hI.bbinj _ _ _ _ h2 k2 he'
         bbtr:=fun n c p sz rows h h' hk=>by
          show eh bt.bb m b n≠bt.β p;rcases old n c h with ⟨rfl,rfl⟩| ⟨h1,h2,h3⟩
          ·rw[hnew]; exact fun he=>hnt p sz rows h' hk he.symm
          ·rw[h3]; exact hI.bbtr _ _ _ _ _ h2 h' hk
         alt:=hI.alt,atr:=hI.atr
         abb:=fun n c h=>by
          show ¬bt.A (eh bt.bb m b n);rcases old n c h with ⟨rfl,rfl⟩| ⟨h1,h2,h3⟩
          ·rw[hnew]; exact hnA
          ·rw[h3]; exact hI.abb _ _ h2 }
theorem wl (hI:eK w0 W bt S w) (hE:ER w bt S a) {t:TypeId} {zs:List Value} (h:se P t=some zs) {m:Nat} (hm:m<S.nb) (hfree:S.bx m=none)
  (henv: ∀t,iA (rx S.nb m) (S.env t)=true) (hbx: ∀n cs,S.bx n=some cs-> ∀c∈cs,iA (rx S.nb m) c=true):
  ∃u w' bt',(Instr.alloc t true (.tuple #[])).run P w= .ok u w'/\eK w0 W bt' { S with bx:=eh S.bx m (some (zs.map tZ)) } w'/\ER w' bt' S a/\VR w' bt' (.ptrB m 0) u/\bt'.β=bt.β/\bt'.κ=bt.κ:=by
 obtain⟨i,z,hi,hz,rfl,hall⟩:=jM h;have hb:=ka w (.cells z.cells t);have hA: ∀b,bt.A b->({ w with heap:=w.heap.push (.cells z.cells t) }:World).heap[b]? =w.heap[b]? :=fun b h=>hb.block b (hI.alt b h);obtain⟨f1,f2,f3⟩:=hI.fresh (b:=w.heap.size) (aw _)
 obtain⟨re,hI'⟩:=(hI.grow hb).addBoxAt (b:=w.heap.size) (m:=m) (cells:=z.cells.toList.map tZ) (cs:=z.cells) (e:=t) hI.size (mz w _) (by simp) (fun j v hj=>by
  obtain⟨c,g1,g2,g3⟩:=w4 (bt:=bt) (w:=w) z hall j v hj
  exact⟨c,g1,g2.mono (Bt.le.refl _) hA,g3⟩) (fun c hc=>by obtain⟨x,_,rfl⟩:=aL.1 hc;exact uJ _ _) hm hfree hbx f1 f2 f3
 refine⟨_,_,_,by simp[Instr.alloc,zeroValue,typeInfo,hi,hz,newVar,newRow]; rfl,hI',⟨hE.1,fun t=>re _ _ ((hE.2 t).mono (Bt.le.refl _) hA) (henv t)⟩,?_,rfl,rfl⟩;have :eh bt.bb m w.heap.size m=w.heap.size:=by simp[eh]
 have h:=VR.ptrB (w:= { w with heap:=w.heap.push (.cells z.cells t) }) (bt:= { bt with bb:=eh bt.bb m w.heap.size }) (n:=m) 0 (by show m<bt.nb; rw[hI.nb]; exact hm);simp only[this] at h;exact h
theorem Lv.widenB (h:Lv w0 W btI SI bt S a w) {N:Nat} (hN:S.nb<=N):Lv w0 W btI SI { bt with nb:=N } { S with nb:=N } a w:=by
 have hle:bt.le { bt with nb:=N } :=⟨by show bt.nb<=N; rw[h.inv.nb]; exact hN,aw _,fun _ h=>h,fun _ _=>rfl,fun _ _=>rfl,fun _ _=>rfl⟩
 exact⟨{ os:=h.inv.os,tape:=h.inv.tape,output:=h.inv.output,size:=h.inv.size,keep:=h.inv.keep,nb:=rfl,ng:=h.inv.ng
         bx:=fun n cells hn=>by obtain⟨h1,h2,h3⟩:=h.inv.bx n cells hn;exact⟨aW h1 hN,h2,h3.mono hle (by rw[h.inv.nb]; exact h1) (fun _ _=>rfl) rfl⟩
         gh:=h.inv.gh
         tr:=fun p s rs hp=>by obtain⟨h1,h2⟩:=h.inv.tr p s rs hp;exact⟨h1,fun hk=>⟨(h2 hk).1,(h2 hk).2.mono hle (h.inv.look_lt (S:=S) hp) rfl⟩⟩
         inj:=h.inv.inj
         bbinj:=h.inv.bbinj
         bbtr:=h.inv.bbtr
         alt:=h.inv.alt
         atr:=h.inv.atr
         abb:=h.inv.abb },⟨h.er.1,fun t=>(h.er.2 t).mono hle (fun _ _=>rfl)⟩,h.defers,h.fz,h.fzng,h.keep,h.gone⟩
theorem DR {f:Nat->Option (List AV)} {sz:Nat} {v:AV} (h: ∀n j,v= .ptrB n j->f n=S.bx n):eV { S with bx:=f } sz v=eV S sz v:=by
 have hof: ∀ (sz:Nat) (c:AV),T.ofAV { S with bx:=f } sz c=T.ofAV S sz c:=fun sz c=>by cases c<;>rfl
 cases v with
 |ptrB n j=>
  have e:=h n j rfl;simp only[eV];rw[e];cases S.bx n with
  |none=>rfl
  |some cs=>
   simp only
   congr 1
 | _=>rfl
theorem oC {p:Nat->Bool} {f:Nat->Option (List AV)} (hf: ∀n,p n=true->f n=S.bx n) {sz:Nat} {v:AV} (h:iA p v=true):eV { S with bx:=f } sz v=eV S sz v:=
 DR (fun n j e=>hf n (by subst e; exact h))
theorem Fe {p:Nat->Bool} {f:Nat->Option (List AV)} (hf: ∀n,p n=true->f n=S.bx n) {szs:List Nat} {v:AV} (h:iA p v=true):ii { S with bx:=f } szs v=ii S szs v:=by
 cases v with
 |agg cs=>
  simp only[ii];split
  ·congr 1
   apply bK;intro k;rw[bf,bf];cases hs:szs[k]? with
   |none=>rfl
   |some s=>
    cases hx:cs[k]? with
    |none=>rfl
    |some c=>simp only[ae];exact oC hf (iW h (aq hx))
  ·rfl
 |fn g cs=>
  simp only[ii]
  congr 1
  exact aG fun c hc=>oC hf (iW h hc)
 |ptrB n j=>exact oC (sz:=szs.headD 0) (v:= .ptrB n j) hf h
 | _=>rfl
theorem Ff {p:Nat->Bool} {f:Nat->Option (List AV)} (hf: ∀n,p n=true->f n=S.bx n) {o:Oper} (h: ∀x∈o.op.operands,iA p (opd S x)=true):fk D P { S with bx:=f } o=fk D P S o:=by
 have ho:opd { S with bx:=f } =opd S:=funext fun x=>by cases x<;>rfl
 have hs: ∀sz fl v,fL { S with bx:=f } sz fl v=fL S sz fl v:=fun sz fl v=>by cases v<;>rfl
 have hb: ∀L sz v,kj (dropL { S with bx:=f } L) sz v=kj (dropL S L) sz v:=fun L sz v=>by cases v<;>rfl
 have hpn: ∀ss vss,fE { S with bx:=f } ss vss=fE S ss vss:=fun ss vss=>qL (env:=S.env) ss vss;obtain⟨dst,op,type,pos,after,guard⟩:=o;cases op with
 |buildSlice t len parts=>simp only[fk,ho,hpn]
 |call c=>
  obtain⟨cl,as,ts⟩:=c;cases cl with
  |builtin b=>cases b<;>first |rfl| (simp only[fk,ho,hs,hb])
  |invoke r m=>rfl
  |value g=>
   simp only[fk];have hg:iA p (opd S g)=true:=h g (by simp[Op.operands,Call.operands]);have hc:callee { S with bx:=f } g=callee S g:=by unfold callee; rw[ho]
   rw[hc];cases hcl:callee S g with
   |none=>rfl
   |some gc=>
    obtain⟨g',caps⟩:=gc;simp only[af]
    have hcaps: ∀c∈caps,iA p c=true:=by
     intro c hcm;unfold callee at hcl;split at hcl
     ·simp only[ae,al] at hcl;rw[<-hcl.2] at hcm;cases hcm
     ·rename_i g2 caps2 e;simp only[ae,al] at hcl;rw[<-hcl.2] at hcm;rw[e] at hg;exact iW hg hcm
     ·cases hcl
    have :args P { S with bx:=f } ts as caps=args P S ts as caps:=by
     unfold args;rw[ho]
     congr 1
     ·apply bK;intro k;rw[bf,bf];cases hs:ts.toList[k]? with
      |none=>rfl
      |some s=>
       cases hx:as.toList[k]? with
       |none=>rfl
       |some x=>simp only[ae];refine Fe hf (h x ?_);have:=aq hx;simp[Op.operands,Call.operands];right;simpa using this
     ·exact aG fun c hcm=>oC hf (hcaps c hcm)
    rw[this]
 | _=>rfl
theorem BL {p:Nat->Bool} {f:Nat->Option (List AV)} (hf: ∀n,p n=true->f n=S.bx n) {n:Nat} {v:AV} (h:iA p v=true):ew { S with bx:=f } n v=ew S n v:=by
 cases v with
 |ptrB b j=>have:=hf b h;simp only[ew];rw[this]
 | _=>rfl
theorem qO: ∀ (l:List Oper) (S S0:St),xL P l S=some S0->S0= { S with bx:=S0.bx,nb:=S0.nb } /\S0.nb=S.nb+eJ l/\(∀n,n<S.nb->S0.bx n=S.bx n)/\(∀n cs,S.nb<=n->S0.bx n=some cs->S.bx n=some cs\/ ∃ (k:Nat) (o:Oper) (zs:List Value),l[k]? =some o/\eO o=true/\n=S0.nb-1-eJ (l.drop (k+1))/\cs=zs.map vZ)/\
  ∀ (k:Nat) (o:Oper),l[k]? =some o->eO o=true-> ∃t zs,o.op= .alloc t/\se P t=some zs/\S0.bx (S0.nb-1-eJ (l.drop (k+1)))=some (zs.map vZ)
 | [],S,S0,h=>by simp only[xL,ae] at h;subst h;exact⟨rfl,rfl,fun _ _=>rfl,fun n cs _ h=> .inl h,fun k o hk=>by simp at hk⟩
 |o::os,S,S0,h=>by
  unfold xL at h;split at h
  ·rename_i t ht;simp only[aj] at h;obtain⟨zs,hz,h⟩:=h;obtain⟨e1,e2,e3,e4,e5⟩:=qO os _ S0 h;have hbo:eO o=true:=by unfold eO; rw[ht]
   have hc:eJ (o::os)=1+eJ os:=by simp only[eJ,hbo,if_true]
   refine⟨?_,by rw[e2,hc]; show S.nb+1+eJ os=_; omega,fun n hn=> ?_,fun n cs hn hcs=> ?_,fun k o' hk hb=> ?_⟩
   ·conv=>lhs; rw[e1]
   ·rw[e3 n (Nat.lt_succ_of_lt hn)];show eh S.bx S.nb _ n=_;simp[eh,Nat.ne_of_lt hn]
   ·by_cases hnn:n<S.nb+1
    ·have :n=S.nb:=by omega
     subst this;rw[e3 S.nb (cG _)] at hcs;have h2:eh S.bx S.nb (some (zs.map vZ)) S.nb=some cs:=hcs;simp only[eh,if_true,ae] at h2;exact .inr ⟨0,o,zs,rfl,hbo,by rw[e2]; show S.nb=S.nb+1+eJ os-1-eJ os; omega,h2.symm⟩
    ·rcases e4 n cs (by show S.nb+1<=n; omega) hcs with h1|h1
     ·left;have h2:eh S.bx S.nb (some (zs.map vZ)) n=some cs:=h1;unfold eh at h2;rw[if_neg (by omega)] at h2;exact h2
     ·obtain⟨k,o',zs',q1,q2,q3,q4⟩:=h1;exact .inr ⟨k+1,o',zs',q1,q2,q3,q4⟩
   ·cases k with
    |zero=>
     simp only[aF,ae] at hk;subst hk;refine⟨t,zs,ht,hz,?_⟩
     have :S0.nb-1-eJ os=S.nb:=by rw[e2];show S.nb+1+eJ os-1-eJ os=S.nb;omega
     simp only[aV,List.drop_succ_cons,bT];rw[this,e3 S.nb (cG _)];show eh S.bx S.nb _ S.nb=_;simp[eh]
    |succ k=>exact e5 k o' (by simpa using hk) hb
  ·rename_i hno;obtain⟨e1,e2,e3,e4,e5⟩:=qO os S S0 h
   have hbo:eO o=false:=by
    unfold eO;split
    ·rename_i t ht;exact absurd ht (hno t)
    ·rfl
   have hc:eJ (o::os)=eJ os:=by simp[eJ,hbo]
   refine⟨e1,by rw[e2,hc],e3,fun n cs hn hcs=> ?_,fun k o' hk hb=> ?_⟩
   ·rcases e4 n cs hn hcs with h1| ⟨k,o',zs',q1,q2,q3,q4⟩
    ·exact .inl h1
    ·exact .inr ⟨k+1,o',zs',q1,q2,q3,q4⟩
   cases k with
   |zero=>simp only[aF,ae] at hk;subst hk;rw[hbo] at hb;cases hb
   |succ k=>exact e5 k o' (by simpa using hk) hb
theorem tg (l:List Oper): ∀ (k:Nat),eJ (l.drop k)<=eJ l:=by
 intro k
 induction l generalizing k with
 |nil=>simp
 |cons o l ih=>
  cases k with
  |zero=>exact aw _
  |succ k=>simp only[List.drop_succ_cons,eJ];have:=ih k;omega
theorem w8 {l:List Oper} {k:Nat} {o:Oper} (h:l[k]? =some o) (hb:eO o=true):eJ (l.drop (k+1))+1=eJ (l.drop k):=by have hlt:=(ai.1 h).1;have he:=(ai.1 h).2;rw[bQ hlt,he];simp only[eJ,hb,if_true];omega
theorem zR {l:List Oper}: ∀ {i j:Nat},i<=j->eJ (l.drop j)<=eJ (l.drop i):=by
 intro i j h;have :l.drop j=(l.drop i).drop (j-i):=by rw[b8]; congr 1; omega
 rw[this];exact tg _ _
end
end
end Go.Proofs.YtadpelkpdaohnaaGreatDoor.En
