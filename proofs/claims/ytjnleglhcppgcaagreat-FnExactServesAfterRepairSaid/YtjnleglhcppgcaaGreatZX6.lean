import Derived.Test.YtjnleglhcppgcaaGreatZX5
import Derived.Lib.Overlaps
namespace Go.Proofs.YtjnleglhcppgcaaGreat.En
section
open Go Go.RowKit
section
variable {P:Program} {w0 w w':World} {W:Nat->Prop} {bt btn:Bt} {S Sm Sp:St} {a:Act} {ps:List fj} {ts out:List T}
structure EK (S:St) (ps:List fj) (ts:List T):Prop where
 len:ts.length=ps.length
 here: ∀ (k:Nat) (p:fj),ps[k]? =some p-> ∃s rows,ts[k]? =some (.sl s rows)/\S.look p= .sl s rows
 apart: ∀ (k k':Nat) (p p':fj) (l l':List (Nat×Nat)),ps[k]? =some p->ps[k']? =some p'->p.r=p'.r->p.l++l=p'.l++l'->k=k'
def JH (ps:List fj) (q:fj):fj:=match ps[q.r]? with |some p=>⟨p.r,p.l++q.l⟩|none=>q
theorem B6 {q p:fj} (h:ps[q.r]? =some p):JH ps q=⟨p.r,p.l++q.l⟩:=by unfold JH; rw[h]
theorem EK.look (hG:EK S ps ts) {q:fj} {s:Nat} {rs:List (List T)} (h: (oC ts).look q= .sl s rs): ∃p,ps[q.r]? =some p/\S.look ⟨p.r,p.l++q.l⟩= .sl s rs:=by
 unfold St.look oC at h;simp only at h;cases ht:ts[q.r]? with
 |none=>rw[ht] at h; cases h
 |some t=>
  rw[ht] at h;simp only at h;have hlt:q.r<ps.length:=by rw[<-hG.len]; exact (ai.1 ht).1
  have hp:ps[q.r]? =some ps[q.r] :=ah hlt;obtain⟨s0,rows0,h1,h2⟩:=hG.here _ _ hp;rw[ht] at h1;cases h1;refine⟨_,hp,?_⟩;unfold St.look at h2 ⊢;cases hg:S.gh (ps[q.r]).r with
  |none=>rw[hg] at h2; cases h2
  |some t0=>rw[hg] at h2;simp only at h2 ⊢;rw[T.go_append,h2];exact h
theorem EK.inj (hG:EK S ps ts) {q q' p p':fj} (h:ps[q.r]? =some p) (h':ps[q'.r]? =some p') (he: (⟨p.r,p.l++q.l⟩:fj)=⟨p'.r,p'.l++q'.l⟩):q=q':=by simp only[fj.mk.injEq] at he;have hk:=hG.apart _ _ _ _ _ _ h h' he.1 he.2;obtain⟨qr,ql⟩:=q;obtain⟨qr',ql'⟩:=q';simp only at hk h h' he;subst hk;rw[h] at h';cases h';rw[List.append_cancel_left he.2]
def uM (bt:Bt) (S:St) (ps:List fj) (b:Nat):Prop:= ∃p∈ps,∃l s rs,S.look ⟨p.r,p.l++l⟩= .sl s rs/\0<bt.κ ⟨p.r,p.l++l⟩/\bt.β ⟨p.r,p.l++l⟩=b
structure R8 (S Sm:St) (ps:List fj):Prop where
 env:Sm.env=S.env
 bx:Sm.bx=S.bx
 nt:Sm.nt=S.nt
 look: ∀ (q:fj) (s:Nat) (rs:List (List T)),Sm.look q= .sl s rs->(∀p∈ps,¬wW p q)/\ ∃rs0,S.look q= .sl s rs0
theorem Mc (hI:gz w0 W bt S w) {q:fj} {s:Nat} {rs:List (List T)} (hq:S.look q= .sl s rs) (hk:0<bt.κ q) (hn: ∀p∈ps,¬wW p q): ¬uM bt S ps (bt.β q):=by
 rintro⟨p,hp,l,s',rs',h1,h2,h3⟩
 have:=hI.inj _ _ _ _ _ _ h1 hq h2 hk h3;subst this;exact hn p hp ⟨rfl,ea _ _⟩
theorem Md (hI:gz w0 W bt S w) (hR:R8 S Sm ps):C0 bt Sm (fun b=>b<w.heap.size/\ ¬uM bt S ps b):=by
 refine⟨fun b hb=>⟨hI.alt b hb,?_⟩,fun p s rs hp hk=> ?_,fun n cs hn=> ?_⟩
 ·rintro⟨p,hp,l,s',rs',h1,h2,rfl⟩
  exact hI.atr _ _ _ h1 h2 hb
 ·obtain⟨h1,rs0,h2⟩:=hR.look p s rs hp;exact⟨hI.βlt h2 hk,Mc hI h2 hk h1⟩
 ·rw[hR.bx] at hn;refine⟨hI.bblt (n:=n) hn,?_⟩
  rintro⟨p,hp,l,s',rs',h1,h2,h3⟩
  exact hI.bbtr _ _ _ _ _ hn h1 h2 h3.symm
def handG (bt:Bt) (S:St) (w:World) (ps:List fj):Bt:= { bt with β:=fun q=>bt.β (JH ps q),κ:=fun q=>bt.κ (JH ps q),nb:=0,ng:=ps.length,A:=fun b=>b<w.heap.size/\ ¬uM bt S ps b }
theorem OC (hI:gz w0 W bt S w) (hG:EK S ps ts):gz w (uM bt S ps) (handG bt S w ps) (oC ts) w:=by
 have lk: ∀ {q:fj} {s:Nat} {rs:List (List T)},(oC ts).look q= .sl s rs-> ∃p,ps[q.r]? =some p/\JH ps q=⟨p.r,p.l++q.l⟩/\S.look (JH ps q)= .sl s rs:=by intro q s rs h;obtain⟨p,h1,h2⟩:=hG.look h;exact⟨p,h1,B6 h1,by rw[B6 h1]; exact h2⟩
 exact { os:=rfl,tape:=rfl,output:=rfl,size:=ay _,keep:=fun _ _ _=>rfl,nb:=rfl,ng:=by show ps.length=ts.length; rw[hG.len]
         bx:=fun n cells h=>by cases h
         gh:=fun k x h=>by have h':ts[k]? =some x:=h;exact (ai.1 h').1
         tr:=fun p s rs h=>by
          obtain⟨p0,h1,h2,h3⟩:=lk h;obtain⟨g1,g2⟩:=hI.tr _ _ _ h3;refine⟨g1,fun hk=>⟨.inr ⟨p0,ao h1,p.l,s,rs,by rw[<-h2]; exact h3,by rw[<-h2]; exact hk,by rw[<-h2]; rfl⟩,?_⟩⟩;obtain⟨_,cs,e,k1,k2,k3,k4⟩:=g2 hk;refine⟨cs,e,k1,k2,k3,fun i row hi=> ?_⟩;obtain⟨m1,m2⟩:=k4 i row hi;refine⟨m1,fun j x hx=> ?_⟩;obtain⟨c,j1,j2⟩:=m2 j x hx;refine⟨c,j1,?_⟩
          have hsub:JH ps (p.sub i j)=(JH ps p).sub i j:=by have :ps[(p.sub i j).r]? =some p0:=h1;rw[B6 this,h2];simp[fj.sub,aR]
          have e1: (handG bt S w ps).β (p.sub i j)=bt.β ((JH ps p).sub i j):=by show bt.β _=_; rw[hsub]
          have e2: (handG bt S w ps).κ (p.sub i j)=bt.κ ((JH ps p).sub i j):=by show bt.κ _=_; rw[hsub]
          cases j2 with
          |sc h=>exact .sc h
          |dd u=>exact .dd _
          |sl hc hk ha=>exact .sl hc (by rw[e2]; exact hk) (by rw[e1]; exact ha)
         inj:=fun p q s rs s' rs' h h' hk hk' he=>by obtain⟨p0,h1,h2,h3⟩:=lk h;obtain⟨q0,h1',h2',h3'⟩:=lk h';have:=hI.inj _ _ _ _ _ _ h3 h3' hk hk' he;rw[h2,h2'] at this;exact hG.inj h1 h1' this
         bbinj:=fun n m cs cs' h=>by cases h
         bbtr:=fun n cs p s rs h=>by cases h
         alt:=fun b h=>h.1
         atr:=fun p s rs h hk ha=>by obtain⟨p0,h1,h2,h3⟩:=lk h;exact ha.2 ⟨p0,ao h1,p.l,s,rs,by rw[<-h2]; exact h3,by rw[<-h2]; exact hk,by rw[<-h2]; rfl⟩
         abb:=fun n cs h=>by cases h }
theorem OD (hI:gz w0 W bt S w) (hE:ER w bt S a) (hIm:gz w0 W bt Sm w) (hR:R8 S Sm ps) (hG:EK S ps ts) {o:Oper} {f x:Operand} {as:Array Operand} {tys:Array TypeId} (ho:o.op= .call { callee:= .value f,args:=as,argTypes:=tys }) {xs:List Operand} {us':List TypeId} (has:as.toList=x::xs) (hlen:us'.length=xs.length)
  {g:FuncId} {caps:List AV} (hc:callee S f=some (g,caps)) {av0:AV} (hx: ∀u,VR w bt (opd S x) u->VR w (handG bt S w ps) av0 u) {m:Nat} {res:AV}
  (hS:oz P g (av0::wX P Sm us' xs caps) ts m res out) {K:Act->World->Prop} {Q:Exit->Act->World->Prop}
  (h: ∀u w' btn,gz w (uM bt S ps) btn (oC out) w'->m<=out.length->(∀p:fj,p.r<m->btn.β p=bt.β (JH ps p)/\btn.κ p=bt.κ (JH ps p))->VR w' btn res u->K (a.put o.dst u) w'):o.wp P a w K Q:=by
 have hf:=ft hE f
 have fin: ∀us:List Value,a.eval f= .func (.func g) #[] us.toArray->us.length=caps.length->(∀ (k:Nat) (c:AV) (u:Value),caps[k]? =some c->us[k]? =some u->VR w bt c u)->o.wp P a w K Q:=by
  intro us he hl hcc;have hE':ER w bt Sm a:=⟨by rw[hR.nt]; exact hE.1,by rw[hR.env]; exact hE.2⟩
  obtain⟨h1,h2⟩:=Kf (P:=P) (bt':=handG bt S w ps) hIm hE' (Md hI hR) rfl hlen hl hcc;have hI0:=OC hI hG;have e0:as.toList.map a.eval++us=a.eval x:: (xs.map a.eval++us):=by rw[has]; rfl
  obtain⟨g1,g2⟩:=hS w _ _ (as.toList.map a.eval++us) hI0 (by rw[e0]; simp only[bk,h1]) (fun k v u hk hu=>by
   rw[e0] at hu;cases k with
   |zero=>simp only[aK,af] at hk hu;subst hk hu;exact hx _ (ft hE x)
   |succ k=>exact h2 k v u (by simpa using hk) (by simpa using hu))
  have hrun: (execOp a.eval o).run P w= .ok (.enter g (as.toList.map a.eval++us).toArray) w:=by
   have e:as.map a.eval++us.toArray=(as.toList.map a.eval++us).toArray:=by apply Array.ext'; simp
   obtain⟨dst,op,type,pos,after,guard⟩:=o;simp only at ho;subst ho;simp only[execOp,resolve,he,Deferred.ofValue,Sem.run_bind,Sem.run_pure,Result.andThen_ok,invoke,dq];rw[e];exact g1
  unfold Oper.wp;rw[hrun,Oper.upon_enter];refine Calls.mono g2 (fun e w' hh=> ?_);obtain⟨v,btn,rfl,k1,k2,k3,k4⟩:=hh;exact h v w' btn k1 k2 k3 k4
 unfold callee at hc;split at hc
 ·rename_i g' x y he;simp only[af,an] at hc;obtain⟨rfl,rfl⟩:=hc;rw[he] at hf;generalize hu:a.eval f=u at hf fin;cases hf with
  |sc hs=>simp only[qI,aq,Array.isEmpty_iff] at hs;obtain⟨rfl,rfl⟩:=hs;exact fin [] rfl rfl (fun k c u h1 _=>by simp at h1)
 ·rename_i g' cs he;simp only[af,an] at hc;obtain⟨rfl,rfl⟩:=hc;rw[he] at hf;generalize hu:a.eval f=u at hf fin;cases hf with
  |fn f hl hcc=>exact fin _ rfl hl hcc
 ·cases hc
structure R9 (S Sp:St) (ps:List fj) (out:List T):Prop where
 env:Sp.env=S.env
 bx:Sp.bx=S.bx
 nb:Sp.nb=S.nb
 ng:Sp.ng=S.ng
 fz:Sp.fz=S.fz
 nt:Sp.nt=S.nt
 gh: ∀ (r:Nat) (t:T),Sp.gh r=some t-> ∃t0,S.gh r=some t0
 gone: ∀r,Sp.gh r=none->S.gh r=none
 look: ∀ (q:fj) (s:Nat) (rs:List (List T)),Sp.look q= .sl s rs->(∃k p l,ps[k]? =some p/\q=⟨p.r,p.l++l⟩/\(oC out).look ⟨k,l⟩= .sl s rs)\/
  ((∀p∈ps,¬wW p q)/\ ∃rs0,S.look q= .sl s rs0/\rs.length=rs0.length/\ ∀ (i:Nat) (r:List T),rs[i]? =some r-> ∃r0,rs0[i]? =some r0/\r.length=r0.length/\
    ∀ (j:Nat) (y:T),r[j]? =some y-> ∃y0,r0[j]? =some y0/\(y=y0\/ ∃s1 ra rb,y= .sl s1 ra/\y0= .sl s1 rb/\ra.length=rb.length))
theorem Kj (hI:gz w0 W bt S w) (hE:ER w bt S a) (hB:R9 S Sp ps out) {res:AV} {u:Value} (hC:gz w (uM bt S ps) btn (oC out) w') (hβ: ∀p:fj,p.r<ps.length->btn.β p=bt.β (JH ps p)/\btn.κ p=bt.κ (JH ps p)) (hv:VR w' btn res u) (hp:res.plain=true):
  jU w0 W bt S a bt Sp w'/\VR w' bt res u:=by
 classical
 have keep: ∀b,b<w.heap.size-> ¬uM bt S ps b->w'.heap[b]? =w.heap[b]? :=hC.keep
 have hA: ∀b,bt.A b->w'.heap[b]? =w.heap[b]? :=fun b hb=>keep b (hI.alt b hb) (by
  rintro⟨p,hp,l,s',rs',h1,h2,rfl⟩
  exact hI.atr _ _ _ h1 h2 hb)
 have hbb: ∀n cs,S.bx n=some cs->w'.heap[bt.bb n]? =w.heap[bt.bb n]? :=fun n cs hn=>keep _ (hI.bblt (n:=n) hn) (by
  rintro⟨p,hp,l,s',rs',h1,h2,h3⟩
  exact hI.bbtr _ _ _ _ _ hn h1 h2 h3.symm)
 have inn: ∀ {k:Nat} {p:fj} {l:List (Nat×Nat)} {s:Nat} {rs:List (List T)},ps[k]? =some p->(oC out).look ⟨k,l⟩= .sl s rs->btn.β ⟨k,l⟩=bt.β ⟨p.r,p.l++l⟩/\btn.κ ⟨k,l⟩=bt.κ ⟨p.r,p.l++l⟩:=by intro k p l s rs hk _;have h1:=hβ ⟨k,l⟩ (ai.1 hk).1;have h2:JH ps ⟨k,l⟩=⟨p.r,p.l++l⟩:=B6 (q:=⟨k,l⟩) hk;rw[h2] at h1;exact h1
 have sep: ∀ {c:fj} {s:Nat} {rs:List (List T)},(oC out).look c= .sl s rs->0<btn.κ c->w.heap.size<=btn.β c\/uM bt S ps (btn.β c):=fun h hk=>((hC.tr _ _ _ h).2 hk).1
 have sepL: ∀ {c:fj} {s:Nat} {rs:List (List T)} {q:fj} {s':Nat} {rs':List (List T)},(oC out).look c= .sl s rs->0<btn.κ c->S.look q= .sl s' rs'->0<bt.κ q->(∀p∈ps,¬wW p q)->bt.β q≠btn.β c:=by
  intro c s rs q s' rs' h hk hq hkq hn he;rcases sep h hk with h1|h1
  ·have:=hI.βlt hq hkq;omega
  ·rw[<-he] at h1;exact Mc hI hq hkq hn h1
 refine⟨⟨{ os:=hC.os.trans hI.os,tape:=hC.tape.trans hI.tape,output:=hC.output.trans hI.output,size:=bF hI.size hC.size
           keep:=fun b h1 h2=>by
            rw[<-hI.keep b h1 h2];refine keep b (bf h1 hI.size) ?_
            rintro⟨p,hp,l,s',rs',g1,g2,rfl⟩
            rcases ((hI.tr _ _ _ g1).2 g2).1 with g|g
            ·omega
            ·exact h2 g
           nb:=by rw[hB.nb]; exact hI.nb
           ng:=by rw[hB.ng]; exact hI.ng
           bx:=fun n cells hn=>by rw[hB.bx] at hn;obtain⟨h1,h2,h3⟩:=hI.bx n cells hn;exact⟨by rw[hB.nb]; exact h1,h2,h3.mono (Bt.le.refl _) (by rw[hI.nb]; exact h1) hA (hbb n cells hn)⟩
           gh:=fun k x h=>by obtain⟨t0,h0⟩:=hB.gh k x h;rw[hB.ng];exact hI.gh _ _ h0
           tr:=fun q s rs h=>by
            rcases hB.look q s rs h with ⟨k,p,l,h1,rfl,h2⟩| ⟨hn,rs0,h2,h3,h4⟩
            ·obtain⟨e1,e2⟩:=inn h1 h2;obtain⟨g1,g2⟩:=hC.tr _ _ _ h2;rw[e2] at g1 g2;refine⟨g1,fun hk=>⟨?_,?_⟩⟩
             ·rcases (g2 hk).1 with g| ⟨p',hp',l',s',rs',k1,k2,k3⟩
              ·rw[e1] at g;exact .inl (bF hI.size g)
              ·rw[e1] at k3;rw[<-k3];exact ((hI.tr _ _ _ k1).2 k2).1
             ·obtain⟨_,cs,ee,k1,k2,k3,k4⟩:=g2 hk;refine⟨cs,ee,by rw[<-e1]; exact k1,by rw[<-e2]; exact k2,k3,fun i row hi=> ?_⟩;obtain⟨m1,m2⟩:=k4 i row hi;refine⟨m1,fun j x hx=> ?_⟩;obtain⟨c,j1,j2⟩:=m2 j x hx;refine⟨c,j1,?_⟩;have h5:=hβ ((⟨k,l⟩:fj).sub i j) (ai.1 h1).1
              have h6:JH ps ((⟨k,l⟩:fj).sub i j)=(⟨p.r,p.l++l⟩:fj).sub i j:=by rw[B6 (q:=(⟨k,l⟩:fj).sub i j) h1];simp[fj.sub,aR]
              rw[h6] at h5;cases j2 with
              |sc h=>exact .sc h
              |dd u=>exact .dd _
              |sl hc hk ha=>exact .sl hc (by rw[<-h5.2]; exact hk) (by rw[<-h5.1]; exact ha)
            ·obtain⟨g1,g2⟩:=hI.tr _ _ _ h2;refine⟨by omega,fun hk=>⟨(g2 hk).1,?_⟩⟩;obtain⟨_,cs,ee,k1,k2,k3,k4⟩:=g2 hk;refine⟨cs,ee,by rw[keep _ (hI.βlt h2 hk) (Mc hI h2 hk hn)]; exact k1,k2,k3,fun i row hi=> ?_⟩;obtain⟨r0,a1,a2,a3⟩:=h4 i row hi;obtain⟨b1,b2⟩:=k4 i r0 a1;refine⟨by omega,fun j y hy=> ?_⟩;obtain⟨y0,c1,c2⟩:=a3 j y hy;obtain⟨c,d1,d2⟩:=b2 j y0 c1;refine⟨c,d1,?_⟩;rcases c2 with rfl| ⟨s1,ra,rb,rfl,rfl,hab⟩
             ·exact d2
             ·exact d2.len hab
           inj:=fun q q' s rs s' rs' h h' hk hk' he=>by
            rcases hB.look q s rs h with ⟨k,p,l,h1,rfl,h2⟩| ⟨hn,rs0,h2,_,_⟩<;>rcases hB.look q' s' rs' h' with ⟨k',p',l',h1',rfl,h2'⟩| ⟨hn',rs0',h2',_,_⟩
            ·obtain⟨e1,e2⟩:=inn h1 h2;obtain⟨e1',e2'⟩:=inn h1' h2';have:=hC.inj _ _ _ _ _ _ h2 h2' (by rw[e2]; exact hk) (by rw[e2']; exact hk') (by rw[e1,e1']; exact he);simp only[fj.mk.injEq] at this;obtain⟨rfl,rfl⟩:=this;rw[h1] at h1';cases h1';rfl
            ·obtain⟨e1,e2⟩:=inn h1 h2;exact absurd (by rw[e1]; exact he.symm) (sepL h2 (by rw[e2]; exact hk) h2' hk' hn')
            ·obtain⟨e1',e2'⟩:=inn h1' h2';exact absurd (by rw[e1']; exact he) (sepL h2' (by rw[e2']; exact hk') h2 hk hn)
            ·exact hI.inj _ _ _ _ _ _ h2 h2' hk hk' he
           bbinj:=fun n m cs cs' h h' he=>by rw[hB.bx] at h h';exact hI.bbinj _ _ _ _ h h' he
           bbtr:=fun n cs q s rs h h' hk=>by
            rw[hB.bx] at h;rcases hB.look q s rs h' with ⟨k,p,l,h1,rfl,h2⟩| ⟨hn,rs0,h2,_,_⟩
            ·obtain⟨e1,e2⟩:=inn h1 h2;rcases sep h2 (by rw[e2]; exact hk) with g| ⟨p',hp',l',s',rs',k1,k2,k3⟩
             ·have:=hI.bblt (n:=n) h;rw[e1] at g;omega
             ·rw[e1] at k3;rw[<-k3];exact hI.bbtr _ _ _ _ _ h k1 k2
            ·exact hI.bbtr _ _ _ _ _ h h2 hk
           alt:=fun b hb=>bf (hI.alt b hb) hC.size
           atr:=fun q s rs h hk hb=>by
            rcases hB.look q s rs h with ⟨k,p,l,h1,rfl,h2⟩| ⟨hn,rs0,h2,_,_⟩
            ·obtain⟨e1,e2⟩:=inn h1 h2;rcases sep h2 (by rw[e2]; exact hk) with g| ⟨p',hp',l',s',rs',k1,k2,k3⟩
             ·have:=hI.alt _ hb;rw[e1] at g;omega
             ·rw[e1] at k3;rw[<-k3] at hb;exact hI.atr _ _ _ k1 k2 hb
            ·exact hI.atr _ _ _ h2 hk hb
           abb:=fun n cs h=>by rw[hB.bx] at h;exact hI.abb n cs h },⟨by rw[hB.nt]; exact hE.1,fun x=>by rw[hB.env]; exact (hE.2 x).mono (Bt.le.refl _) hA⟩,hB.fz,trivial,by rw[hB.ng]; exact ay _,fun _ _=>⟨rfl,rfl⟩,fun k _ hn=>hB.gone k hn⟩,hv.plain hp⟩
theorem vE.handG {Post:St->Prop} {ops:Array Oper} {o:Oper} {l:List Oper} {f x:Operand} {as:Array Operand} {tys:Array TypeId} (ho:o.op= .call { callee:= .value f,args:=as,argTypes:=tys }) (hgd:o.guard=none) {xs:List Operand} {us':List TypeId} (has:as.toList=x::xs) (hlen:us'.length=xs.length)
  {g:FuncId} {caps:List AV} (hc:callee S f=some (g,caps)) (hR:R8 S Sm ps) (hIm: ∀ (w0:World) (W:Nat->Prop) (bt:Bt) (w:World),gz w0 W bt S w->gz w0 W bt Sm w) (hG:EK S ps ts) {av0:AV} (hx: ∀ (w:World) (bt:Bt) (u:Value),VR w bt (opd S x) u->VR w (handG bt S w ps) av0 u) {res:AV}
  (hS:oz P g (av0::wX P Sm us' xs caps) ts ps.length res out) (hB:R9 S Sp ps out) (hp:res.plain=true) (h: ∃S1,Sp.put o.dst res=some S1/\vE P ops l S1 Post):vE P ops (o::l) S Post:=by
 intro k w0 W btI SI bt a w Q hd hl hK
 have hko:ops.toList[k]? =some o:=by have:=congrArg (fun x:List Oper=>x[0]?) hd;simpa [aX] using this
 have hko':ops[k]? =some o:=by simpa using hko
 have hd':ops.toList.drop (k+1)=l:=by rw[<-cj,hd];rfl
 have hw:=nG (ops:=ops) (o:=o) (b:=true) hl.er (by unfold oD; rw[hgd]);simp only[bk,cE];unfold wpOps;rw[hko'];simp only;rw[hw,if_pos rfl];left;refine OD hl.inv hl.er (hIm _ _ _ _ hl.inv) hR hG ho has hlen hc (hx w bt) hS (fun u w' btn hC _ hβ hv=> ?_);obtain⟨S1,h1,h2⟩:=h;obtain⟨g1,g2⟩:=Kj hl.inv hl.er hB hC hβ hv hp;exact h2 (k+1) hd' ((hl.left g1).put g2 h1) hK
theorem Me {L:List Nat} (hl:ts.length=L.length) (hnd:L.Nodup) (h: ∀ (k r:Nat),L[k]? =some r-> ∃s rows,ts[k]? =some (.sl s rows)/\S.gh r=some (.sl s rows)):EK S (L.map fun r=>⟨r,[]⟩) ts:=by
 have nd: ∀ (k k' r:Nat),L[k]? =some r->L[k']? =some r->k=k':=by
  intro k k' r h1 h2;obtain⟨a1,a2⟩:=ai.1 h1;obtain⟨b1,b2⟩:=ai.1 h2;have hpw:=bN.1 hnd;rcases Nat.lt_trichotomy k k' with hlt|e|hlt
  ·exact absurd (a2.trans b2.symm) (hpw k k' a1 b1 hlt)
  ·exact e
  ·exact absurd (b2.trans a2.symm) (hpw k' k b1 a1 hlt)
 refine⟨by simpa using hl,fun k p hk=> ?_,fun k k' p p' l l' hk hk' he _=> ?_⟩
 ·rw[ar] at hk;simp only[ak] at hk;obtain⟨r,hr,rfl⟩:=hk;obtain⟨s,rows,h1,h2⟩:=h k r hr;exact⟨s,rows,h1,by unfold St.look; rw[h2]; rfl⟩
 ·rw[ar] at hk hk';simp only[ak] at hk hk';obtain⟨r,hr,rfl⟩:=hk;obtain⟨r',hr',rfl⟩:=hk';simp only at he;subst he;exact nd k k' r hr hr'
theorem Mf (L:List Nat):R8 S (dropL S L) (L.map fun r=>⟨r,[]⟩):=by refine⟨rfl,rfl,rfl,fun q s rs h=> ?_⟩;obtain⟨h1,h2⟩:=Al h;refine⟨fun p hp hu=> ?_,rs,h2⟩;obtain⟨r,hr,rfl⟩:=aM.1 hp;exact h1 (by rw[hu.1]; exact hr)
theorem Mg {L:List Nat} (hG:EK S (L.map fun r=>⟨r,[]⟩) ts) (hlo:out.length=L.length) (he:Sp.env=S.env) (hbx:Sp.bx=S.bx) (hnb:Sp.nb=S.nb) (hng:Sp.ng=S.ng) (hfz:Sp.fz=S.fz) (hnt:Sp.nt=S.nt)
  (h1: ∀ (k r:Nat),L[k]? =some r->Sp.gh r=out[k]?) (h2: ∀r,r∉L->Sp.gh r=S.gh r):R9 S Sp (L.map fun r=>⟨r,[]⟩) out:=by
 have had: ∀ (r:Nat),r∈L-> ∃ (k:Nat) (t0:T),L[k]? =some r/\S.gh r=some t0:=by
  intro r hr;obtain⟨k,hk,hkr⟩:=aJ hr;have hk':L[k]? =some r:=by rw[<-hkr]; exact ah hk
  obtain⟨s,rows,_,g⟩:=hG.here k ⟨r,[]⟩ (by rw[ar,hk']; rfl);unfold St.look at g;cases hg:S.gh r with
  |none=>simp only[hg] at g; cases g
  |some t0=>exact⟨k,t0,hk',rfl⟩
 refine⟨he,hbx,hnb,hng,hfz,hnt,fun r t ht=> ?_,fun r hr=> ?_,fun q s rs hq=> ?_⟩
 ·by_cases hr:r∈L
  ·obtain⟨k,t0,_,g⟩:=had r hr;exact⟨t0,g⟩
  ·rw[h2 r hr] at ht;exact⟨t,ht⟩
 ·by_cases hrL:r∈L
  ·obtain⟨k,t0,g,_⟩:=had r hrL;rw[h1 k r g] at hr;have :k<out.length:=by rw[hlo]; exact (ai.1 g).1
   rw[ah this] at hr;cases hr
  ·rw[<-h2 r hrL]; exact hr
 ·by_cases hqL:q.r∈L
  ·obtain⟨k,t0,g,_⟩:=had q.r hqL;left;refine⟨k,⟨q.r,[]⟩,q.l,by rw[ar,g]; rfl,rfl,?_⟩;unfold St.look at hq;rw[h1 k q.r g] at hq;unfold St.look oC;exact hq
  ·right
   have hq':S.look q= .sl s rs:=by unfold St.look at hq ⊢;rw[h2 q.r hqL] at hq;exact hq
   refine⟨fun p hp hu=> ?_,rs,hq',rfl,fun i r hi=>⟨r,hi,rfl,fun j y hy=>⟨y,hy, .inl rfl⟩⟩⟩;obtain⟨r,hr,rfl⟩:=aM.1 hp;exact hqL (by rw[hu.1]; exact hr)
theorem PX {p:fj} {s:Nat} {rows:List (List T)} (h:S.look p= .sl s rows):EK S [p] [.sl s rows] :=by
 refine⟨rfl,fun k p' hk=> ?_,fun k k' p1 p2 l l' hk hk' _ _=> ?_⟩
 ·cases k with
  |zero=>simp only[aK,af] at hk;subst hk;exact⟨s,rows,rfl,h⟩
  |succ k=>simp at hk
 ·have h1:=(ai.1 hk).1;have h2:=(ai.1 hk').1;simp at h1 h2;omega
theorem PY {p:fj} {s:Nat} {rows rows':List (List T)} (hp:S.look p= .sl s rows) (hl:rows'.length=rows.length):R9 S (S.setAt p (.sl s rows')) [p] [.sl s rows'] :=by
 obtain⟨t,ht,htp⟩: ∃t,S.gh p.r=some t/\t.go p.l= .sl s rows:=by
  unfold St.look at hp;split at hp
  ·rename_i t ht;exact⟨t,ht,hp⟩
  ·cases hp
 refine⟨rfl,rfl,rfl,rfl,rfl,rfl,fun r x hx=> ?_,fun r hr=> ?_,fun q s' rs h=> ?_⟩
 ·have hx':fo S.gh p.r ((S.gh p.r).map fun t=>t.put p.l (.sl s rows')) r=some x:=hx;unfold fo at hx';split at hx'
  ·rename_i e; rw[e]; exact⟨t,ht⟩
  ·exact⟨x,hx'⟩
 ·have hr':fo S.gh p.r ((S.gh p.r).map fun t=>t.put p.l (.sl s rows')) r=none:=hr;unfold fo at hr';split at hr'
  ·rw[ht] at hr'; cases hr'
  ·exact hr'
 ·rw[tF] at h;by_cases hqr:q.r=p.r
  ·rw[if_pos hqr,ht] at h;simp only at h;rcases T.put_spec (.sl s rows') p.l t (.inl (by rw[htp]; simp)) q.l s' rs h with ⟨m',hm,hgo⟩| ⟨rs0,g1,g2,g3,g4⟩
   ·left;refine⟨0,p,m',rfl,?_,?_⟩
    ·obtain⟨qr,ql⟩:=q;simp only at hqr hm;rw[hqr,hm]
    ·unfold St.look oC;exact hgo
   ·right;refine⟨fun p' hp' hu=> ?_,rs0,by unfold St.look; rw[hqr,ht]; exact g1,g2,fun i r h1=> ?_⟩
    ·rw[az.1 hp'] at hu;obtain⟨_,m,b⟩:=hu;exact g3 m b.symm
    ·obtain⟨r0,k1,k2,k3⟩:=g4 i r h1;refine⟨r0,k1,k2,fun j y h2=> ?_⟩;obtain⟨y0,j1,j2⟩:=k3 j y h2;refine⟨y0,j1,?_⟩;rcases j2 with rfl| ⟨hml,rfl⟩|h3
     ·exact .inl rfl
     ·refine .inr ⟨s,rows',rows,rfl,?_,hl⟩;rw[<-hml,T.go_append,g1] at htp;simp only[T.go,T.cell,aw,k1,aP,j1] at htp;exact htp
     ·exact .inr h3
  ·rw[if_neg hqr] at h;right;refine⟨fun p' hp' hu=> ?_,rs,h,rfl,fun i r h1=>⟨r,h1,rfl,fun j y h2=>⟨y,h2, .inl rfl⟩⟩⟩;rw[az.1 hp'] at hu;exact hqr hu.1
end
end
section
open Go Go.RowKit
section
variable {P:Program} {w w':World} {W:Nat->Prop} {bt:Bt}
def Va:T->Value| .sc v=>v| _=>undef
def sH (sz:Nat) (rows:List (List T)):Prop:= ∀r∈rows,r.length=sz/\ ∀x∈r,∃v,x= .sc v/\qI v=true
def iV:List (List T)->List Value
 | [] => []
 |r::l=>r.map Va++iV l
theorem sH.tail {sz:Nat} {r:List T} {l:List (List T)} (h:sH sz (r::l)):sH sz l:=fun x hx=>h x (aF _ hx)
theorem qO {sz:Nat}: ∀ {rows:List (List T)},sH sz rows->(iV rows).length=rows.length*sz
 | [],_=>by simp[iV]
 |r::l,h=>by simp only[iV,aQ,aD,bk,qO h.tail,(h r aG).1,bI];omega
theorem yO: ∀a b:List (List T),iV (a++b)=iV a++iV b
 | [],b=>rfl
 |r::a,b=>by simp[iV,yO a b]
theorem yP {sz:Nat}: ∀ {rows:List (List T)},sH sz rows-> ∀ (i:Nat) (r:List T) (j:Nat) (x:T),rows[i]? =some r->r[j]? =some x->(iV rows)[i*sz+j]? =some (Va x)
 | [],_,i,r,j,x,hi,_=>by simp at hi
 |r0::l,h,0,r,j,x,hi,hj=>by
  obtain rfl:r0=r:=by simpa using hi
  have hl:=(ai.1 hj).1;rw[cr,aU,iV,aH (by simpa using hl),ar,hj];rfl
 |r0::l,h,i+1,r,j,x,hi,hj=>by have h0:=(h r0 aG).1;rw[iV,aN (by rw[aD,h0,bI]; omega),aD,h0,show (i+1)*sz+j-sz=i*sz+j by rw[bI]; omega];exact yP h.tail i r j x (by simpa using hi) hj
theorem Hr {sz:Nat}: ∀ {rows:List (List T)},sH sz rows-> ∀u∈iV rows,qI u=true
 | [],_,u,hu=>by cases hu
 |r::l,h,u,hu=>by
  rcases bc.1 hu with hu|hu
  ·obtain⟨x,hx,rfl⟩:=aM.1 hu;obtain⟨v,rfl,hv⟩:=(h r aG).2 x hx;exact hv
  ·exact Hr h.tail u hu
theorem PZ {sz:Nat} {rows:List (List T)} (hf:sH sz rows) {p:fj} {cur:Array Value} (g: ∀ (i:Nat) (r:List T),rows[i]? =some r->r.length=sz/\ ∀ (j:Nat) (x:T),r[j]? =some x-> ∃c,cur[i*sz+j]? =some c/\HR bt (p.sub i j) x c) (k:Nat) (u:Value) (hk: (iV rows)[k]? =some u):cur[k]? =some u:=by
 have hlt:=(ai.1 hk).1;rw[qO hf] at hlt
 have hsz:0<sz:=by
  rcases bn sz with h|h
  ·subst h; simp at hlt
  ·exact h
 have e:k / sz*sz+k % sz=k:=by rw[dR]; exact Nat.div_add_mod k sz
 have hi:k / sz<rows.length:=Nat.div_lt_of_lt_mul (by rw[dR]; exact hlt);have hr:=ah hi;obtain⟨g1,g2⟩:=g _ _ hr;have hj:k % sz< (rows[k / sz]).length:=by rw[g1]; exact dH _ hsz
 have hx:=ah hj;obtain⟨c,c1,c2⟩:=g2 _ _ hx;have hv:=yP hf _ _ _ _ hr hx;rw[e] at c1 hv;rw[hk] at hv;obtain⟨v,hv1,_⟩:=(hf _ (ao hr)).2 _ (ao hx);rw[hv1] at c2 hv;cases c2 with
 |sc _=>rw[c1,Option.some.inj hv];rfl
theorem Sa {sz:Nat} {rows:List (List T)} (hf:sH sz rows) {l:List (Nat×Nat)} {s:Nat} {rs:List (List T)} (h: (T.sl sz rows).go l= .sl s rs):l= [] /\s=sz/\rs=rows:=by
 cases l with
 |nil=>have h:T.sl sz rows= .sl s rs:=h;cases h;exact⟨rfl,rfl,rfl⟩
 |cons z l=>
  obtain⟨i,j⟩:=z;exfalso
  have gE: ∀ (l:List (Nat×Nat)) (t:T),(t= .dd\/ ∃v,t= .sc v)->t.go l≠ .sl s rs:=by
   intro l
   induction l with
   |nil=>rintro t (rfl| ⟨v,rfl⟩) h<;>cases h
   |cons y l ih=>rintro t (rfl| ⟨v,rfl⟩) h<;>exact ih .dd (.inl rfl) h
  refine gE l _ ?_ h;simp only[T.cell,aw];cases hr:rows[i]? with
  |none=>exact .inl (by simp)
  |some r=>
   simp only[aP];cases hx:r[j]? with
   |none=>exact .inl rfl
   |some x=>obtain⟨v,rfl,_⟩:=(hf r (ao hr)).2 x (ao hx);exact .inr ⟨v,rfl⟩
theorem Ik {sz:Nat} {rows rows':List (List T)} (hI:gz w W bt (oC [.sl sz rows]) w) (hf:sH sz rows') {b cap:Nat} {cs:Array Value} {e:TypeId} (h1:w'.os=w.os) (h2:w'.tape=w.tape) (h3:w'.output=w.output) (h4:w.heap.size<=w'.heap.size)
  (hb:b=w.heap.size\/(0<bt.κ ⟨0,[]⟩/\b=bt.β ⟨0,[]⟩)) (hkeep: ∀k,k<w.heap.size->w'.heap[k]? =w.heap[k]? \/k=b\/(0<bt.κ ⟨0,[]⟩/\k=bt.β ⟨0,[]⟩)) (hh:w'.heap[b]? =some (.cells cs e (0,0))) (hk:cap*sz<=cs.size) (ho: ∀ (k:Nat) (u:Value),cs[k]? =some u->u.oneCell'=true)
  (hr:rows'.length<=cap) (hv: ∀ (k:Nat) (u:Value),(iV rows')[k]? =some u->cs[k]? =some u):
  ∃btn,gz w W btn (oC [.sl sz rows']) w'/\VR w' btn (.own ⟨0,[]⟩ sz 0 rows'.length) (.slice (some ⟨b,0,none⟩) rows'.length cap):=by
 have ng:bt.ng=1:=hI.ng;have old: (oC [T.sl sz rows]).look ⟨0,[]⟩= .sl sz rows:=rfl
 have look: ∀ (p:fj) (s:Nat) (rs:List (List T)),(oC [T.sl sz rows']).look p= .sl s rs->p=⟨0,[]⟩/\s=sz/\rs=rows':=by intro p s rs h;obtain⟨e0,h⟩:=Kg h;obtain⟨e1,e2,e3⟩:=Sa hf h;obtain⟨r,l⟩:=p;simp only at e0 e1;exact⟨by rw[e0,e1],e2,e3⟩
 have place:w.heap.size<=b\/W b:=by
  rcases hb with h| ⟨h,h'⟩
  ·exact .inl (Nat.le_of_eq h.symm)
  ·rw[h'];exact ((hI.tr _ _ _ old).2 h).1
 refine⟨{ bt with β:=fun _=>b,κ:=fun _=>cap },{ os:=h1,tape:=h2,output:=h3,size:=h4,keep:=fun k hk' hW=> ?_,nb:=hI.nb,ng:=hI.ng,bx:=fun n cells h=>(by cases h),gh:=fun r t h=> ?_,tr:=fun p s rs h=> ?_,inj:=fun p q s rs s' rs' h h' _ _ _=> ?_,bbinj:=fun n m c c' h=>(by cases h),bbtr:=fun n c p s rs h=>(by cases h),alt:=fun k hA=>bf (hI.alt k hA) h4,atr:=fun p s rs h _ hA=> ?_,abb:=fun n c h=>(by cases h) },?_⟩
 ·rcases hkeep k hk' with h|rfl| ⟨h,rfl⟩
  ·exact h
  ·rcases place with h|h
   ·omega
   ·exact absurd h hW
  ·rcases ((hI.tr _ _ _ old).2 h).1 with h'|h'
   ·omega
   ·exact absurd h' hW
 ·have :r<1:=by
   have:=(ai.1 (show [T.sl sz rows'][r]? =some t from h)).1;simpa using this
  exact this
 ·obtain⟨rfl,rfl,rfl⟩:=look p s rs h;refine⟨hr,fun _=>⟨place,cs,e,hh,hk,ho,fun i r hi=>⟨(hf r (ao hi)).1,fun j x hx=> ?_⟩⟩⟩;obtain⟨v,rfl,hs⟩:=(hf r (ao hi)).2 x (ao hx);exact⟨v,hv _ _ (yP hf i r j _ hi hx), .sc hs⟩
 ·rw[(look p s rs h).1,(look q s' rs' h').1]
 ·have hA:bt.A b:=hA;rcases hb with h'| ⟨h',h''⟩
  ·have:=hI.alt b hA;omega
  ·rw[h''] at hA;exact hI.atr _ _ _ old h' hA
 ·exact .own (by show 0<bt.ng; omega) hr (by show 0+cap<=cap; omega) (fun _=>by simp)
theorem uN (w:World) (dT sT ty elem:TypeId) {i:TypeInfo} (g o dLen dCap:Nat) (a:Addr) (sLen sCap:Nat) (cur:Array Value) (t:TypeId) (cs:List Value)
  (hu:P.underlying dT=some (.slice elem)) (hi:P.info? elem=some i)
  (hg:w.heap[g]? =some (.cells cur t (0,0))) (hn:cs.length=Nat.min sLen dLen*i.size)
  (hsrc: ∀ (j:Nat) (v:Value),cs[j]? =some v->w.cell? (a.add j)=some v) (hfit:o+cs.length<=cur.size) (h1: ∀v∈cs,v.oneCell'=true):
  (Builtin.copy_ #[dT,sT] ty #[.slice (some ⟨g,o,none⟩) dLen dCap, .slice (some a) sLen sCap]).run P w=
    .ok (goInt (Nat.min sLen dLen)) (w.setRow g (cur.toList.take o++cs++cur.toList.drop (o+cs.length)).toArray):=by
 have hl:=run_loadCells_list (P:=P) w a cs hsrc;have hst:=run_storeCells_at P g o t cs 0 cur w hg (by simpa using hfit) h1;simp[Builtin.copy_,run_underlying hu,Builtin.lenOf,Builtin.firstCells,sizeOf,typeInfo,hi,<-hn,hl,hst]
theorem Il (w:World) (tS tR e:TypeId) (ht:P.underlying tS=some (.slice e)) {i:TypeInfo} (hi:P.info? e=some i) (a b:Addr) (la ca lb cb:Nat) (hne:a.block≠b.block) {ra rb:Array Value} {ta tb:TypeId} {fa:Nat×Nat}
  (ha:w.heap[a.block]? =some (.cells ra ta fa)) (hra:0<ra.size) (hb:w.heap[b.block]? =some (.cells rb tb (0,0))):
  (Extern.SlicesOverlaps.overlaps #[tS,tS] #[tR] #[.slice (some a) la ca, .slice (some b) lb cb]).run P w= .ok (.bool false) w:=by
 have hnb: (a.block != b.block)=true:=by simpa using hne
 have hnb': (a.block==b.block)=false:=by simpa using hne
 have hz: ∀w,(Go.sizeOf e).run P w= .ok i.size w:=fun w=>by simp[sizeOf,typeInfo,hi]
 have sa:w.shape? a.block=some (ta,ra.size):=by simp[World.shape?,ha]
 have sb:w.shape? b.block=some (tb,rb.size):=by simp[World.shape?,hb]
 have fb: ∀o s,w.frozen? ⟨b.block,o,s⟩=false:=fun o s=>by simp[World.frozen?,hb]
 obtain⟨n,hn⟩: ∃n,ra.size=n+1:=⟨ra.size-1,by omega⟩
 rw[hn] at sa
 change Sem.run P (α:=Value) (do
  let some t:=(#[tS,tS]:Array TypeId)[0]? |stuck "slices.overlaps: no parameter types"
  let .slice elem <-underlying t|stuck "slices.overlaps: slice type expected"
  let size <-sizeOf elem
  match (some a:Option Addr),(some b:Option Addr) with
  |some a,some b=>
   if la=0\/lb=0\/size=0 then pure (Value.bool false)
   else if a.block != b.block&&(<-frozen a)&&(<-frozen b) then unsupported .addressObserved
   else do
    if a.block != b.block then do
     noView a; noView b
     if <-mayBeOne a b then return Value.bool ((<-choose (.extern "sameAddr.stringBytes" 2))==1)
    pure (Value.bool (a.block==b.block&&a.off<b.off+lb*size&&b.off<a.off+la*size))
  | _,_=>pure (Value.bool false)) w=_
 by_cases h0:la=0\/lb=0\/i.size=0
 ·simp[run_underlying ht,hz,h0]
 ·cases h1:w.frozen? a<;>cases h2:w.frozen? { block:=a.block,off:=n+1 }<;>
   simp[run_underlying ht,hz,h0,hnb,hnb',frozen,noView,viewAt,mayBeOne,stringish,shape,Sem.run,sa,sb,h1,h2,fb]
structure Im (P:Program) (f t e tn:Nat) (sz:Nat) (i:TypeInfo) (z:Value):Prop where
 enter: ∀ (args:Array Value) (w:World),(callFunc f args).run P w= .ok (.enter f args) w
 ht:P.underlying t=some (.slice e)
 hi:P.info? e=some i
 hz:i.zero=some z
 zs:z.cells.size=i.size
 z1: ∀u∈z.cells.toList,u.oneCell'=true
 hs:i.size=sz
 pos:0<sz
 htn:P.underlying tn=some (.int .i64)
 toEnd: ∀ (ab:Option Addr) (n c:Nat) (ad:Addr) (vc:Nat) (w w':World) (v:Value),n<=c->(ab=none->n=0)->n<=2 ^ 40->
  (∀ty,(Builtin.append_ #[t,t] ty #[.slice ab n c, .slice (some ad) 1 vc]).run P w= .ok v w')->
  Calls P f #[.slice ab n c, .int .i64 n, .slice (some ad) 1 vc] w fun e w1=>e= .returned v/\w1=w'
 shift: ∀ (b n c i:Nat) (ad:Addr) (vc:Nat) (w W1 W2:World) (u1 u2:Value),i<n->n+1<=c->n<=2 ^ 40->ad.block≠b->
  (∃ra ta fa,w.heap[ad.block]? =some (.cells ra ta fa)/\0<ra.size)->(∃rb tb,w.heap[b]? =some (.cells rb tb (0,0)))->
  (∀ty dc sc,(Builtin.copy_ #[t,t] ty #[.slice (some ⟨b,(i+1)*sz,none⟩) (n-i) dc, .slice (some ⟨b,i*sz,none⟩) (n+1-i) sc]).run P w.drew= .ok u1 W1)->
  (∀ty dc,(Builtin.copy_ #[t,t] ty #[.slice (some ⟨b,i*sz,none⟩) (n+1-i) dc, .slice (some ad) 1 vc]).run P W1= .ok u2 W2)->
  Calls P f #[.slice (some ⟨b,0,none⟩) n c, .int .i64 i, .slice (some ad) 1 vc] w fun e w1=>e= .returned (.slice (some ⟨b,0,none⟩) (n+1) c)/\w1=W2
 grow: ∀ (b g n c G i:Nat) (ad:Addr) (vc:Nat) (w W0 W1 W2:World) (u1 u2:Value),i<n->n<=c->c<n+1->n+1<=G->n<=2 ^ 40->
  (∀ty,(Builtin.append_ #[t,tn] ty #[.slice (some ⟨b,0,none⟩) i c, .int .i64 ((n:Int)+1-(i:Int))]).run P w= .ok (.slice (some ⟨g,0,none⟩) (n+1) G) W0)->
  (∀ty dc,(Builtin.copy_ #[t,t] ty #[.slice (some ⟨g,i*sz,none⟩) (n+1-i) dc, .slice (some ad) 1 vc]).run P W0= .ok u1 W1)->
  (∀ty dc sc,(Builtin.copy_ #[t,t] ty #[.slice (some ⟨g,(i+1)*sz,none⟩) (n-i) dc, .slice (some ⟨b,i*sz,none⟩) (n-i) sc]).run P W1.drew= .ok u2 W2)->
  Calls P f #[.slice (some ⟨b,0,none⟩) n c, .int .i64 i, .slice (some ad) 1 vc] w fun e w1=>e= .returned (.slice (some ⟨g,0,none⟩) (n+1) G)/\w1=W2
theorem sH.ins {sz:Nat} {rows:List (List T)} {row:List T} (h:sH sz rows) (hr:sH sz [row]) (i:Nat):sH sz (rows.take i++row::rows.drop i):=fun r hm=>by
 rcases bc.1 hm with hm|hm
 ·exact h r (b8 hm)
 ·rcases aW.1 hm with rfl|hm
  ·exact hr r aG
  ·exact h r (bG hm)
theorem P0 {α:Type}: ∀ (l m:List α),(∀ (k:Nat) (u:α),l[k]? =some u->m[k]? =some u)-> ∃C,m=l++C
 | [],m,_=>⟨m,rfl⟩
 |a::l,m,h=>by
  have h0:=h 0 a rfl;cases m with
  |nil=>cases h0
  |cons b m=>
   obtain rfl:b=a:=by simpa using h0
   obtain⟨C,rfl⟩:=P0 l m (fun k u hk=>by simpa using h (k+1) u (by simpa using hk));exact⟨C,rfl⟩
theorem Kk {w:World} {a:Addr} (hs:a.spot=none) {c:Value} (h:w.cell? a=some c): ∃ra ta fa,w.heap[a.block]? =some (.cells ra ta fa)/\0<ra.size:=by
 unfold World.cell? at h;split at h
 ·rename_i ra ta fa hb;rw[hs] at h;refine⟨ra,ta,fa,hb,?_⟩;have:=(aE.1 (by simpa using h)).1;omega
 ·cases h
theorem P1 {α:Type} {A X:List α} {n k:Nat} (h:A.length=n): (A++X).take (n+k)=A++X.take k:=by subst h;exact List.take_length_add_append k
theorem EL {α:Type} {A X:List α} {n k:Nat} (h:A.length=n): (A++X).drop (n+k)=X.drop k:=by subst h;exact List.drop_length_add_append k
theorem Io {f t e tn sz:Nat} {i0:TypeInfo} {z:Value} (hw:Im P f t e tn sz i0 z) {rows:List (List T)} {row:List T} (hf:sH sz rows) (hf1:sH sz [row]) {i:Nat} (hi:i<=rows.length) (hb: (rows.length+1)*i0.bytes<=2 ^ 40) (hn:rows.length<2 ^ 40):
  oz P f [.own ⟨0,[]⟩ sz 0 rows.length, .sc (.int .i64 i), .ro sz [row]] [.sl sz rows] 0 (.own ⟨0,[]⟩ sz 0 (rows.length+1)) [.sl sz (rows.take i++row::rows.drop i)] :=by
 intro w W bt0 vals hI hl hv
 obtain⟨s,iv,vv,rfl⟩: ∃s iv vv,vals= [s,iv,vv] :=by
  match vals,hl with
  | [a,b,c],_=>exact⟨a,b,c,rfl⟩
 have v1:=hv 0 _ s rfl rfl;have v2:=hv 1 _ iv rfl rfl;have v3:=hv 2 _ vv rfl rfl;refine⟨hw.enter _ w,?_⟩;have old: (oC [T.sl sz rows]).look ⟨0,[]⟩= .sl sz rows:=rfl;have hfi:=hf.ins hf1 i;have hli: (rows.take i++row::rows.drop i).length=rows.length+1:=by simp; omega
 cases v2 with
 |sc _=>
 cases v3 with
 |ro h3=>
 cases h3 with
 |sl cs hcv hs3 hA hl3 hr3 ht3=>
 rename_i ad vc;cases v1 with
 |own hp hnc hk ha=>
 rename_i ab cap;have hrow:=hf1 row aG
 have newc: ∀ (j:Nat) (u:Value),(iV [row])[j]? =some u->w.cell? (ad.add j)=some u:=fun j u hj=>by
  have hj':j<row.length:=by have:=(ai.1 hj).1;rw[qO hf1] at this;rw[hrow.1];simpa using this
  have hx:=ah hj';have h1:=yP hf1 0 row j _ rfl hx;rw[cr,aU,hj] at h1;have h2:=hr3 0 row j _ rfl hx;have h4:=ht3 0 row j _ rfl hx;obtain⟨v,hv',_⟩:=hrow.2 _ (ao hx);rw[hv'] at h1 h4;cases h4 with
  |sc _=>rw[cr,aU] at h2;exact h2.trans (congrArg some (Option.some.inj h1).symm)
 have newl: (iV [row]).length=1*i0.size:=by rw[qO hf1,hw.hs]; rfl
 have newo: ∀u∈iV [row],u.oneCell'=true:=fun u hu=>Ef (Hr hf1 u hu);have pos:=hw.pos;have hnl:0< (iV [row]).length:=by rw[newl,hw.hs]; omega
 have blk:0<cap-> ∃cur e',ab=some ⟨bt0.β ⟨0,[]⟩,0,none⟩/\w.heap[bt0.β ⟨0,[]⟩]? =some (.cells cur e' (0,0))/\cap*sz<=cur.size/\(∀ (k:Nat) (u:Value),cur[k]? =some u->u.oneCell'=true)/\ ∀ (k:Nat) (u:Value),(iV rows)[k]? =some u->cur[k]? =some u:=fun h=>by obtain⟨_,cur,e',g1,g2,g3,g4⟩:=(hI.tr _ _ _ old).2 (by omega);refine⟨cur,e',by rw[ha h]; simp,g1,bF (bw _ (by omega)) g2,g3,PZ hf g4⟩
 have hvl:=qO hf;have hsplit:iV rows=iV (rows.take i)++iV (rows.drop i):=by rw[<-yO,cX]
 have hA1: (iV (rows.take i)).length=i*sz:=by rw[qO (sz:=sz) (fun r hr=>hf r (b8 hr)),bq,Nat.min_eq_left hi]
 have hB1: (iV (rows.drop i)).length=(rows.length-i)*sz:=by rw[qO (sz:=sz) (fun r hr=>hf r (bG hr)),bO]
 have hnews:iV (rows.take i++row::rows.drop i)=iV (rows.take i)++(iV [row] ++iV (rows.drop i)):=by rw[show row::rows.drop i= [row] ++rows.drop i from rfl,yO,yO]
 by_cases hin:i=rows.length
 ·
  subst hin
  have hn0:ab=none->rows.length=0:=fun h=>by
   rcases bn cap with h0|h0
   ·omega
   ·rw[ha h0] at h; cases h
  have olen: (iV rows).length=rows.length*i0.size:=by rw[hvl,hw.hs]
  obtain⟨v,w',b,cap',g1,g2⟩:=Aj (P:=P) (w:=w) (t:=t) (ty:=t) hw.ht hw.hi hw.hz hw.zs hw.z1 (by rw[hw.hs]; exact pos) (ab:=ab) (len:=rows.length) (cap:=cap) (m:=1) (x:= .slice (some ad) 1 vc) hnc olen newl
   (fun h=>by obtain⟨cur,e',k1,k2,k3,k4,k5⟩:=blk h;exact⟨_,cur,e',k1,k2,by rw[hw.hs]; exact k3,k4,k5⟩)
   (.inr ⟨ad,vc,rfl,newc⟩) newo (by omega) hb
  have gty: ∀ty,(Builtin.append_ #[t,t] ty #[.slice ab rows.length cap, .slice (some ad) 1 vc]).run P w= .ok v w':=fun ty=>g1;refine (hw.toEnd ab rows.length cap ad vc w w' v hnc hn0 (by omega) gty).mono fun e1 w1 h=> ?_;obtain⟨rfl,rfl⟩:=h;obtain⟨ad',hv',had'⟩:=g2.val;have hc':0<cap':=by have:=g2.le; omega
  obtain⟨q1,arr,e',q2,q3,q4,q5,q6⟩:=g2.root hc';rw[had' hc'] at hv'
  obtain⟨btn,r1,r2⟩:=Ik (w':=w1) hI hfi (b:=b) (cap:=cap') g2.os g2.tape g2.output g2.size
   (by
     rcases q1 with h| ⟨h,h',_⟩
     ·exact .inl h
     ·refine .inr ⟨by omega,?_⟩;rw[ha h] at h';exact (congrArg Addr.block (Option.some.inj h')).symm)
   (fun k hk'=>by
     rcases g2.block k hk' with h| ⟨h,h'⟩
     ·exact .inl h
     ·refine .inr (.inr ⟨by omega,?_⟩);rw[ha h] at h';exact (congrArg Addr.block (Option.some.inj h')).symm)
   q2 (by rw[<-hw.hs]; exact q3) q4 (by rw[hli]; exact g2.le)
   (fun k u hk=>by
     rw[hnews,be,List.drop_length] at hk;simp only[iV,bH] at hk;rcases cm k (iV rows).length with h|h
     ·rw[aH h] at hk;exact q5 k u hk
     ·rw[aN h] at hk;have:=q6 _ u (by simpa [iV] using hk)
      rwa [<-olen,show (iV rows).length+(k-(iV rows).length)=k by omega] at this)
  rw[hli] at r2;exact⟨v,btn,rfl,r1,aI _,fun p hp=>by omega,by rw[hv']; exact r2⟩
 ·
  have hlt:i<rows.length:=by omega
  have hcap:0<cap:=by omega
  obtain⟨cur,e',k1,k2,k3,k4,k5⟩:=blk hcap;rw[k1];obtain⟨C,hC⟩:=P0 (iV rows) cur.toList (fun k u hk=>by simpa using k5 k u hk);rw[hsplit,aR] at hC;have hbt:0<bt0.κ ⟨0,[]⟩:=by omega
  generalize hβ:bt0.β ⟨0,[]⟩=b at*;generalize hA0:iV (rows.take i)=A at*;generalize hB0:iV (rows.drop i)=B at*;generalize hN0:iV [row] =N at*;have hne:ad.block≠b:=fun h=>hI.atr _ _ _ old hbt (by rw[hβ,<-h]; exact hA)
  have hAone: ∀u∈A,u.oneCell'=true:=fun u hu=>by obtain⟨k,hk,e⟩:=aJ hu;exact k4 k u (by rw[<-bB,hC,aH hk,ah hk,e])
  have hBone: ∀u∈B,u.oneCell'=true:=fun u hu=>by obtain⟨k,hk,e⟩:=aJ hu;exact k4 (A.length+k) u (by rw[<-bB,hC,aN (by omega),show A.length+k-A.length=k by omega,aH hk,ah hk,e])
  have hBcell: ∀ (w1:World),w1.heap[b]? =some (.cells cur e' (0,0))-> ∀ (j:Nat) (v:Value),B[j]? =some v->w1.cell? ((⟨b,i*sz,none⟩:Addr).add j)=some v:=fun w1 h j v hj=>by have hj':=(ai.1 hj).1;rw[Go.Proofs.YtjnleglhcppgcaaGreat.En.add_lit,mz h,<-bB,hC,aN (by omega),show i*sz+j-A.length=j by omega,aH hj'];exact hj
  have hsz:=hw.hs;have hN1:N.length=sz:=by rw[newl,hsz]; omega
  have hadd1: (i+1)*sz=i*sz+sz:=by rw[bI]; omega
  have hnn:rows.length*sz=i*sz+(rows.length-i)*sz:=by rw[<-bI,show i+(rows.length-i)=rows.length by omega]
  have hcl:cur.size=cur.toList.length:=by simp
  obtain⟨u0,hu0⟩: ∃u0,N[0]? =some u0:=⟨_,ah (by omega)⟩
  have hblk:=Kk (a:=ad.add 0) (by unfold Addr.add; split<;>simp_all) (newc 0 u0 hu0);rw[pz] at hblk;by_cases hroom:rows.length+1<=cap
  ·have hr1: (rows.length+1)*sz<=cap*sz:=bw _ hroom;have hr2: (rows.length+1)*sz=rows.length*sz+sz:=by rw[bI]; omega
   have c1: ∀ty dc sc,(Builtin.copy_ #[t,t] ty #[.slice (some ⟨b,(i+1)*sz,none⟩) (rows.length-i) dc, .slice (some ⟨b,i*sz,none⟩) (rows.length+1-i) sc]).run P w.drew= .ok (goInt (Nat.min (rows.length+1-i) (rows.length-i))) _:=fun ty dc sc=>uN w.drew t t ty e b ((i+1)*sz) (rows.length-i) dc ⟨b,i*sz,none⟩ (rows.length+1-i) sc cur e' B hw.ht hw.hi k2 (by rw[hB1,hsz,show Nat.min (rows.length+1-i) (rows.length-i)=rows.length-i from Nat.min_eq_right (by omega)]) (hBcell w.drew k2) (by rw[hB1]; omega) hBone
   obtain⟨cur1,hc1⟩: ∃x:Array Value,x=(cur.toList.take ((i+1)*sz)++B++cur.toList.drop ((i+1)*sz+B.length)).toArray:=⟨_,rfl⟩
   rw[<-hc1] at c1
   have hc1':cur1.toList=A++((B++C).take sz++(B++cur.toList.drop ((i+1)*sz+B.length))):=by rw[hc1];simp only[aR];rw[hadd1];rw[show cur.toList.take (i*sz+sz)=A++(B++C).take sz from by rw[hC]; exact P1 hA1];simp only[aR]
   have hy: ((B++C).take sz).length=sz:=by
    have :cur.toList.length=A.length+(B++C).length:=by rw[hC,aQ]
    rw[bq];omega
   have g2:=setRow_heap w.drew b cur cur1 e' (0,0) k2
   have hcs1:cur1.size=cur.size:=by rw[hc1,c9];simp only[aQ,bq,bO,bZ];omega
   have c2: ∀ty dc,(Builtin.copy_ #[t,t] ty #[.slice (some ⟨b,i*sz,none⟩) (rows.length+1-i) dc, .slice (some ad) 1 vc]).run P (w.drew.setRow b cur1)= .ok (goInt (Nat.min 1 (rows.length+1-i))) _:=fun ty dc=>
    uN _ t t ty e b (i*sz) (rows.length+1-i) dc ad 1 vc cur1 e' N hw.ht hw.hi g2 (by rw[newl,show Nat.min 1 (rows.length+1-i)=1 from Nat.min_eq_left (by omega)])
     (fun j v hj=>by rw[wl (w:=w)]; exact newc j v hj; rw[pz]; exact setRow_other w.drew b _ _ hne) (by omega) newo
   obtain⟨cur2,hc2⟩: ∃x:Array Value,x=(cur1.toList.take (i*sz)++N++cur1.toList.drop (i*sz+N.length)).toArray:=⟨_,rfl⟩
   rw[<-hc2] at c2
   have hc2':cur2.toList=A++(N++B)++cur.toList.drop ((i+1)*sz+B.length):=by rw[hc2];simp only;rw[hc1',List.take_left' hA1,EL hA1,hN1,List.drop_left' hy];simp only[aR]
   refine (hw.shift b rows.length cap i ad vc w _ _ _ _ hlt hroom (by omega) hne hblk ⟨cur,e',k2⟩ c1 c2).mono fun e1 w1 h=> ?_;obtain⟨rfl,rfl⟩:=h;have g3:=setRow_heap (w.drew.setRow b cur1) b cur1 cur2 e' (0,0) g2
   obtain⟨btn,r1,r2⟩:=Ik (w':=(w.drew.setRow b cur1).setRow b cur2) hI hfi (b:=b) (cap:=cap) rfl rfl rfl (by simp[World.setRow])
    (.inr ⟨hbt,hβ.symm⟩)
    (fun k hk'=>by
      by_cases h:k=b
      ·exact .inr (.inl h)
      ·exact .inl ((setRow_other _ b k _ h).trans (setRow_other _ b k _ h)))
    g3 (by
     have :cur2.size=cur1.size:=by rw[hc2,c9];simp only[aQ,bq,bO,bZ];omega
     omega)
    (fun k u hk=>by
      rw[<-bB,hc2'] at hk;rcases bc.1 (ao hk) with h|h
      ·rcases bc.1 h with h|h
       ·exact hAone u h
       ·rcases bc.1 h with h|h
        ·exact newo u h
        ·exact hBone u h
      ·obtain⟨q,hq,hqu⟩:=aJ (bG h);exact k4 q u (by rw[<-bB,ah hq,hqu]))
    (by rw[hli]; exact hroom)
    (fun k u hk=>by rw[hnews] at hk;rw[<-bB,hc2',aH (ai.1 hk).1];exact hk)
   rw[hli] at r2;exact⟨_,btn,rfl,r1,aI _,fun p hp=>by omega,r2⟩
  ·obtain⟨k,hk0⟩: ∃k,k=rows.length+1-i:=⟨_,rfl⟩
   have hki:i+k=rows.length+1:=by omega
   have hkk: (rows.length:Int)+1-(i:Int)=((k:Nat):Int):=by omega
   have hpos:0<i0.size:=by omega
   have hold: (Builtin.firstCells i0.size i (.slice (some ⟨b,0,none⟩) i cap)).run P w.drew= .ok A.toArray w.drew:=
    run_firstCells_some (P:=P) w.drew i0.size i ⟨b,0,none⟩ i cap A (by rw[hA1,hsz]) (fun j v hj=>by have hj':=(ai.1 hj).1;rw[Go.Proofs.YtjnleglhcppgcaaGreat.En.add_lit,mz (w:=w.drew) k2,aU,<-bB,hC,aH hj'];exact hj)
   have hkb:k*i0.bytes<=(rows.length+1)*i0.bytes:=bw _ (by omega);have hrz: ∀ty,_:=fun ty=>Go.Lib.run_append_grow_zeros (P:=P) w t tn ty e i0 z .i64 .i64 hw.ht hw.htn hw.hi hw.hz (some ⟨b,0,none⟩) i cap A hold k (by omega) hpos (by omega) (by omega) (by omega) (growslice_fits (by omega) (by rw[hki]; omega));rw[hki] at hrz;have hG:=grownCap_ge w (rows.length+1) cap e;generalize grownCap w (rows.length+1) cap e=G at hrz hG;obtain⟨Z,hZ⟩: ∃Z:List Value,Z=(Builtin.zeroCells z.cells k++Builtin.zeroCells z.cells (G-(rows.length+1))).toList:=⟨_,rfl⟩
   obtain⟨row0,hr0⟩: ∃x:Array Value,x=A.toArray++Builtin.zeroCells z.cells k++Builtin.zeroCells z.cells (G-(rows.length+1)):=⟨_,rfl⟩
   rw[<-hr0] at hrz;have hr0':row0.toList=A++Z:=by rw[hr0,hZ]; simp
   have hZone: ∀u∈Z,u.oneCell'=true:=fun u hu=>by
    have gE: ∀n,∀u∈(Builtin.zeroCells z.cells n).toList,u.oneCell'=true:=fun n u hu=>by simp only[Builtin.zeroCells,Array.toList_map,aM] at hu;obtain⟨q,_,rfl⟩:=hu;have hlt:q % z.cells.size<z.cells.size:=dH _ (by rw[hw.zs]; exact hpos);rw[getElem!_pos z.cells _ hlt];exact hw.z1 _ (by simp)
    rw[hZ,Array.toList_append] at hu;rcases bc.1 hu with h|h
    ·exact gE _ u h
    ·exact gE _ u h
   have hZl:Z.length=k*sz+(G-(rows.length+1))*sz:=by rw[hZ];simp only[Array.toList_append,aQ,bZ,size_zeroCells,hw.zs,hsz]
   have hks:k*sz=sz+(rows.length-i)*sz:=by rw[show k=1+(rows.length-i) by omega,bI]; omega
   have hbw:b<w.heap.size:=(aE.1 k2).1;have haw:ad.block<w.heap.size:=hI.alt _ hA;have hs0:=heap_alloc_new w.drew (.cells row0 e);have o0: ∀q,q<w.heap.size->(w.drew.alloc (.cells row0 e)).heap[q]? =w.heap[q]? :=fun q hq=>heap_alloc_old w.drew _ q hq;generalize hW0:w.drew.alloc (.cells row0 e)=W0 at*;have hrow0:row0.size=row0.toList.length:=by simp
   have c1: ∀ty dc,(Builtin.copy_ #[t,t] ty #[.slice (some ⟨w.heap.size,i*sz,none⟩) (rows.length+1-i) dc, .slice (some ad) 1 vc]).run P W0= .ok (goInt (Nat.min 1 (rows.length+1-i))) _:=fun ty dc=>
    uN W0 t t ty e w.heap.size (i*sz) (rows.length+1-i) dc ad 1 vc row0 e N hw.ht hw.hi hs0 (by rw[newl,show Nat.min 1 (rows.length+1-i)=1 from Nat.min_eq_left (by omega)])
     (fun j v hj=>by rw[wl (w:=w)]; exact newc j v hj; rw[pz]; exact o0 _ haw) (by rw[hrow0,hr0',aQ]; omega) newo
   obtain⟨row1,hr1⟩: ∃x:Array Value,x=(row0.toList.take (i*sz)++N++row0.toList.drop (i*sz+N.length)).toArray:=⟨_,rfl⟩
   rw[<-hr1] at c1
   have hr1':row1.toList=(A++N)++Z.drop sz:=by rw[hr1];simp only;rw[hr0',List.take_left' hA1,hN1,EL hA1]
   have hs1:=setRow_heap W0 w.heap.size row0 row1 e (0,0) hs0;have hAN: (A++N).length=(i+1)*sz:=by rw[aQ,hA1,hN1,hadd1]
   have c2: ∀ty dc sc,(Builtin.copy_ #[t,t] ty #[.slice (some ⟨w.heap.size,(i+1)*sz,none⟩) (rows.length-i) dc, .slice (some ⟨b,i*sz,none⟩) (rows.length-i) sc]).run P (W0.setRow w.heap.size row1).drew= .ok (goInt (Nat.min (rows.length-i) (rows.length-i))) _:=fun ty dc sc=>
    uN (W0.setRow w.heap.size row1).drew t t ty e w.heap.size ((i+1)*sz) (rows.length-i) dc ⟨b,i*sz,none⟩ (rows.length-i) sc row1 e B hw.ht hw.hi hs1 (by rw[hB1,hsz,show Nat.min (rows.length-i) (rows.length-i)=rows.length-i from dS _])
     (hBcell _ (((setRow_other W0 w.heap.size b _ (by omega)).trans (o0 b hbw)).trans k2))
     (by
       have :row1.size=row1.toList.length:=by simp
       rw[this,hr1',aQ,hAN,bO];omega) hBone
   obtain⟨row2,hr2⟩: ∃x:Array Value,x=(row1.toList.take ((i+1)*sz)++B++row1.toList.drop ((i+1)*sz+B.length)).toArray:=⟨_,rfl⟩
   rw[<-hr2] at c2
   have hr2':row2.toList=A++(N++B)++(Z.drop sz).drop B.length:=by rw[hr2];simp only;rw[hr1',List.take_left' hAN,EL hAN];simp only[aR]
   refine (hw.grow b w.heap.size rows.length cap G i ad vc w W0 _ _ _ _ hlt hnc (by omega) hG (by omega) (by rw[hkk]; exact hrz) c1 c2).mono fun e1 w1 h=> ?_;obtain⟨rfl,rfl⟩:=h;have hs2:=setRow_heap (W0.setRow w.heap.size row1).drew w.heap.size row1 row2 e (0,0) hs1;have hsize:w.heap.size<=W0.heap.size:=by rw[<-hW0]; simp
   obtain⟨btn,r1,r2⟩:=Ik (w':=(W0.setRow w.heap.size row1).drew.setRow w.heap.size row2) hI hfi (b:=w.heap.size) (cap:=G) (by subst hW0; rfl) (by subst hW0; rfl) (by subst hW0; rfl) (by simpa [World.setRow] using hsize)
    (.inl rfl)
    (fun q hq=> .inl (((setRow_other _ w.heap.size q _ (by omega)).trans (setRow_other W0 w.heap.size q _ (by omega))).trans (o0 q hq)))
    hs2 (by
     have :row2.size=row2.toList.length:=by simp
     rw[this,hr2'];simp only[aQ,bO];have hg:G*sz=(G-(rows.length+1))*sz+(rows.length+1)*sz:=by rw[<-bI,show G-(rows.length+1)+(rows.length+1)=G by omega]
     have hg2: (rows.length+1)*sz=rows.length*sz+sz:=by rw[bI]; omega
     omega)
    (fun q u hq=>by
      rw[<-bB,hr2'] at hq;rcases bc.1 (ao hq) with h|h
      ·rcases bc.1 h with h|h
       ·exact hAone u h
       ·rcases bc.1 h with h|h
        ·exact newo u h
        ·exact hBone u h
      ·exact hZone u (bG (bG h)))
    (by rw[hli]; exact hG)
    (fun q u hq=>by rw[hnews] at hq;rw[<-bB,hr2',aH (ai.1 hq).1];exact hq)
   rw[hli] at r2;exact⟨_,btn,rfl,r1,aI _,fun p hp=>by omega,r2⟩
end
end
section
open Go
structure Op where
 client:Int
 seq:Int
 kind:Int
 object:Int
 old:Int
 value:Int
 deriving DecidableEq,Inhabited
structure Result where
 done:Bool
 value:Int
 deriving DecidableEq,Inhabited
structure ew where
 client:Int
 seq:Int
 result:Result
 deriving DecidableEq,Inhabited
structure eJ where
 objects:List Int
 sessions:List ew
 deriving DecidableEq,Inhabited
structure eu where
 epoch:Int
 op:Op
 deriving DecidableEq,Inhabited
structure EM where
 count:Int
 digest:Int
 machine:eJ
 deriving DecidableEq,Inhabited
structure ej where
 epoch:Int
 primary:Int
 replicas:List Int
 witnesses:List Int
 deriving DecidableEq,Inhabited
structure eN where
 rack:Int
 capacity:Int
 load:Int
 deriving DecidableEq,Inhabited
structure ev where
 configs:List ej
 activated:Int
 deriving DecidableEq,Inhabited
structure fW where
 epoch:Int
 holder:Int
 ends:Int
 deriving DecidableEq,Inhabited
structure eo where
 up:Bool
 intact:Bool
 version:Int
 epoch:Int
 config:ej
 first:Int
 log:List eu
 commit:Int
 learned:List eu
 deriving DecidableEq,Inhabited
structure eg where
 now:Int
 servers:List eo
 sides:List Int
 master:ev
 masterUp:Int
 lease:fW
 places:List eN
 deriving DecidableEq,Inhabited
structure tM where
 code:Int
 result:Result
 index:Int
 deriving DecidableEq,Inhabited
structure Wk where
 op:Op
 index:Int
 deriving DecidableEq,Inhabited
structure P2 where
 kind:Int
 server:Int
 other:Int
 n:Int
 op:Op
 deriving DecidableEq,Inhabited
structure Ud where
 start:Int
 event:Int
 read:Bool
 index:Int
 value:Int
 op:Op
 deriving DecidableEq,Inhabited
inductive Sn where
 |op|result|session|machine|entry|snapshot|config|place|masterLog|lease|server|cluster|reply|ack|event|mark
 deriving DecidableEq,Inhabited
abbrev Sn.D:Sn->Type
 | .op=>Op
 | .result=>Result
 | .session=>ew
 | .machine=>eJ
 | .entry=>eu
 | .snapshot=>EM
 | .config=>ej
 | .place=>eN
 | .masterLog=>ev
 | .lease=>fW
 | .server=>eo
 | .cluster=>eg
 | .reply=>tM
 | .ack=>Wk
 | .event=>P2
 | .mark=>Ud
inductive Ty where|i (k:IntKind)|b|s|st (n:Sn)|ls (t:Ty)
 deriving DecidableEq,Inhabited
abbrev Ty.D:Ty->Type
 | .i _=>Int| .b=>Bool| .s=>ByteArray| .st n=>n.D| .ls t=>List t.D
inductive C where|sc (v:Value)|ls (t:Ty) (l:List t.D)
 deriving Inhabited
def Sn.flat: (n:Sn)->n.D->List C
 | .op,x=> [.sc (.int .i64 x.client), .sc (.int .i64 x.seq), .sc (.int .i64 x.kind), .sc (.int .i64 x.object), .sc (.int .i64 x.old), .sc (.int .i64 x.value)]
 | .result,x=> [.sc (.bool x.done), .sc (.int .i64 x.value)]
 | .session,x=> [.sc (.int .i64 x.client), .sc (.int .i64 x.seq), .sc (.bool x.result.done), .sc (.int .i64 x.result.value)]
 | .machine,x=> [.ls (.i .i64) x.objects, .ls (.st .session) x.sessions]
 | .entry,x=> [.sc (.int .i64 x.epoch), .sc (.int .i64 x.op.client), .sc (.int .i64 x.op.seq), .sc (.int .i64 x.op.kind), .sc (.int .i64 x.op.object), .sc (.int .i64 x.op.old), .sc (.int .i64 x.op.value)]
 | .snapshot,x=> [.sc (.int .i64 x.count), .sc (.int .i64 x.digest), .ls (.i .i64) x.machine.objects, .ls (.st .session) x.machine.sessions]
 | .config,x=> [.sc (.int .i64 x.epoch), .sc (.int .i64 x.primary), .ls (.i .i64) x.replicas, .ls (.i .i64) x.witnesses]
 | .place,x=> [.sc (.int .i64 x.rack), .sc (.int .i64 x.capacity), .sc (.int .i64 x.load)]
 | .masterLog,x=> [.ls (.st .config) x.configs, .sc (.int .i64 x.activated)]
 | .lease,x=> [.sc (.int .i64 x.epoch), .sc (.int .i64 x.holder), .sc (.int .i64 x.ends)]
 | .server,x=> [.sc (.bool x.up), .sc (.bool x.intact), .sc (.int .i64 x.version), .sc (.int .i64 x.epoch), .sc (.int .i64 x.config.epoch), .sc (.int .i64 x.config.primary), .ls (.i .i64) x.config.replicas, .ls (.i .i64) x.config.witnesses, .sc (.int .i64 x.first), .ls (.st .entry) x.log, .sc (.int .i64 x.commit), .ls (.st .entry) x.learned]
 | .cluster,x=> [.sc (.int .i64 x.now), .ls (.st .server) x.servers, .ls (.i .i64) x.sides, .ls (.st .config) x.master.configs, .sc (.int .i64 x.master.activated), .sc (.int .i64 x.masterUp), .sc (.int .i64 x.lease.epoch), .sc (.int .i64 x.lease.holder), .sc (.int .i64 x.lease.ends), .ls (.st .place) x.places]
 | .reply,x=> [.sc (.int .i64 x.code), .sc (.bool x.result.done), .sc (.int .i64 x.result.value), .sc (.int .i64 x.index)]
 | .ack,x=> [.sc (.int .i64 x.op.client), .sc (.int .i64 x.op.seq), .sc (.int .i64 x.op.kind), .sc (.int .i64 x.op.object), .sc (.int .i64 x.op.old), .sc (.int .i64 x.op.value), .sc (.int .i64 x.index)]
 | .event,x=> [.sc (.int .i64 x.kind), .sc (.int .i64 x.server), .sc (.int .i64 x.other), .sc (.int .i64 x.n), .sc (.int .i64 x.op.client), .sc (.int .i64 x.op.seq), .sc (.int .i64 x.op.kind), .sc (.int .i64 x.op.object), .sc (.int .i64 x.op.old), .sc (.int .i64 x.op.value)]
 | .mark,x=> [.sc (.int .i64 x.start), .sc (.int .i64 x.event), .sc (.bool x.read), .sc (.int .i64 x.index), .sc (.int .i64 x.value), .sc (.int .i64 x.op.client), .sc (.int .i64 x.op.seq), .sc (.int .i64 x.op.kind), .sc (.int .i64 x.op.object), .sc (.int .i64 x.op.old), .sc (.int .i64 x.op.value)]
def Ty.flat: (t:Ty)->t.D->List C
 | .i k,n=> [.sc (.int k n)] | .b,v=> [.sc (.bool v)] | .s,v=> [.sc (.string v)] | .st n,x=>n.flat x| .ls t,l=> [.ls t l]
def Sn.width:Sn->Nat
 | .op=>6| .result=>2| .session=>4| .machine=>2| .entry=>7| .snapshot=>4| .config=>4| .place=>3| .masterLog=>2| .lease=>3| .server=>12| .cluster=>10| .reply=>4| .ack=>7| .event=>10| .mark=>11
def Ty.width:Ty->Nat| .st n=>n.width| _=>1
def Sn.csh:Sn->List (Option Ty)
 | .op=> [none,none,none,none,none,none]
 | .result=> [none,none]
 | .session=> [none,none,none,none]
 | .machine=> [some (.i .i64),some (.st .session)]
 | .entry=> [none,none,none,none,none,none,none]
 | .snapshot=> [none,none,some (.i .i64),some (.st .session)]
 | .config=> [none,none,some (.i .i64),some (.i .i64)]
 | .place=> [none,none,none]
 | .masterLog=> [some (.st .config),none]
 | .lease=> [none,none,none]
 | .server=> [none,none,none,none,none,none,some (.i .i64),some (.i .i64),none,some (.st .entry),none,some (.st .entry)]
 | .cluster=> [none,some (.st .server),some (.i .i64),some (.st .config),none,none,none,none,none,some (.st .place)]
 | .reply=> [none,none,none,none]
 | .ack=> [none,none,none,none,none,none,none]
 | .event=> [none,none,none,none,none,none,none,none,none,none]
 | .mark=> [none,none,none,none,none,none,none,none,none,none,none]
def Ty.csh:Ty->List (Option Ty)| .st n=>n.csh| .ls t=> [some t] | _=> [none]
def Sn.zvs:Sn->List Value
 | .op=> [.int .i64 0, .int .i64 0, .int .i64 0, .int .i64 0, .int .i64 0, .int .i64 0]
 | .result=> [.bool false, .int .i64 0]
 | .session=> [.int .i64 0, .int .i64 0, .bool false, .int .i64 0]
 | .machine=> [.slice none 0 0, .slice none 0 0]
 | .entry=> [.int .i64 0, .int .i64 0, .int .i64 0, .int .i64 0, .int .i64 0, .int .i64 0, .int .i64 0]
 | .snapshot=> [.int .i64 0, .int .i64 0, .slice none 0 0, .slice none 0 0]
 | .config=> [.int .i64 0, .int .i64 0, .slice none 0 0, .slice none 0 0]
 | .place=> [.int .i64 0, .int .i64 0, .int .i64 0]
 | .masterLog=> [.slice none 0 0, .int .i64 0]
 | .lease=> [.int .i64 0, .int .i64 0, .int .i64 0]
 | .server=> [.bool false, .bool false, .int .i64 0, .int .i64 0, .int .i64 0, .int .i64 0, .slice none 0 0, .slice none 0 0, .int .i64 0, .slice none 0 0, .int .i64 0, .slice none 0 0]
 | .cluster=> [.int .i64 0, .slice none 0 0, .slice none 0 0, .slice none 0 0, .int .i64 0, .int .i64 0, .int .i64 0, .int .i64 0, .int .i64 0, .slice none 0 0]
 | .reply=> [.int .i64 0, .bool false, .int .i64 0, .int .i64 0]
 | .ack=> [.int .i64 0, .int .i64 0, .int .i64 0, .int .i64 0, .int .i64 0, .int .i64 0, .int .i64 0]
 | .event=> [.int .i64 0, .int .i64 0, .int .i64 0, .int .i64 0, .int .i64 0, .int .i64 0, .int .i64 0, .int .i64 0, .int .i64 0, .int .i64 0]
 | .mark=> [.int .i64 0, .int .i64 0, .bool false, .int .i64 0, .int .i64 0, .int .i64 0, .int .i64 0, .int .i64 0, .int .i64 0, .int .i64 0, .int .i64 0]
def Ty.zvs:Ty->List Value| .i k=> [.int k 0] | .b=> [.bool false] | .s=> [.string ByteArray.empty] | .st n=>n.zvs| .ls _=> [.slice none 0 0]
def gI (k:IntKind) {α:Type} (cs:List C) (f:Int->List C->Option α):Option α:=match cs with | .sc (.int k' n)::r=>if k'=k then f n r else none| _=>none
def gB {α:Type} (cs:List C) (f:Bool->List C->Option α):Option α:=match cs with | .sc (.bool v)::r=>f v r| _=>none
def gS {α:Type} (cs:List C) (f:ByteArray->List C->Option α):Option α:=match cs with | .sc (.string v)::r=>f v r| _=>none
def gL (t:Ty) {α:Type} (cs:List C) (f:List t.D->List C->Option α):Option α:=match cs with | .ls t' l::r=>if h:t'=t then f (h ▸ l) r else none| _=>none
def gN {α:Type} (cs:List C) (x:α):Option α:=match cs with | [] =>some x| _=>none
def Sn.unflat: (n:Sn)->List C->Option n.D
 | .op,cs=>gI .i64 cs fun a0 r0=>gI .i64 r0 fun a1 r1=>gI .i64 r1 fun a2 r2=>gI .i64 r2 fun a3 r3=>gI .i64 r3 fun a4 r4=>gI .i64 r4 fun a5 r5=>gN r5 (⟨a0,a1,a2,a3,a4,a5⟩:Op)
 | .result,cs=>gB cs fun a0 r0=>gI .i64 r0 fun a1 r1=>gN r1 (⟨a0,a1⟩:Result)
 | .session,cs=>gI .i64 cs fun a0 r0=>gI .i64 r0 fun a1 r1=>gB r1 fun a2 r2=>gI .i64 r2 fun a3 r3=>gN r3 (⟨a0,a1,⟨a2,a3⟩⟩:ew)
 | .machine,cs=>gL (.i .i64) cs fun a0 r0=>gL (.st .session) r0 fun a1 r1=>gN r1 (⟨a0,a1⟩:eJ)
 | .entry,cs=>gI .i64 cs fun a0 r0=>gI .i64 r0 fun a1 r1=>gI .i64 r1 fun a2 r2=>gI .i64 r2 fun a3 r3=>gI .i64 r3 fun a4 r4=>gI .i64 r4 fun a5 r5=>gI .i64 r5 fun a6 r6=>gN r6 (⟨a0,⟨a1,a2,a3,a4,a5,a6⟩⟩:eu)
 | .snapshot,cs=>gI .i64 cs fun a0 r0=>gI .i64 r0 fun a1 r1=>gL (.i .i64) r1 fun a2 r2=>gL (.st .session) r2 fun a3 r3=>gN r3 (⟨a0,a1,⟨a2,a3⟩⟩:EM)
 | .config,cs=>gI .i64 cs fun a0 r0=>gI .i64 r0 fun a1 r1=>gL (.i .i64) r1 fun a2 r2=>gL (.i .i64) r2 fun a3 r3=>gN r3 (⟨a0,a1,a2,a3⟩:ej)
 | .place,cs=>gI .i64 cs fun a0 r0=>gI .i64 r0 fun a1 r1=>gI .i64 r1 fun a2 r2=>gN r2 (⟨a0,a1,a2⟩:eN)
 | .masterLog,cs=>gL (.st .config) cs fun a0 r0=>gI .i64 r0 fun a1 r1=>gN r1 (⟨a0,a1⟩:ev)
 | .lease,cs=>gI .i64 cs fun a0 r0=>gI .i64 r0 fun a1 r1=>gI .i64 r1 fun a2 r2=>gN r2 (⟨a0,a1,a2⟩:fW)
 | .server,cs=>gB cs fun a0 r0=>gB r0 fun a1 r1=>gI .i64 r1 fun a2 r2=>gI .i64 r2 fun a3 r3=>gI .i64 r3 fun a4 r4=>gI .i64 r4 fun a5 r5=>gL (.i .i64) r5 fun a6 r6=>gL (.i .i64) r6 fun a7 r7=>gI .i64 r7 fun a8 r8=>gL (.st .entry) r8 fun a9 r9=>gI .i64 r9 fun a10 r10=>gL (.st .entry) r10 fun a11 r11=>gN r11 (⟨a0,a1,a2,a3,⟨a4,a5,a6,a7⟩,a8,a9,a10,a11⟩:eo)
 | .cluster,cs=>gI .i64 cs fun a0 r0=>gL (.st .server) r0 fun a1 r1=>gL (.i .i64) r1 fun a2 r2=>gL (.st .config) r2 fun a3 r3=>gI .i64 r3 fun a4 r4=>gI .i64 r4 fun a5 r5=>gI .i64 r5 fun a6 r6=>gI .i64 r6 fun a7 r7=>gI .i64 r7 fun a8 r8=>gL (.st .place) r8 fun a9 r9=>gN r9 (⟨a0,a1,a2,⟨a3,a4⟩,a5,⟨a6,a7,a8⟩,a9⟩:eg)
 | .reply,cs=>gI .i64 cs fun a0 r0=>gB r0 fun a1 r1=>gI .i64 r1 fun a2 r2=>gI .i64 r2 fun a3 r3=>gN r3 (⟨a0,⟨a1,a2⟩,a3⟩:tM)
 | .ack,cs=>gI .i64 cs fun a0 r0=>gI .i64 r0 fun a1 r1=>gI .i64 r1 fun a2 r2=>gI .i64 r2 fun a3 r3=>gI .i64 r3 fun a4 r4=>gI .i64 r4 fun a5 r5=>gI .i64 r5 fun a6 r6=>gN r6 (⟨⟨a0,a1,a2,a3,a4,a5⟩,a6⟩:Wk)
 | .event,cs=>gI .i64 cs fun a0 r0=>gI .i64 r0 fun a1 r1=>gI .i64 r1 fun a2 r2=>gI .i64 r2 fun a3 r3=>gI .i64 r3 fun a4 r4=>gI .i64 r4 fun a5 r5=>gI .i64 r5 fun a6 r6=>gI .i64 r6 fun a7 r7=>gI .i64 r7 fun a8 r8=>gI .i64 r8 fun a9 r9=>gN r9 (⟨a0,a1,a2,a3,⟨a4,a5,a6,a7,a8,a9⟩⟩:P2)
 | .mark,cs=>gI .i64 cs fun a0 r0=>gI .i64 r0 fun a1 r1=>gB r1 fun a2 r2=>gI .i64 r2 fun a3 r3=>gI .i64 r3 fun a4 r4=>gI .i64 r4 fun a5 r5=>gI .i64 r5 fun a6 r6=>gI .i64 r6 fun a7 r7=>gI .i64 r7 fun a8 r8=>gI .i64 r8 fun a9 r9=>gI .i64 r9 fun a10 r10=>gN r10 (⟨a0,a1,a2,a3,a4,⟨a5,a6,a7,a8,a9,a10⟩⟩:Ud)
def Ty.unflat: (t:Ty)->List C->Option t.D
 | .i k,cs=>gI k cs fun n r=>gN r n| .b,cs=>gB cs fun n r=>gN r n| .s,cs=>gS cs fun n r=>gN r n| .st n,cs=>n.unflat cs| .ls t,cs=>gL t cs fun l r=>gN r l
def Vb (x:Op):List T:= [.sc (.int .i64 x.client), .sc (.int .i64 x.seq), .sc (.int .i64 x.kind), .sc (.int .i64 x.object), .sc (.int .i64 x.old), .sc (.int .i64 x.value)]
def OE (x:Result):List T:= [.sc (.bool x.done), .sc (.int .i64 x.value)]
def Au (x:ew):List T:= [.sc (.int .i64 x.client), .sc (.int .i64 x.seq), .sc (.bool x.result.done), .sc (.int .i64 x.result.value)]
def Mh (x:eJ):List T:= [.sl 1 (x.objects.map fun n=> [.sc (.int .i64 n)]), .sl 4 (x.sessions.map Au)]
def EN (x:eu):List T:= [.sc (.int .i64 x.epoch), .sc (.int .i64 x.op.client), .sc (.int .i64 x.op.seq), .sc (.int .i64 x.op.kind), .sc (.int .i64 x.op.object), .sc (.int .i64 x.op.old), .sc (.int .i64 x.op.value)]
def Kl (x:EM):List T:= [.sc (.int .i64 x.count), .sc (.int .i64 x.digest), .sl 1 (x.machine.objects.map fun n=> [.sc (.int .i64 n)]), .sl 4 (x.machine.sessions.map Au)]
def vF (x:ej):List T:= [.sc (.int .i64 x.epoch), .sc (.int .i64 x.primary), .sl 1 (x.replicas.map fun n=> [.sc (.int .i64 n)]), .sl 1 (x.witnesses.map fun n=> [.sc (.int .i64 n)])]
def Km (x:eN):List T:= [.sc (.int .i64 x.rack), .sc (.int .i64 x.capacity), .sc (.int .i64 x.load)]
def Ip (x:ev):List T:= [.sl 4 (x.configs.map vF), .sc (.int .i64 x.activated)]
def P3 (x:fW):List T:= [.sc (.int .i64 x.epoch), .sc (.int .i64 x.holder), .sc (.int .i64 x.ends)]
def Hs (x:eo):List T:= [.sc (.bool x.up), .sc (.bool x.intact), .sc (.int .i64 x.version), .sc (.int .i64 x.epoch), .sc (.int .i64 x.config.epoch), .sc (.int .i64 x.config.primary), .sl 1 (x.config.replicas.map fun n=> [.sc (.int .i64 n)]), .sl 1 (x.config.witnesses.map fun n=> [.sc (.int .i64 n)]), .sc (.int .i64 x.first), .sl 7 (x.log.map EN), .sc (.int .i64 x.commit), .sl 7 (x.learned.map EN)]
def Mi (x:eg):List T:= [.sc (.int .i64 x.now), .sl 12 (x.servers.map Hs), .sl 1 (x.sides.map fun n=> [.sc (.int .i64 n)]), .sl 4 (x.master.configs.map vF), .sc (.int .i64 x.master.activated), .sc (.int .i64 x.masterUp), .sc (.int .i64 x.lease.epoch), .sc (.int .i64 x.lease.holder), .sc (.int .i64 x.lease.ends), .sl 3 (x.places.map Km)]
def P4 (x:tM):List T:= [.sc (.int .i64 x.code), .sc (.bool x.result.done), .sc (.int .i64 x.result.value), .sc (.int .i64 x.index)]
def Ue (x:Wk):List T:= [.sc (.int .i64 x.op.client), .sc (.int .i64 x.op.seq), .sc (.int .i64 x.op.kind), .sc (.int .i64 x.op.object), .sc (.int .i64 x.op.old), .sc (.int .i64 x.op.value), .sc (.int .i64 x.index)]
def P5 (x:P2):List T:= [.sc (.int .i64 x.kind), .sc (.int .i64 x.server), .sc (.int .i64 x.other), .sc (.int .i64 x.n), .sc (.int .i64 x.op.client), .sc (.int .i64 x.op.seq), .sc (.int .i64 x.op.kind), .sc (.int .i64 x.op.object), .sc (.int .i64 x.op.old), .sc (.int .i64 x.op.value)]
def Sb (x:Ud):List T:= [.sc (.int .i64 x.start), .sc (.int .i64 x.event), .sc (.bool x.read), .sc (.int .i64 x.index), .sc (.int .i64 x.value), .sc (.int .i64 x.op.client), .sc (.int .i64 x.op.seq), .sc (.int .i64 x.op.kind), .sc (.int .i64 x.op.object), .sc (.int .i64 x.op.old), .sc (.int .i64 x.op.value)]
def Sn.row: (n:Sn)->n.D->List T
 | .op,x=>Vb x
 | .result,x=>OE x
 | .session,x=>Au x
 | .machine,x=>Mh x
 | .entry,x=>EN x
 | .snapshot,x=>Kl x
 | .config,x=>vF x
 | .place,x=>Km x
 | .masterLog,x=>Ip x
 | .lease,x=>P3 x
 | .server,x=>Hs x
 | .cluster,x=>Mi x
 | .reply,x=>P4 x
 | .ack,x=>Ue x
 | .event,x=>P5 x
 | .mark,x=>Sb x
def Ty.row: (t:Ty)->t.D->List T
 | .i k,n=> [.sc (.int k n)] | .b,v=> [.sc (.bool v)] | .s,v=> [.sc (.string v)] | .st n,x=>n.row x| .ls t,l=> [.sl t.width (l.map t.row)]
def C.tree:C->T| .sc v=> .sc v| .ls t l=> .sl t.width (l.map t.row)
def C.good:C->Bool| .sc v=>qI v| .ls _ _=>true
theorem Ty.row_flat (t:Ty) (x:t.D):t.row x=(t.flat x).map C.tree:=by
 cases t with
 |st n=>cases n<;>rfl
 | _=>rfl
theorem Ty.flat_good (t:Ty) (x:t.D): ∀c∈t.flat x,c.good=true:=by
 rw[<-ax];cases t with
 |st n=>cases n<;>rfl
 | _=>rfl
theorem Ty.flat_length (t:Ty) (x:t.D): (t.flat x).length=t.width:=by
 cases t with
 |st n=>cases n<;>rfl
 | _=>rfl
theorem Ty.row_length (t:Ty) (x:t.D): (t.row x).length=t.width:=by rw[t.row_flat,aD,t.flat_length]
theorem eE {k:IntKind} {α:Type} {cs:List C} {f:Int->List C->Option α} {y:α} (h:gI k cs f=some y): ∃n r,cs= .sc (.int k n)::r/\f n r=some y:=by
 unfold gI at h;split at h
 ·split at h
  ·rename_i hk; subst hk; exact⟨_,_,rfl,h⟩
  ·cases h
 ·cases h
theorem wv {α:Type} {cs:List C} {f:Bool->List C->Option α} {y:α} (h:gB cs f=some y): ∃n r,cs= .sc (.bool n)::r/\f n r=some y:=by
 unfold gB at h;split at h
 ·exact⟨_,_,rfl,h⟩
 ·cases h
theorem Sc {α:Type} {cs:List C} {f:ByteArray->List C->Option α} {y:α} (h:gS cs f=some y): ∃n r,cs= .sc (.string n)::r/\f n r=some y:=by
 unfold gS at h;split at h
 ·exact⟨_,_,rfl,h⟩
 ·cases h
theorem lK {t:Ty} {α:Type} {cs:List C} {f:List t.D->List C->Option α} {y:α} (h:gL t cs f=some y): ∃n r,cs= .ls t n::r/\f n r=some y:=by
 unfold gL at h;split at h
 ·split at h
  ·rename_i hk; subst hk; exact⟨_,_,rfl,h⟩
  ·cases h
 ·cases h
theorem jy {α:Type} {cs:List C} {x y:α} (h:gN cs x=some y):cs= [] /\x=y:=by
 unfold gN at h;split at h
 ·simp only[af] at h; exact⟨rfl,h⟩
 ·cases h
theorem Sn.unflat_some: ∀ (n:Sn) (cs:List C) (x:n.D),n.unflat cs=some x->n.flat x=cs
 | .op,cs,x,h=>by unfold Sn.unflat at h;obtain⟨a0,r0,h0,h⟩:=eE h;obtain⟨a1,r1,h1,h⟩:=eE h;obtain⟨a2,r2,h2,h⟩:=eE h;obtain⟨a3,r3,h3,h⟩:=eE h;obtain⟨a4,r4,h4,h⟩:=eE h;obtain⟨a5,r5,h5,h⟩:=eE h;obtain⟨e,h⟩:=jy h;subst h e h5 h4 h3 h2 h1 h0;rfl
 | .result,cs,x,h=>by unfold Sn.unflat at h;obtain⟨a0,r0,h0,h⟩:=wv h;obtain⟨a1,r1,h1,h⟩:=eE h;obtain⟨e,h⟩:=jy h;subst h e h1 h0;rfl
 | .session,cs,x,h=>by unfold Sn.unflat at h;obtain⟨a0,r0,h0,h⟩:=eE h;obtain⟨a1,r1,h1,h⟩:=eE h;obtain⟨a2,r2,h2,h⟩:=wv h;obtain⟨a3,r3,h3,h⟩:=eE h;obtain⟨e,h⟩:=jy h;subst h e h3 h2 h1 h0;rfl
 | .machine,cs,x,h=>by unfold Sn.unflat at h;obtain⟨a0,r0,h0,h⟩:=lK h;obtain⟨a1,r1,h1,h⟩:=lK h;obtain⟨e,h⟩:=jy h;subst h e h1 h0;rfl
 | .entry,cs,x,h=>by unfold Sn.unflat at h;obtain⟨a0,r0,h0,h⟩:=eE h;obtain⟨a1,r1,h1,h⟩:=eE h;obtain⟨a2,r2,h2,h⟩:=eE h;obtain⟨a3,r3,h3,h⟩:=eE h;obtain⟨a4,r4,h4,h⟩:=eE h;obtain⟨a5,r5,h5,h⟩:=eE h;obtain⟨a6,r6,h6,h⟩:=eE h;obtain⟨e,h⟩:=jy h;subst h e h6 h5 h4 h3 h2 h1 h0;rfl
 | .snapshot,cs,x,h=>by unfold Sn.unflat at h;obtain⟨a0,r0,h0,h⟩:=eE h;obtain⟨a1,r1,h1,h⟩:=eE h;obtain⟨a2,r2,h2,h⟩:=lK h;obtain⟨a3,r3,h3,h⟩:=lK h;obtain⟨e,h⟩:=jy h;subst h e h3 h2 h1 h0;rfl
 | .config,cs,x,h=>by unfold Sn.unflat at h;obtain⟨a0,r0,h0,h⟩:=eE h;obtain⟨a1,r1,h1,h⟩:=eE h;obtain⟨a2,r2,h2,h⟩:=lK h;obtain⟨a3,r3,h3,h⟩:=lK h;obtain⟨e,h⟩:=jy h;subst h e h3 h2 h1 h0;rfl
 | .place,cs,x,h=>by unfold Sn.unflat at h;obtain⟨a0,r0,h0,h⟩:=eE h;obtain⟨a1,r1,h1,h⟩:=eE h;obtain⟨a2,r2,h2,h⟩:=eE h;obtain⟨e,h⟩:=jy h;subst h e h2 h1 h0;rfl
 | .masterLog,cs,x,h=>by unfold Sn.unflat at h;obtain⟨a0,r0,h0,h⟩:=lK h;obtain⟨a1,r1,h1,h⟩:=eE h;obtain⟨e,h⟩:=jy h;subst h e h1 h0;rfl
 | .lease,cs,x,h=>by unfold Sn.unflat at h;obtain⟨a0,r0,h0,h⟩:=eE h;obtain⟨a1,r1,h1,h⟩:=eE h;obtain⟨a2,r2,h2,h⟩:=eE h;obtain⟨e,h⟩:=jy h;subst h e h2 h1 h0;rfl
 | .server,cs,x,h=>by unfold Sn.unflat at h;obtain⟨a0,r0,h0,h⟩:=wv h;obtain⟨a1,r1,h1,h⟩:=wv h;obtain⟨a2,r2,h2,h⟩:=eE h;obtain⟨a3,r3,h3,h⟩:=eE h;obtain⟨a4,r4,h4,h⟩:=eE h;obtain⟨a5,r5,h5,h⟩:=eE h;obtain⟨a6,r6,h6,h⟩:=lK h;obtain⟨a7,r7,h7,h⟩:=lK h;obtain⟨a8,r8,h8,h⟩:=eE h;obtain⟨a9,r9,h9,h⟩:=lK h;obtain⟨a10,r10,h10,h⟩:=eE h;obtain⟨a11,r11,h11,h⟩:=lK h;obtain⟨e,h⟩:=jy h;subst h e h11 h10 h9 h8 h7 h6 h5 h4 h3 h2 h1 h0;rfl
 | .cluster,cs,x,h=>by unfold Sn.unflat at h;obtain⟨a0,r0,h0,h⟩:=eE h;obtain⟨a1,r1,h1,h⟩:=lK h;obtain⟨a2,r2,h2,h⟩:=lK h;obtain⟨a3,r3,h3,h⟩:=lK h;obtain⟨a4,r4,h4,h⟩:=eE h;obtain⟨a5,r5,h5,h⟩:=eE h;obtain⟨a6,r6,h6,h⟩:=eE h;obtain⟨a7,r7,h7,h⟩:=eE h;obtain⟨a8,r8,h8,h⟩:=eE h;obtain⟨a9,r9,h9,h⟩:=lK h;obtain⟨e,h⟩:=jy h;subst h e h9 h8 h7 h6 h5 h4 h3 h2 h1 h0;rfl
 | .reply,cs,x,h=>by unfold Sn.unflat at h;obtain⟨a0,r0,h0,h⟩:=eE h;obtain⟨a1,r1,h1,h⟩:=wv h;obtain⟨a2,r2,h2,h⟩:=eE h;obtain⟨a3,r3,h3,h⟩:=eE h;obtain⟨e,h⟩:=jy h;subst h e h3 h2 h1 h0;rfl
 | .ack,cs,x,h=>by unfold Sn.unflat at h;obtain⟨a0,r0,h0,h⟩:=eE h;obtain⟨a1,r1,h1,h⟩:=eE h;obtain⟨a2,r2,h2,h⟩:=eE h;obtain⟨a3,r3,h3,h⟩:=eE h;obtain⟨a4,r4,h4,h⟩:=eE h;obtain⟨a5,r5,h5,h⟩:=eE h;obtain⟨a6,r6,h6,h⟩:=eE h;obtain⟨e,h⟩:=jy h;subst h e h6 h5 h4 h3 h2 h1 h0;rfl
 | .event,cs,x,h=>by unfold Sn.unflat at h;obtain⟨a0,r0,h0,h⟩:=eE h;obtain⟨a1,r1,h1,h⟩:=eE h;obtain⟨a2,r2,h2,h⟩:=eE h;obtain⟨a3,r3,h3,h⟩:=eE h;obtain⟨a4,r4,h4,h⟩:=eE h;obtain⟨a5,r5,h5,h⟩:=eE h;obtain⟨a6,r6,h6,h⟩:=eE h;obtain⟨a7,r7,h7,h⟩:=eE h;obtain⟨a8,r8,h8,h⟩:=eE h;obtain⟨a9,r9,h9,h⟩:=eE h;obtain⟨e,h⟩:=jy h;subst h e h9 h8 h7 h6 h5 h4 h3 h2 h1 h0;rfl
 | .mark,cs,x,h=>by unfold Sn.unflat at h;obtain⟨a0,r0,h0,h⟩:=eE h;obtain⟨a1,r1,h1,h⟩:=eE h;obtain⟨a2,r2,h2,h⟩:=wv h;obtain⟨a3,r3,h3,h⟩:=eE h;obtain⟨a4,r4,h4,h⟩:=eE h;obtain⟨a5,r5,h5,h⟩:=eE h;obtain⟨a6,r6,h6,h⟩:=eE h;obtain⟨a7,r7,h7,h⟩:=eE h;obtain⟨a8,r8,h8,h⟩:=eE h;obtain⟨a9,r9,h9,h⟩:=eE h;obtain⟨a10,r10,h10,h⟩:=eE h;obtain⟨e,h⟩:=jy h;subst h e h10 h9 h8 h7 h6 h5 h4 h3 h2 h1 h0;rfl
theorem Ty.unflat_some (t:Ty) (cs:List C) (x:t.D) (h:t.unflat cs=some x):t.flat x=cs:=by
 cases t with
 |i k=>obtain⟨n,r,h1,h⟩:=eE h; obtain⟨h2,h⟩:=jy h; subst h h2 h1; rfl
 |b=>obtain⟨n,r,h1,h⟩:=wv h; obtain⟨h2,h⟩:=jy h; subst h h2 h1; rfl
 |s=>obtain⟨n,r,h1,h⟩:=Sc h; obtain⟨h2,h⟩:=jy h; subst h h2 h1; rfl
 |st n=>exact n.unflat_some cs x h
 |ls t=>have h:gL t cs (fun l r=>gN r l)=some x:=h; obtain⟨n,r,h1,h⟩:=lK h; obtain⟨h2,h⟩:=jy h; subst h h2 h1; rfl
end
section
open Go
inductive Cl where
 |c (x:C)
 |em
 |own (p:fj) (sz lo len:Nat) (w:Bool)
 |pro (cs:List C)
 |ptrB (n j:Nat)
 |ptrT (p:fj) (sz i j:Nat)
 |dead
 deriving Inhabited
inductive V1 where
 |cl (x:Cl)
 |agg (cs:List Cl)
 |fn (f:FuncId) (cs:List Cl)
 deriving Inhabited
inductive V where
 |v (x:V1)
 |tup (l:List V1)
 deriving Inhabited
structure fr where
 t:Ty
 l:List t.D
 hole:Option (Nat×Nat)
structure TS where
 env:List (Nat×V)
 bx:List (List Cl)
 gh:List (Option fr)
 fz:Nat
 nt:Nat
structure TI where
 ty:Ty
 el:Nat
 fds:List (Nat×Nat×Bool)
 bytes:Nat
abbrev qG:=List (Nat×TI)
@[reducible] def V.c (x:C):V:= .v (.cl (.c x))
@[reducible] def V.sc (x:Value):V:= .v (.cl (.c (.sc x)))
@[reducible] def V.dead:V:= .v (.cl .dead)
def kj:List (Nat×V)->Nat->V
 | [],_=>V.dead
 | (t,v)::l,u=>bif Nat.beq t u then v else kj l u
def oA:qG->Nat->Option TI
 | [],_=>none
 | (t,v)::l,u=>bif Nat.beq t u then some v else oA l u
def qz {α:Type}:List α->Nat->Option α
 | [],_=>none
 |a::l,n=>bif Nat.beq n 0 then some a else qz l (n-1)
def cC (v:Value):Cl:=bif qI v then .c (.sc v) else match v with | .slice none 0 0=> .em| _=> .dead
def cV:Value->V
 | .agg cs=>bif cs.toList.all Value.oneCell' then .v (.agg (cs.toList.map cC)) else V.dead
 |v=> .v (.cl (cC v))
def TS.opd (S:TS):Operand->V
 | .tmp t=>kj S.env t
 | .const v=>cV v
 | .func f=>V.sc (.func (.func f) #[] #[])
 | .global _=>V.dead
def V1.cells:V1->List Cl
 | .cl x=> [x]
 | .agg cs=>cs
 | .fn _ _=> [.dead]
def C.flatB:C->Bool| .sc _=>true| _=>false
def Ty.flatB (t:Ty):Bool:=t.csh.all (·.isNone)
section
variable {ρ:Type}
def br {α:Type} (b:Bool) (x y:α):α:=cond b x y
def eh {α:Type} (c:Prop) [Decidable c] (x y:α):α:=if c then x else y
def Kn (S:TS) (x:Operand) (κ:Bool->TS->Option ρ):Option ρ:=match x with
 | .tmp t=>match kj S.env t with
   | .v (.cl (.c (.sc (.bool b))))=>br b (κ true { S with env:=(t,V.sc (.bool true))::S.env }) (κ false { S with env:=(t,V.sc (.bool false))::S.env })
   | _=>none
 | .const (.bool b)=>κ b S
 | _=>none
def Mj (v:V) (κ:Int->Option ρ):Option ρ:=match v with | .v (.cl (.c (.sc (.int _ n))))=>κ n| _=>none
def vG (S:TS) (p:fj) (κ: (t:Ty)->List t.D->Option ρ):Option ρ:=match qz S.gh p.r with
 |some (some tr)=>match tr.hole with
  |none=>match p.l with
   | [] =>κ tr.t tr.l
   | [(i,j)] =>(tr.l[i]?).bind fun x=>match qz (tr.t.flat x) j with
     |some (.ls t l)=>κ t l
     | _=>none
   | _=>none
  |some _=>none
 | _=>none
def C.ro:C->Cl:=Cl.c
def Ml (p:fj) (i j:Nat):C->Cl
 | .sc v=> .c (.sc v)
 | .ls t l=> .own ⟨p.r,p.l++ [(i,j)]⟩ t.width 0 l.length false
def B7 {α β:Type} (f:Nat->α->β):Nat->List α->List β
 | _,[] => []
 |n,a::l=>f n a::B7 f (n+1) l
def Mm (S:TS) (n:Nat) (v:Cl) (κ:List Cl->Option ρ):Option ρ:=match v with
 | .ptrB b j=>match qz S.bx b with
   |some cs=>bif Nat.ble (j+n) cs.length then κ ((cs.drop j).take n) else none
   |none=>none
 | .pro cells=>bif Nat.ble n cells.length then κ ((cells.take n).map Cl.c) else none
 | .ptrT p sz i j=>vG S p fun t l=>bif Nat.beq t.width sz&&Nat.ble (j+n) sz then (l[i]?).bind fun x=>κ (B7 (Ml p i) j (((t.flat x).drop j).take n)) else none
 | _=>none
def V9 (ag:Bool) (cs:List Cl) (κ:V->Option ρ):Option ρ:=bif ag then κ (.v (.agg cs)) else match cs with | [c] =>κ (.v (.cl c))| _=>none
def Ty.ag:Ty->Bool| .st _=>true| _=>false
def Ko (Θ:qG) (S:TS) (t:TypeId) (v:V) (κ:V->Option ρ):Option ρ:=match oA Θ t with
 |some ti=>match v with | .v (.cl a)=>Mm S ti.ty.width a fun cs=>V9 ti.ty.ag cs κ| _=>none
 |none=>none
def P6 (S:TS) (p:fj) (κ:Int->Option ρ):Option ρ:=match p.l with
 | [] =>(match qz S.gh p.r with |some (some tr)=>κ tr.l.length| _=>none)
 | _=>none
def Uf (n:Nat) (i:Int) (S:TS) (v:Cl) (κ:Cl->Option ρ):Option ρ:=match v with
 | .c (.ls t l)=>bif Nat.beq t.width n then eh (0<=i) ((l[i.toNat]?).bind fun x=>κ (.pro (t.flat x))) none else none
 | .own p sz _ _ true=>bif Nat.beq sz n then P6 S p fun m=>eh (0<=i/\i<m) (κ (.ptrT p sz i.toNat 0)) none else none
 | .own p sz lo len false=>bif Nat.beq sz n then eh (0<=i/\i<len) (κ (.ptrT p sz (lo+i.toNat) 0)) none else none
 | _=>none
def Sd (S:TS) (v:Cl) (κ:Int->Option ρ):Option ρ:=match v with
 | .c (.ls _ l)=>κ l.length
 | .own p _ _ _ true=>vG S p fun _ l=>κ l.length
 | .own _ _ _ len false=>κ len
 | .em=>κ 0
 | _=>none
def Ug (n:Nat) (lo hi:Int) (v:Cl) (κ:Cl->Option ρ):Option ρ:=match v with
 | .em=>eh (lo=0/\hi=0) (κ .em) none
 | .c (.ls t l)=>bif Nat.beq t.width n then eh (0<=lo/\lo<=hi/\hi<=l.length) (κ (.c (.ls t ((l.drop lo.toNat).take (hi.toNat-lo.toNat))))) none else none
 | .own p sz l len _=>bif Nat.beq sz n then eh (0<=lo/\lo<=hi/\hi<=len) (κ (.own p sz (l+lo.toNat) (hi.toNat-lo.toNat) false)) none else none
 | _=>none
def Iq (S:TS) (d:Int) (x:Option Operand) (κ:Int->Option ρ):Option ρ:=match x with
 |none=>κ d
 |some x=>Mj (S.opd x) κ
def OF:List (Nat×Nat×Bool)->List Cl->List (Nat×V)->Option (List Cl)
 | _,cs,[] =>some cs
 |pl,cs,(k,v)::r=>match qz pl k with
  |some (off,n,_)=>match v with
   | .v x=>match x with
     | .cl .dead=>none
     | .fn _ _=>none
     |x=>bif Nat.beq x.cells.length n&&Nat.ble (off+n) cs.length then OF pl (cs.take off++x.cells++cs.drop (off+n)) r else none
   | _=>none
  |none=>none
def Kp:Value->Value->Option Bool
 | .int _ a, .int _ b=>some (a==b)
 | .bool a, .bool b=>some (a==b)
 | _,_=>none
def yQ:List Cl->List Cl->Option Bool
 | [],[] =>some true
 | .c (.sc a)::l, .c (.sc b)::m=>match Kp a b,yQ l m with
   |some x,some y=>some (x&&y)
   | _,_=>none
 | _,_=>none
def nB:List Value->List Cl->Bool
 | [],[] =>true
 | .int k _::zs, .c (.sc (.int k' _))::cs=>bif decide (k=k') then nB zs cs else false
 | .bool _::zs, .c (.sc (.bool _))::cs=>nB zs cs
 | _,_=>false
def V.ints (f:IntKind->Int->Int->Option ρ):V->V->Option ρ
 | .v (.cl (.c (.sc (.int k a)))), .v (.cl (.c (.sc (.int k' b))))=>if k=k' then f k a b else none
 | _,_=>none
def WI (a b:ByteArray):Bool:=a.toList==b.toList
def U4 (Θ:qG) (t:TypeId) (x y:V) (κ:Bool->Option ρ):Option ρ:=match x,y with
 | .v (.cl (.c (.sc (.int k a)))), .v (.cl (.c (.sc (.int k' b))))=>if k=k' then κ (a==b) else none
 | .v (.cl (.c (.sc (.bool a)))), .v (.cl (.c (.sc (.bool b))))=>match oA Θ t with
   |some ti=>match ti.ty with | .b=>κ (a==b)| _=>none
   |none=>none
 | .v (.cl (.c (.sc (.string a)))), .v (.cl (.c (.sc (.string b))))=>κ (WI a b)
 | .v (.agg a), .v (.agg b)=>match oA Θ t with
   |some ti=>bif ti.ty.ag&&ti.ty.flatB&&nB ti.ty.zvs a&&nB ti.ty.zvs b then (match yQ a b with |some r=>κ r|none=>none) else none
   |none=>none
 | _,_=>none
def Uh (x y:V) (κ:V->Option ρ):Option ρ:=match x,y with
 | .v (.cl (.c (.sc (.string a)))), .v (.cl (.c (.sc (.string b))))=>eh (a.size+b.size<=2 ^ 40) (κ (V.sc (.string (a++b)))) none
 | _,_=>V.ints (fun k a b=>κ (V.sc (.int k (k.wrap (a+b))))) x y
def Ui (Θ:qG) (op:BinOp) (t:TypeId) (x y:V) (κ:V->Option ρ):Option ρ:=match op with
 | .lss=>V.ints (fun _ a b=>κ (V.sc (.bool (decide (a<b))))) x y
 | .leq=>V.ints (fun _ a b=>κ (V.sc (.bool (decide (a<=b))))) x y
 | .gtr=>V.ints (fun _ a b=>κ (V.sc (.bool (decide (a>b))))) x y
 | .geq=>V.ints (fun _ a b=>κ (V.sc (.bool (decide (a≥b))))) x y
 | .add=>Uh x y κ
 | .sub=>V.ints (fun k a b=>κ (V.sc (.int k (k.wrap (a-b))))) x y
 | .mul=>V.ints (fun k a b=>κ (V.sc (.int k (k.wrap (a*b))))) x y
 | .quo=>V.ints (fun k a b=>if b=0 then none else κ (V.sc (.int k (k.wrap (a.tdiv b))))) x y
 | .rem=>V.ints (fun k a b=>if b=0 then none else κ (V.sc (.int k (a.tmod b)))) x y
 | .eql=>U4 Θ t x y fun r=>κ (V.sc (.bool r))
 | .neq=>U4 Θ t x y fun r=>κ (V.sc (.bool (!r)))
 | _=>none
def Kq:List V->Option (List Cl)
 | [] =>some []
 | .v (.cl c)::l=>match Kq l with |some r=>some (c::r)|none=>none
 | _=>none
def B8 (Θ:qG) (S:TS) (o:Oper) (κ:V->TS->Option ρ):Option ρ:=
 let e:=S.opd
 match o.op with
 | .move x| .assign x=>κ (e x) S
 | .pick c a b=>Kn S c fun t S=>bif t then κ (S.opd a) S else κ (S.opd b) S
 | .load t a=>Ko Θ S t (e a) (fun v=>κ v S)
 | .nilCheck x=>match e x with
   | .v (.cl (.ptrB n j))=>κ (.v (.cl (.ptrB n j))) S
   | .v (.cl (.ptrT p sz i j))=>κ (.v (.cl (.ptrT p sz i j))) S
   | .v (.cl (.pro cs))=>κ (.v (.cl (.pro cs))) S
   | .v (.fn f cs)=>κ (.v (.fn f cs)) S
   | .v (.cl (.c (.sc (.func (.func f) a b))))=>κ (.v (.cl (.c (.sc (.func (.func f) a b))))) S
   | _=>none
 | .fieldAddr t x k=>match oA Θ t with
   |some ti=>match qz ti.fds k with
    |some (off,n,_)=>bif Nat.beq n 0 then none else match e x with
     | .v (.cl (.ptrB b j))=>κ (.v (.cl (.ptrB b (j+off)))) S
     | .v (.cl (.ptrT p sz i j))=>κ (.v (.cl (.ptrT p sz i (j+off)))) S
     | .v (.cl (.pro cs))=>κ (.v (.cl (.pro (cs.drop off)))) S
     | _=>none
    |none=>none
   |none=>none
 | .field t x k=>match oA Θ t with
   |some ti=>match qz ti.fds k with
    |some (off,n,ag)=>match e x with
     | .v (.agg cs)=>bif Nat.ble (off+n) cs.length&&Nat.blt 0 n then V9 ag ((cs.drop off).take n) (fun v=>κ v S) else none
     | _=>none
    |none=>none
   |none=>none
 | .indexAddr t x ix=>match oA Θ t with
   |some ti=>match ti.ty with
    | .ls el=>Mj (e ix) fun i=>match e x with | .v (.cl a)=>Uf el.width i S a (fun c=>κ (.v (.cl c)) S)| _=>none
    | _=>none
   |none=>none
 | .build t parts=>match oA Θ t with
   |some ti=>bif ti.ty.ag then (match OF ti.fds (ti.ty.zvs.map cC) (parts.toList.map fun x=>(x.1,e x.2)) with |some cs=>κ (.v (.agg cs)) S|none=>none) else none
   |none=>none
 | .slice t x lo hi none=>match oA Θ t with
   |some ti=>match ti.ty with
    | .ls el=>match e x with
      | .v (.cl a)=>Sd S a fun n=>Iq S 0 lo fun l=>Iq S n hi fun h=>Ug el.width l h a (fun c=>κ (.v (.cl c)) S)
      | _=>none
    | _=>none
   |none=>none
 | .convert s d x=>match oA Θ s,oA Θ d with
   |some _,some di=>match di.ty with
    | .i k'=>(match e x with | .v (.cl (.c (.sc (.int _ n))))=>κ (V.sc (.int k' (k'.wrap n))) S| _=>none)
    | _=>none
   | _,_=>none
 | .index t x ix=>match oA Θ t with
   |some ti=>match ti.ty with
    | .s=>(match e x,e ix with | .v (.cl (.c (.sc (.string s)))), .v (.cl (.c (.sc (.int _ i))))=>eh (0<=i) ((s[i.toNat]?).bind fun b=>κ (V.sc (.int .u8 b.toNat)) S) none| _,_=>none)
    | _=>none
   |none=>none
 | .extract x k=>match e x with | .tup vs=>(match qz vs k with |some v=>κ (.v v) S|none=>none)| _=>none
 | .makeFunc (.func f) first caps=>bif first.isEmpty then (match Kq (caps.toList.map e) with |some cs=>κ (.v (.fn f cs)) S|none=>none) else none
 | .call { callee:= .builtin .len,args:=as,argTypes:=ts } =>match as.toList,ts.toList with
   | [x],[t] =>match oA Θ t with
     |some ti=>match ti.ty with
      | .ls _=>(match e x with | .v (.cl a)=>Sd S a fun n=>κ (V.sc (.int .i64 n)) S| _=>none)
      | _=>none
     |none=>none
   | _,_=>none
 | .call { callee:= .builtin .cap,args:=as,argTypes:=ts } =>match as.toList,ts.toList with
   | [x],[t] =>match oA Θ t with
     |some ti=>match ti.ty with
      | .ls _=>(match e x with | .v (.cl .em)=>κ (V.sc (.int .i64 0)) S| _=>none)
      | _=>none
     |none=>none
   | _,_=>none
 | .call { callee:= .builtin .max,args:=as,argTypes:=_ } =>match as.toList with
   | [x,y] =>V.ints (fun k a b=>κ (V.sc (.int k (if b>a then b else a))) S) (e x) (e y)
   | _=>none
 | .call { callee:= .builtin .min,args:=as,argTypes:=_ } =>match as.toList with
   | [x,y] =>V.ints (fun k a b=>κ (V.sc (.int k (if b<a then b else a))) S) (e x) (e y)
   | _=>none
 | .binOp op t x y _=>Ui Θ op t (e x) (e y) (fun v=>κ v S)
 | .unOp .not _ x=>match e x with | .v (.cl (.c (.sc (.bool b))))=>κ (V.sc (.bool (!b))) S| _=>none
 | _=>none
end
end
section
open Go
def C.av:C->AV
 | .sc v=> .sc v
 | .ls t l=> .ro t.width (l.map t.row)
def Cl.av:Cl->AV
 | .c x=>x.av
 | .em=> .em
 | .own p sz lo len _=> .own p sz lo len
 | .pro cs=> .pro (cs.map C.tree)
 | .ptrB n j=> .ptrB n j
 | .ptrT p sz i j=> .ptrT p sz i j
 | .dead=> .dead
def V1.av:V1->AV
 | .cl x=>x.av
 | .agg cs=> .agg (cs.map Cl.av)
 | .fn f cs=> .fn f (cs.map Cl.av)
def V.av:V->AV
 | .v x=>x.av
 | .tup l=> .tup (l.map V1.av)
def fr.tree (x:fr):T:=match x.hole with
 |none=> .sl x.t.width (x.l.map x.t.row)
 |some (i,j)=> .sl x.t.width ((x.l.map x.t.row).set i (((x.l.map x.t.row).getD i []).set j .dd))
def gx (G:List (Option fr)) (r:Nat):Option fr:=(qz G r).getD none
def TS.st (S:TS):St where
 env:=fun t=>(kj S.env t).av
 bx:=fun n=>(qz S.bx n).map fun cs=>cs.map Cl.av
 gh:=fun r=>(gx S.gh r).map fr.tree
 nb:=S.bx.length
 ng:=S.gh.length
 fz:=S.fz
 orc:=none
 nt:=S.nt
structure BQ where
 f:FuncId->List V1->(ρ:Type)->(V->List fr->Option ρ)->Option ρ
 kd:FuncId->Nat
instance:CoeFun BQ fun _=>FuncId->List V1->(ρ:Type)->(V->List fr->Option ρ)->Option ρ:=⟨BQ.f⟩
def kB:Nat:=1048576
def Ht:Nat:=kB+kB
def EO (g:Nat):Nat:=g+kB
def Ir (g:Nat):Nat:=g+Ht
def It (n:Nat):Cl->Cl
 | .own p sz lo len w=> .own ⟨p.r+n,p.l⟩ sz lo len w
 | .c (.sc v)=> .c (.sc v)
 | _=> .dead
def yR (n:Nat):V1->V1
 | .agg cs=> .agg (cs.map (It n))
 | .cl c=> .cl (It n c)
 | .fn _ _=> .cl .dead
def ww (n:Nat):V->V
 | .tup vs=> .tup (vs.map (yR n))
 | .v x=> .v (yR n x)
def gq {α:Type}:List α->Nat->α->List α
 | [],_,_=> []
 |a::l,n,x=>bif Nat.beq n 0 then x::l else a::gq l (n-1) x
def xG (t t':Ty) (l:List t.D):Option (List t'.D):=if h:t=t' then some (h ▸ l) else none
def sI (r j:Nat):Cl->Cl
 | .own p sz lo len w=>match p.l with | (_,j')::_=>bif Nat.beq p.r r&&Nat.beq j j' then .dead else .own p sz lo len w| [] => .own p sz lo len w
 | .ptrT p sz a b=>match p.l with | (_,j')::_=>bif Nat.beq p.r r&&Nat.beq j j' then .dead else .ptrT p sz a b| [] => .ptrT p sz a b
 |c=>c
def vf (r j:Nat):V1->V1
 | .cl c=> .cl (sI r j c)
 | .agg cs=> .agg (cs.map (sI r j))
 | .fn f cs=> .fn f (cs.map (sI r j))
def Hu (r j:Nat):V->V
 | .v x=> .v (vf r j x)
 | .tup vs=> .tup (vs.map (vf r j))
def TS.kill (S:TS) (r j:Nat):TS:= { S with env:=S.env.map fun x=>(x.1,Hu r j x.2),bx:=S.bx.map fun cs=>cs.map (sI r j) }
def kC (S:TS) (no j:Nat) (et:Option Ty) (c:Cl):Option (C×TS):=match c,et with
 | .c (.sc v),none=>some (.sc v,S)
 | .em,some t=>some (.ls t [],S.kill no j)
 | .own p sz _ _ true,some t=>match p.l with
   | [] =>bif Nat.beq t.width sz&&Nat.ble S.fz p.r&& !(Nat.beq p.r no) then match qz S.gh p.r with
     |some (some tr)=>match tr.hole with
      |none=>bif Nat.beq tr.t.width sz then some (.ls tr.t tr.l,{ S with gh:=gq S.gh p.r none }.kill no j) else none
      |some _=>none
     | _=>none else none
   | _=>none
 | _,_=>none
def sJ (no:Nat):Nat->TS->List (Option Ty)->List Cl->Option (List C×TS)
 |j,S,et::ets,c::cs=>match kC S no j et c with
  |some (x,S1)=>match sJ no (j+1) S1 ets cs with
   |some (xs,S2)=>some (x::xs,S2)
   |none=>none
  |none=>none
 | _,S,[],[] =>some ([],S)
 | _,_,_,_=>none
def WJ (et:Option Ty) (v:Value):C:=match et with |some t=> .ls t [] |none=> .sc v
def Ty.zcs (t:Ty):List C:=List.zipWith WJ t.csh t.zvs
def Uj:List Cl->Option (List C)
 | [] =>some []
 | .c (.sc v)::l=>match Uj l with |some r=>some (.sc v::r)|none=>none
 | _=>none
section
variable {ρ:Type}
def EP {α β:Type} (f:α->(β->Option ρ)->Option ρ):List α->(List β->Option ρ)->Option ρ
 | [],κ=>κ []
 |a::l,κ=>f a fun b=>EP f l fun bs=>κ (b::bs)
def Mn (Θ:qG) (S:TS) (t:TypeId) (a v:V) (κ:TS->Option ρ):Option ρ:=match oA Θ t with
 |none=>none
 |some ti=>match v with
  | .tup _=>none
  | .v (.cl .dead)=>none
  | .v (.fn _ _)=>none
  | .v x=>bif Nat.beq x.cells.length ti.ty.width then match a with
    | .v (.cl (.ptrB b j))=>match qz S.bx b with
      |some cs=>bif Nat.ble (j+x.cells.length) cs.length then κ { S with bx:=gq S.bx b (cs.take j++x.cells++cs.drop (j+x.cells.length)) } else none
      |none=>none
    | .v (.cl (.ptrT p sz i j))=>match p.l with
      | [] =>match qz S.gh p.r with
        |some (some tr)=>bif Nat.beq tr.t.width sz&&Nat.ble (j+ti.ty.width) sz&&Nat.beq x.cells.length ti.ty.width then
         bif ti.ty.flatB then
          match tr.hole,Uj x.cells with
          |none,some vs=>(tr.l[i]?).bind fun y=>match tr.t.unflat ((tr.t.flat y).take j++vs++(tr.t.flat y).drop (j+ti.ty.width)) with
           |some z=>κ { S with gh:=gq S.gh p.r (some ⟨tr.t,tr.l.set i z,none⟩) }
           |none=>none
          | _,_=>none
         else bif Nat.ble S.fz p.r then match sJ p.r j S ti.ty.csh x.cells with
          |some (vs,S1)=>(tr.l[i]?).bind fun y=>match tr.t.unflat ((tr.t.flat y).take j++vs++(tr.t.flat y).drop (j+ti.ty.width)) with
           |some z=>match tr.hole with
            |none=>κ { S1 with gh:=gq S1.gh p.r (some ⟨tr.t,tr.l.set i z,none⟩) }
            |some (i0,j0)=>bif Nat.beq j j0&&Nat.beq ti.ty.width 1 then eh (i=i0) (κ { S1 with gh:=gq S1.gh p.r (some ⟨tr.t,tr.l.set i z,none⟩) }) none else none
           |none=>none
          |none=>none else none
         else none
        | _=>none
      | _=>none
    | _=>none
    else none
def OG (S:TS) (et:Option Ty) (c:Cl) (κ:Cl->Option ρ):Option ρ:=match c with
 | .c x=>κ (.c x)
 | .em=>match et with |some t=>κ (.c (.ls t []))|none=>none
 | .own p sz _ _ true=>vG S p fun t l=>bif Nat.beq t.width sz then κ (.c (.ls t l)) else none
 | .own p sz lo len false=>vG S p fun t l=>bif Nat.beq t.width sz then eh (lo+len<=l.length) (κ (.c (.ls t ((l.drop lo).take len)))) none else none
 | .pro cs=>κ (.pro cs)
 | .ptrT p sz i j=>vG S p fun t l=>bif Nat.beq t.width sz then (l[i]?).bind fun x=>κ (.pro ((t.flat x).drop j)) else none
 | .ptrB b j=>match qz S.bx b with
   |some cs=>EP (fun c κ=>match c with
    | .c x=>κ x
    | .own p sz _ _ true=>vG S p fun t l=>bif Nat.beq t.width sz then κ (.ls t l) else none
    | _=>none) (cs.drop j) fun cs=>κ (.pro cs)
   |none=>none
 | .dead=>κ .dead
def Se (S:TS):List (Option Ty)->List Cl->(List Cl->Option ρ)->Option ρ
 |et::ets,c::cs,κ=>OG S et c fun c'=>Se S ets cs fun cs'=>κ (c'::cs')
 | [],[],κ=>κ []
 | _,_,_=>none
def Wl (Θ:qG) (S:TS) (t:TypeId) (v:V) (κ:V1->Option ρ):Option ρ:=match v with
 | .tup _=>none
 | .v (.fn f cs)=>EP (OG S none) cs fun cs'=>κ (.fn f cs')
 | .v (.agg cs)=>match oA Θ t with |some ti=>Se S ti.ty.csh cs fun cs'=>κ (.agg cs')|none=>none
 | .v (.cl .em)=>κ (.cl .em)
 | .v (.cl c)=>match oA Θ t with |some ti=>OG S (ti.ty.csh.headD none) c fun c'=>κ (.cl c')|none=>OG S none c fun c'=>κ (.cl c')
def vH (Θ:qG) (S:TS):List TypeId->List Operand->(List V1->Option ρ)->Option ρ
 |t::ts,a::as,κ=>Wl Θ S t (S.opd a) fun v=>vH Θ S ts as fun vs=>κ (v::vs)
 | [],[],κ=>κ []
 | _,_,_=>none
def Nx (Θ:qG) (Y:BQ) (S:TS) (f:Operand) (ts:List TypeId) (as:List Operand) (κ:V->TS->Option ρ):Option ρ:=match S.opd f with
 | .v (.cl (.c (.sc (.func (.func g) _ _))))=>bif Nat.blt g kB then vH Θ S ts as fun vs=>Y g vs ρ fun res out=>κ (ww S.gh.length res) { S with gh:=S.gh++out.map some } else none
 | .v (.fn g caps)=>bif Nat.blt g kB then vH Θ S ts as fun vs=>EP (OG S none) caps fun cs=>Y g (vs++cs.map .cl) ρ fun res out=>κ (ww S.gh.length res) { S with gh:=S.gh++out.map some } else none
 | _=>none
def P7 (S:TS) (el:Ty) (v:Cl) (κ:List el.D->TS->Option ρ):Option ρ:=match v with
 | .em=>κ [] S
 | .c (.ls t l)=>bif el.flatB then match xG t el l with |some l=>κ l S|none=>none else none
 | .own p sz lo len w=>bif Nat.beq el.width sz then (bif el.flatB then vG S p fun t l=>match xG t el l with
   |some l=>bif w then κ l S else eh (lo+len<=l.length) (κ ((l.drop lo).take len) S) none
   |none=>none
   else match p.l with
   | [] =>bif w&&Nat.ble S.fz p.r then vG S p fun t l=>match xG t el l with |some l=>κ l { S with gh:=gq S.gh p.r none } |none=>none else none
   | _=>none) else none
 | _=>none
def Kr (S:TS) (el:Ty) (v:Cl) (more:List el.D) (κ:List el.D->TS->Option ρ):Option ρ:=match v with
 | .em=>κ more S
 | .own p sz lo len w=>bif Nat.ble S.fz p.r&&Nat.beq el.width sz then match p.l with
   | [] =>vG S p fun t l=>match xG t el l with
     |some l=>bif w then κ (l++more) { S with gh:=gq S.gh p.r none }
      else eh (lo=0) (eh (l.length<len) none (κ (l.take len++more) { S with gh:=gq S.gh p.r none })) none
     |none=>none
   | [(i,j)] =>match qz S.gh p.r with
     |some (some tr)=>match tr.hole with
      |none=>vG S p fun t l=>match xG t el l with
       |some l=>eh (lo=0) (eh (l.length<len) none (κ (l.take len++more) { S with gh:=gq S.gh p.r (some ⟨tr.t,tr.l,some (i,j)⟩) })) none
       |none=>none
      |some _=>none
     | _=>none
   | _=>none else none
 | _=>none
def Sf (Θ:qG) (S:TS) (t:TypeId) (s x:V) (κ:V->TS->Option ρ):Option ρ:=match oA Θ t with
 |some ti=>match ti.ty,s,x with
  | .ls el, .v (.cl s), .v (.cl x)=>P7 S el x fun more S1=>Kr S1 el s more fun l S2=>eh (l.length*ti.el<=2 ^ 40) (κ (.v (.cl (.own ⟨S2.gh.length,[]⟩ el.width 0 l.length true))) { S2 with gh:=S2.gh++ [some ⟨el,l,none⟩] }) none
  | _,_,_=>none
 |none=>none
def Vc:List Nat->List Nat->Bool
 | [],[] =>true
 |a::l,b::m=>bif Nat.beq a b then Vc l m else false
 | _,_=>false
def vg (el:Ty):TS->List V->Option (List el.D×TS)
 |S,[] =>some ([],S)
 |S, .v x::r=>match sJ S.gh.length 0 S el.csh x.cells with
  |some (vs,S1)=>match el.unflat vs,vg el S1 r with
   |some y,some (ys,S2)=>some (y::ys,S2)
   | _,_=>none
  |none=>none
 | _,_=>none
def Mo:Cl->Bool| .c (.ls _ _)=>true| _=>false
def ES:V->Bool| .v x=>x.cells.any Mo| _=>false
def oG:List (Option Ty)->List Cl->Option (List C)
 | _::ets, .c x::cs=>(match oG ets cs with |some r=>some (x::r)|none=>none)
 |some t::ets, .em::cs=>(match oG ets cs with |some r=>some (.ls t []::r)|none=>none)
 | [],[] =>some []
 | _,_=>none
def vI (el:Ty):List V->Option (List el.D)
 | [] =>some []
 | .v x::r=>(match oG el.csh x.cells with
   |some xs=>(match el.unflat xs,vI el r with |some y,some ys=>some (y::ys)| _,_=>none)
   |none=>none)
 | _=>none
def TO (Θ:qG) (S:TS) (t:TypeId) (s x:V) (κ:V->TS->Option ρ):Option ρ:=match oA Θ t with
 |some ti=>match ti.ty,s with
  | .ls el, .v (.cl .em)=>Mj x fun n=>match el.unflat el.zcs with
    |some z=>eh (0<n/\n*ti.el<=2 ^ 40) (κ (.v (.cl (.own ⟨S.gh.length,[]⟩ el.width 0 n.toNat true))) { S with gh:=S.gh++ [some ⟨el,List.replicate n.toNat z,none⟩] }) none
    |none=>none
  | _,_=>none
 |none=>none
def zD (Θ:qG) (Y:BQ) (S:TS) (o:Oper) (κ:V->TS->Option ρ):Option ρ:=
 let e:=S.opd
 match o.op with
 | .alloc t=>match oA Θ t with |some ti=>κ (.v (.cl (.ptrB S.bx.length 0))) { S with bx:=S.bx++ [ti.ty.zvs.map cC] } |none=>none
 | .box _ x=>match e x with
   | .v (.cl .dead)=>none
   | .v (.cl c)=>κ (.v (.cl (.ptrB S.bx.length 0))) { S with bx:=S.bx++ [[c]] }
   | .v (.agg cs)=>κ (.v (.cl (.ptrB S.bx.length 0))) { S with bx:=S.bx++ [cs] }
   | _=>none
 | .store t a x=>Mn Θ S t (e a) (e x) fun S'=>κ V.dead S'
 | .makeSlice t l c=>match oA Θ t with
   |some ti=>match ti.ty with
    | .ls el=>Mj (e l) fun n=>Mj (e c) fun m=>match el.unflat el.zcs with
      |some z=>eh (0<=n/\n=m/\n*ti.el<=2 ^ 40) (κ (.v (.cl (.own ⟨S.gh.length,[]⟩ el.width 0 n.toNat true))) { S with gh:=S.gh++ [some ⟨el,List.replicate n.toNat z,none⟩] }) none
      |none=>none
    | _=>none
   |none=>none
 | .buildSlice t len parts=>match oA Θ t with
   |some ti=>match ti.ty with
    | .ls el=>bif Nat.ble (len*el.width) 1048576&&Vc (parts.toList.map (·.1)) (List.range len) then (bif (parts.toList.map fun x=>e x.2).any ES then (match vI el (parts.toList.map fun x=>e x.2) with |some l=>κ (.v (.cl (.c (.ls el l)))) S|none=>none) else match vg el S (parts.toList.map fun x=>e x.2) with
      |some (l,S1)=>κ (.v (.cl (.own ⟨S1.gh.length,[]⟩ el.width 0 l.length true))) { S1 with gh:=S1.gh++ [some ⟨el,l,none⟩] }
      |none=>none) else none
    | _=>none
   |none=>none
 | .call { callee:= .builtin .append,args:=as,argTypes:=ts } =>match as.toList,ts.toList with
   | [s,x],[t,t'] =>bif Nat.beq t t' then Sf Θ S t (e s) (e x) κ else TO Θ S t (e s) (e x) κ
   | _,_=>none
 | .call { callee:= .value f,args:=as,argTypes:=ts } =>Nx Θ Y S f ts.toList as.toList κ
 | _=>B8 Θ S o κ
def uH (S:TS) (d:Option Tmp) (v:V) (κ:TS->Option ρ):Option ρ:=match d with
 |some t=>bif Nat.blt t S.nt then κ { S with env:=(t,v)::S.env } else none
 |none=>κ S
def Ny (S:TS) (all:List Oper) (o:Oper) (κ:Bool->TS->Option ρ):Option ρ:=match o.guard with
 |none=>κ true S
 |some (j,want)=>match qz all j with
  |some oj=>match oj.dst with
   |some d=>match kj S.env d with
    | .tup [] =>κ false S
    | _=>Kn S (.tmp d) fun b S1=>κ (b==want) S1
   |none=>none
  |none=>none
noncomputable def Sg {α:Type} (x y:α) (z:α):α:=open Classical in if x=y then x else z
def Uk {α β:Type} (l:List α) (x y:β):β:=match l with | [] =>x| _::_=>y
def D0 (o:Oper):Option (TypeId×Operand):=match o.op with
 | .binOp .eql t x (.const (.slice none 0 0)) _=>(match o.guard with |none=>some (t,x)|some _=>none)
 | _=>none
def Vd (Θ:qG) (t:TypeId):Bool:=match oA Θ t with |some ti=>(match ti.ty with | .ls _=>true| _=>false)|none=>false
def Ks (Y:BQ) (S:TS) (o:Oper):Option (Nat×FuncId×List Cl×Nat×Nat×List TypeId×List Operand):=match o.op with
 | .call { callee:= .value f,args:=as,argTypes:=ts } =>(match o.guard with
   |some _=>none
   |none=>match as.toList,ts.toList with
    |x::xs,_::us=>(match S.opd x with
     | .v (.cl (.own ⟨r,[]⟩ sz _ _ true))=>(match S.opd f with
       | .v (.cl (.c (.sc (.func (.func g) _ _))))=>bif Nat.blt g kB&& !Nat.beq (Y.kd g) 0 then some (Y.kd g,g,[],r,sz,us,xs) else none
       | .v (.fn g caps)=>bif Nat.blt g kB&& !Nat.beq (Y.kd g) 0 then some (Y.kd g,g,caps,r,sz,us,xs) else none
       | _=>none)
     | _=>none)
    | _,_=>none)
 | _=>none
def Mp:V->Bool
 | .v (.cl (.c (.sc _)))=>true
 | .tup [] =>true
 | _=>false
def P8 (Θ:qG) (Y:BQ) (S:TS) (k:Nat) (g:FuncId) (caps:List Cl) (r sz:Nat) (us:List TypeId) (xs:List Operand) (dst:Option Tmp) (κ:TS->Option ρ):Option ρ:=match gx S.gh r with
 |some ⟨el,l,none⟩=>bif Nat.beq sz el.width then vH Θ { S with gh:=gq S.gh r none } us xs fun vs=>EP (OG { S with gh:=gq S.gh r none } none) caps fun cs=>
  bif Nat.beq k 1 then Y (EO g) (.cl (.c (.ls el l)):: (vs++cs.map .cl)) ρ fun res out=>(match out with
   | [⟨t,l',none⟩] =>bif decide (t=el)&&Mp res then eh (l'.length=l.length) (uH { S with gh:=gq S.gh r (some ⟨t,l',none⟩) } dst res κ) none else none
   | _=>none)
  else bif Nat.ble S.fz r then Y (Ir g) (.cl (.c (.ls el l)):: (vs++cs.map .cl)) ρ fun res out=>uH { S with gh:=gq S.gh r none++out.map some } dst (ww S.gh.length res) κ
  else none else none
 | _=>none
inductive Mq where
 |nest (r i j sz lo len:Nat)
 |agg (cs:List Cl)
def Iu:V->Option Mq
 | .v (.cl (.own ⟨r,[(i,j)]⟩ sz lo len _))=>some (.nest r i j sz lo len)
 | .v (.agg cs)=>some (.agg cs)
 | _=>none
def ET (Y:BQ) (S:TS) (o:Oper):Option (FuncId×List Cl×Mq×List TypeId×List Operand):=match o.op with
 | .call { callee:= .value f,args:=as,argTypes:=ts } =>(match o.guard with
   |some _=>none
   |none=>match as.toList,ts.toList with
    |x::xs,_::us=>(match Iu (S.opd x) with
     |some a=>(match S.opd f with
      | .v (.cl (.c (.sc (.func (.func g) _ _))))=>bif Nat.blt g kB&&Nat.beq (Y.kd g) 1 then some (g,[],a,us,xs) else none
      | .v (.fn g caps)=>bif Nat.blt g kB&&Nat.beq (Y.kd g) 1 then some (g,caps,a,us,xs) else none
      | _=>none)
     |none=>none)
    | _,_=>none)
 | _=>none
def yS (S:TS):List Cl->Option (List C×List Nat)
 | [] =>some ([],[])
 | .c (.sc v)::cs=>(match yS S cs with |some (xs,L)=>some (.sc v::xs,L)|none=>none)
 | .own ⟨r,[]⟩ sz _ _ true::cs=>(match gx S.gh r with
   |some ⟨el,l,none⟩=>bif Nat.beq sz el.width then (match yS S cs with |some (xs,L)=>some (.ls el l::xs,r::L)|none=>none) else none
   | _=>none)
 | _=>none
def P9 (G:List (Option fr)) (L:List Nat):List (Option fr):=L.foldl (fun G r=>gq G r none) G
def EU (S:TS):List Nat->List fr->(TS->Option ρ)->Option ρ
 | [],[],κ=>κ S
 |r::L,⟨t,l',none⟩::out,κ=>(match gx S.gh r with
  |some ⟨el,l,none⟩=>bif decide (t=el) then eh (l'.length=l.length) (EU { S with gh:=gq S.gh r (some ⟨t,l',none⟩) } L out κ) none else none
  | _=>none)
 | _,_,_=>none
def Iv (Θ:qG) (Y:BQ) (S:TS) (g:FuncId) (caps:List Cl) (a:Mq) (us:List TypeId) (xs:List Operand) (dst:Option Tmp) (κ:TS->Option ρ):Option ρ:=match a with
 | .agg cs=>(match yS S cs with
   |some (ys,L)=>bif T5 L then vH Θ { S with gh:=P9 S.gh L } us xs fun vs=>EP (OG { S with gh:=P9 S.gh L } none) caps fun ks=>Y (EO g) (.agg (ys.map .c):: (vs++ks.map .cl)) ρ fun res out=>bif Mp res then EU S L out fun S3=>uH S3 dst res κ else none else none
   |none=>none)
 | .nest r i j sz lo len=>(match gx S.gh r with
   |some ⟨t,l,none⟩=>(l[i]?).bind fun y=>(match qz (t.flat y) j with
    |some (.ls el v)=>bif Nat.beq sz el.width then eh (lo=0/\len=v.length) (vH Θ { S with gh:=gq S.gh r (some ⟨t,l,some (i,j)⟩) } us xs fun vs=>EP (OG { S with gh:=gq S.gh r (some ⟨t,l,some (i,j)⟩) } none) caps fun ks=>
     Y (EO g) (.cl (.c (.ls el v)):: (vs++ks.map .cl)) ρ fun res out=>(match out with
       | [⟨t',v',none⟩] =>bif decide (t'=el)&&Mp res then eh (v'.length=v.length) (match t.unflat (gq (t.flat y) j (.ls t' v')) with
         |some z=>uH { S with gh:=gq S.gh r (some ⟨t,l.set i z,none⟩) } dst res κ
         |none=>none) none else none
       | _=>none)) none else none
    | _=>none)
   | _=>none)
def Iw (S:TS) (o:Oper):Option (TypeId×Nat×Nat×Nat×Nat):=match o.op with
 | .call { callee:= .builtin .clear,args:=as,argTypes:=ts } =>(match o.guard with
   |some _=>none
   |none=>match as.toList,ts.toList with
    | [x],[t] =>(match S.opd x with
      | .v (.cl (.own ⟨r,[]⟩ sz lo len _))=>some (t,r,sz,lo,len)
      | _=>none)
    | _,_=>none)
 | _=>none
def Mr (Θ:qG) (S:TS) (t:TypeId) (r sz lo len:Nat) (dst:Option Tmp) (κ:TS->Option ρ):Option ρ:=match oA Θ t with
 |some ti=>match gx S.gh r with
  |some ⟨el,l,none⟩=>bif decide (ti.ty= .ls el)&&Nat.beq el.width 1&&Nat.beq sz 1&&el.flatB then (match el.unflat el.zcs with
   |some z=>eh (lo+len<=l.length) (uH { S with gh:=gq S.gh r (some ⟨el,l.take lo++List.replicate len z++l.drop (lo+len),none⟩) } dst (.tup []) κ) none
   |none=>none) else none
  | _=>none
 |none=>none
def Kt (b:Bool):V:= .v (.cl (.c (.sc (.bool b))))
noncomputable def Dv (Θ:qG) (Y:BQ) (all:List Oper):List Oper->TS->(TS->Option ρ)->Option ρ
 | [],S,κ=>κ S
 |o::os,S,κ=>match D0 o with
  |some (t,x)=>bif Vd Θ t then (match S.opd x with
   | .v (.cl (.c (.ls _ l)))=>Uk l (Sg (uH S o.dst (Kt true) fun S3=>Dv Θ Y all os S3 κ) (uH S o.dst (Kt false) fun S3=>Dv Θ Y all os S3 κ) none) (uH S o.dst (Kt false) fun S3=>Dv Θ Y all os S3 κ)
   | _=>none) else none
  |none=>match Iw S o with
  |some (t,r,sz,lo,len)=>Mr Θ S t r sz lo len o.dst fun S3=>Dv Θ Y all os S3 κ
  |none=>match Ks Y S o with
  |some (k,g,caps,r,sz,us,xs)=>P8 Θ Y S k g caps r sz us xs o.dst fun S3=>Dv Θ Y all os S3 κ
  |none=>match ET Y S o with
  |some (g,caps,a,us,xs)=>Iv Θ Y S g caps a us xs o.dst fun S3=>Dv Θ Y all os S3 κ
  |none=>Ny S all o fun b S1=>bif b then zD Θ Y S1 o fun v S2=>uH S2 o.dst v fun S3=>Dv Θ Y all os S3 κ else uH S1 o.dst (V.tup []) fun S3=>Dv Θ Y all os S3 κ
def gone:Nat->List (Option fr)->List (Option fr)->List Nat
 |n,some _::l,none::m=>n::gone (n+1) l m
 |n,_::l,_::m=>gone (n+1) l m
 | _,_,_=> []
def Qa (l:List (Option fr)):List T:=l.map fun x=>match x with |some tr=>tr.tree|none=> .dd
def B9 (S S':TS):ki:=⟨S.gh.length,Qa (S'.gh.drop S.gh.length),gone 0 S.gh S'.gh⟩
def TP (d:Nat) (o:Oper):Bool:=match o.dst with |some d'=> !(Nat.beq d d')|none=>true
def Ve (o:Oper) (os:List Oper):Bool:=match o.dst with |some d=>os.all (TP d)|none=>false
def Wa (Θ:qG) (t:TypeId):Bool:=match oA Θ t with
 |some ti=>(match ti.ty with | .ls _=>true| _=>false)
 |none=>false
def Vf (Θ:qG) (o:Oper):Bool:=match o.op with
 | .buildSlice t _ _=>Wa Θ t
 | .call { callee:= .builtin .append,args:=_,argTypes:=ts } =>(match ts.toList with |t::_=>Wa Θ t| [] =>false)
 | _=>true
def Nz:V->Bool
 | .v (.cl (.own p _ _ _ _))=>(match p.l with | [] =>true| _=>false)
 | _=>true
def TQ (S:TS) (o:Oper):Bool:=match o.op with
 | .buildSlice _ _ parts=> !(parts.toList.map fun x=>S.opd x.2).any ES
 | .call { callee:= .builtin .append,args:=as,argTypes:=ts } =>(match ts.toList with | [t,t'] =>Nat.beq t t'| _=>true)&&(match as.toList with |s::_=>Nz (S.opd s)| [] =>true)
 | _=>true
def Qb (Θ:qG):List Oper->TS->(TS->Option ρ)->Option ρ
 | [],S,κ=>κ S
 |o::os,S,κ=>match o.op with
  | .alloc t=>match oA Θ t with |some ti=>Qb Θ os { S with bx:=S.bx++ [ti.ty.zvs.map cC] } κ|none=>none
  | _=>Qb Θ os S κ
def Ku (Θ:qG) (Y:BQ) (all:List Oper):List Oper->TS->List ki->(TS->List ki->Option ρ)->Option ρ
 | [],S,ms,κ=>κ S ms
 |o::os,S,ms,κ=>bif ez o then Ku Θ Y all os S (ms++ [⟨S.gh.length,[],[]⟩]) κ else bif gA o then (bif o.guard.isNone then uH S o.dst (V.v (.cl (.ptrB (S.bx.length-1-gv os) 0))) fun S3=>Ku Θ Y all os S3 (ms++ [⟨S.gh.length,[],[]⟩]) κ else none) else
   Ny S all o fun b S1=>bif b then
    (bif fQ o then (bif Ve o os&&Vf Θ o&&TQ S1 o then zD Θ Y S1 o fun v S2=>uH S2 o.dst v fun S3=>Ku Θ Y all os S3 (ms++ [B9 S1 S2]) κ else none)
    else B8 Θ S1 o fun v S2=>uH S2 o.dst v fun S3=>Ku Θ Y all os S3 (ms++ [⟨S1.gh.length,[],[]⟩]) κ)
    else uH S1 o.dst (V.tup []) fun S3=>Ku Θ Y all os S3 (ms++ [⟨S1.gh.length,[],[]⟩]) κ
def Qc (Θ:qG) (Y:BQ):List Oper->TS->(TS->Option ρ)->Option ρ
 | [],S,κ=>κ S
 |o::os,S,κ=>bif ez o then (bif o.guard.isNone&&o.dst.isNone then zD Θ Y S o fun _ S1=>Qc Θ Y os S1 κ else none) else Qc Θ Y os S κ
def Qd (Θ:qG) (t:TypeId):Bool:=match oA Θ t with |some ti=>ti.ty.flatB|none=>false
def Qe (Θ:qG) (Y:BQ) (n0:Nat) (ops:List Oper) (B:List (List Nat)):Nat->List Oper->TS->(TS->Option ρ)->Option ρ
 | _,[],S,κ=>κ S
 |k,o::os,S,κ=>bif fQ o||ez o then zD Θ Y S o fun v S2=>uH S2 o.dst v fun S3=>Qe Θ Y n0 ops B (k+1) os S3 κ
  else bif Ih n0 (L6 ops B k) S.st o then B8 Θ S o fun v S2=>uH S2 o.dst v fun S3=>Qe Θ Y n0 ops B (k+1) os S3 κ else none
def Ul (Θ:qG) (Y:BQ) (ops:List Oper) (S:TS) (κ:TS->Option ρ):Option ρ:=
 bif EF ops.toArray then Qe Θ Y S.gh.length ops (gW ops) 0 ops S κ else
 Qb Θ ops S fun S0=>Ku Θ Y ops ops S0 [] fun SV ms=>bif LP (Qd Θ) ops (gW ops) S0.st ms SV.st then Qc Θ Y ops SV κ else none
def gE:Code->Nat
 | .region id _ _=>id
 | .seq a _=>gE a
 | .block _ c=>gE c
 | .loop c=>gE c
 | _=>0
abbrev uO:=Nat->TS->(ρ:Type)->(X->TS->Option ρ)->Option ρ
noncomputable def Bd (Θ:qG) (Y:BQ) (Λ:uO):Code->TS->(X->TS->Option ρ)->Option ρ
 | .skip,S,κ=>κ .nor S
 | .region _ ops false,S,κ=>Dv Θ Y ops.toList ops.toList S (κ .nor)
 | .region _ ops true,S,κ=>Ul Θ Y ops.toList S (κ .nor)
 | .seq a b,S,κ=>Bd Θ Y Λ a S fun x S1=>match x with | .nor=>Bd Θ Y Λ b S1 κ|x=>κ x S1
 | .cond c a b,S,κ=>Kn S c fun t S1=>bif t then Bd Θ Y Λ a S1 κ else Bd Θ Y Λ b S1 κ
 | .block id c,S,κ=>Bd Θ Y Λ c S fun x S1=>match x with | .ext i=>bif Nat.beq i id then κ .nor S1 else κ (.ext i) S1|x=>κ x S1
 | .loop c,S,κ=>Λ (gE c) S ρ κ
 | .exit id,S,κ=>κ (.ext id) S
 | .ret,S,κ=>κ .ret S
 | _,_,_=>none
def Si (S:TS) (gs:List fr) (et:Option Ty) (c:Cl) (κ:Cl->List fr->TS->Option ρ):Option ρ:=match c,et with
 | .c (.sc v),_=>κ (.c (.sc v)) gs S
 | .em,some t=>κ (.own ⟨gs.length,[]⟩ t.width 0 0 true) (gs++ [⟨t,[],none⟩]) S
 | .own p sz lo len w,some t'=>match p.l with
   | [] =>bif Nat.ble S.fz p.r&&Nat.beq t'.width sz then vG S p fun t l=>bif Nat.beq t.width sz then
     (bif w then κ (.own ⟨gs.length,[]⟩ sz 0 l.length true) (gs++ [⟨t,l,none⟩]) { S with gh:=gq S.gh p.r none }
     else eh (lo=0/\len<=l.length) (κ (.own ⟨gs.length,[]⟩ sz 0 (l.take len).length true) (gs++ [⟨t,l.take len,none⟩]) { S with gh:=gq S.gh p.r none }) none) else none
     else none
   | _=>none
 | _,_=>none
def NA:TS->List fr->List (Option Ty)->List Cl->(List Cl->List fr->TS->Option ρ)->Option ρ
 |S,gs,et::ets,c::cs,κ=>Si S gs et c fun c' gs' S'=>NA S' gs' ets cs fun cs' gs'' S''=>κ (c'::cs') gs'' S''
 |S,gs,[],[],κ=>κ [] gs S
 | _,_,_,_,_=>none
def Um (Θ:qG) (S:TS) (gs:List fr) (t:TypeId) (v:V) (κ:V1->List fr->TS->Option ρ):Option ρ:=match oA Θ t with
 |none=>none
 |some ti=>match v with
  | .v (.agg cs)=>NA S gs ti.ty.csh cs fun cs' gs' S'=>κ (.agg cs') gs' S'
  | .v (.cl c)=>Si S gs (ti.ty.csh.headD none) c fun c' gs' S'=>κ (.cl c') gs' S'
  | _=>none
def xH (Θ:qG):TS->List fr->List (TypeId×V)->(List V1->List fr->Option ρ)->Option ρ
 | _,gs,[],κ=>κ [] gs
 |S,gs,(t,v)::r,κ=>Um Θ S gs t v fun v' gs' S'=>xH Θ S' gs' r fun vs gs''=>κ (v'::vs) gs''
def Gk (Θ:qG) (S:TS):List ResultVar->List TypeId->(List (TypeId×V)->Option ρ)->Option ρ
 | .tmp a::rs,t::ts,κ=>Gk Θ S rs ts fun l=>κ ((t,kj S.env a)::l)
 | .cell a t'::rs,t::ts,κ=>Ko Θ S t' (kj S.env a) fun v=>Gk Θ S rs ts fun l=>κ ((t,v)::l)
 | [],[],κ=>κ []
 | _,_,_=>none
def Ca:List V1->V
 | [v] => .v v
 |vs=> .tup vs
def pS:Nat->List V1->List (Nat×V)
 | _,[] => []
 |n,v::l=>(n, .v v)::pS (n+1) l
noncomputable def Vg (Θ:qG) (Y:BQ) (Λ:uO) (fn:Func) (args:List V1) (κ:V->List fr->Option ρ):Option ρ:=match fn.body with
 |none=>none
 |some c=>Bd Θ Y Λ c { env:=pS 0 args,bx:= [],gh:= [],fz:=0,nt:=args.length+(fn.ntmps-args.length) } fun x S=>match x with
  | .ext _=>none
  | _=>Gk Θ S fn.results.toList fn.resultTypes.toList fun rs=>xH Θ S [] rs fun vs gs=>κ (Ca vs) gs
def Ix:List Cl->Option (List C)
 | [] =>some []
 | .c x::l=>match Ix l with |some r=>some (x::r)|none=>none
 | _=>none
def un (t:Ty) (a:V1) (κ:t.D->Option ρ):Option ρ:=match a with
 | .agg cs=>bif t.ag then (match Ix cs with
   |some xs=>(match t.unflat xs with |some x=>κ x|none=>none)
   |none=>none) else none
 | .cl (.c y)=>bif t.ag then none else (match t.unflat [y] with |some x=>κ x|none=>none)
 | _=>none
def Av:List C->Nat->List Cl
 | [],_=> []
 | .sc v::r,n=> .c (.sc v)::Av r n
 | .ls t l::r,n=> .own ⟨n,[]⟩ t.width 0 l.length true::Av r (n+1)
def vh:List C->List fr
 | [] => []
 | .sc _::r=>vh r
 | .ls t l::r=>⟨t,l,none⟩::vh r
def Sj (t:Ty) (x:t.D) (n:Nat):V1:=bif t.ag then .agg (Av (t.flat x) n) else match Av (t.flat x) n with | [c] => .cl c| _=> .cl .dead
def C1:Nat->List ((t:Ty)×t.D)->List V1
 | _,[] => []
 |n,⟨t,x⟩::r=>Sj t x n::C1 (n+(vh (t.flat x)).length) r
def Be:List ((t:Ty)×t.D)->List fr
 | [] => []
 | ⟨t,x⟩::r=>vh (t.flat x)++Be r
def ret (l:List ((t:Ty)×t.D)) (κ:V->List fr->Option ρ):Option ρ:=κ (Ca (C1 0 l)) (Be l)
end
abbrev NB:=List V1->(ρ:Type)->(V->List fr->Option ρ)->Option ρ
def Un:List (Nat×NB)->FuncId->List V1->(ρ:Type)->(V->List fr->Option ρ)->Option ρ
 | [],_,_,_,_=>none
 | (g,e)::l,f,as,ρ,κ=>bif Nat.beq g f then e as ρ κ else Un l f as ρ κ
def Uo:List (Nat×NB)->Nat->Bool
 | [],_=>false
 | (g,_)::l,f=>bif Nat.beq g f then true else Uo l f
def Iy (l:List (Nat×NB)):BQ:=⟨Un l,fun g=>bif Uo l (EO g) then 1 else bif Uo l (Ir g) then 2 else 0⟩
noncomputable def OH {ρ:Type} (Θ:qG) (Y:BQ) (Λ:uO) (fn:Func) (m:Nat) (el:Ty) (l:List el.D) (args:List V1) (κ:V->List fr->Option ρ):Option ρ:=match fn.body with
 |none=>none
 |some c=>Bd Θ Y Λ c { env:=pS 0 (.cl (.own ⟨0,[]⟩ el.width 0 l.length true)::args),bx:= [],gh:= [some ⟨el,l,none⟩],fz:=m,nt:=(args.length+1)+(fn.ntmps-(args.length+1)) } fun x S=>match x with
  | .ext _=>none
  | _=>Gk Θ S fn.results.toList fn.resultTypes.toList fun rs=>bif Nat.beq m 0 then xH Θ S [] rs fun vs gs=>κ (Ca vs) gs else match gx S.gh 0 with
    |some ⟨t,l',none⟩=>xH Θ S [⟨t,l',none⟩] rs fun vs gs=>κ (Ca vs) gs
    | _=>none
def Kv (t:Ty) (x:t.D):V1:=bif t.ag then .agg ((t.flat x).map .c) else match (t.flat x).map Cl.c with | [c] => .cl c| _=> .cl .dead
end
end Go.Proofs.YtjnleglhcppgcaaGreat.En
