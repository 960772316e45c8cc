/- Plain laws. -/
import Derived.Test.YtkghndikalnipacGreatZPHistD
set_option linter.unusedSimpArgs false
set_option linter.unusedVariables false
namespace Go.Proofs.YtkghndikalnipacGreat.En
open Go
section
theorem XM(x:qg)(ok:Ez 1048576 x)(id:Int)(o:Op):Ev (λy=>y.1=x\/ ∃s,0<=id/\x.servers[id.toNat]? =some s/\Ew s id=some (true,())/\EN o=some (true,())/\(∀e∈s.log,¬ (e.op.client=o.client/\e.op.seq=o.seq))/\(s.log.length:Int)≠16/\y.1=GH x (x.servers.set id.toNat ⟨s.up,s.intact,s.version,s.epoch,s.config,s.first,s.log++ [⟨s.epoch,o⟩],s.commit,s.learned⟩)) (FN x id o):=by
 unfold FN;rw[(EL x ok).1,ao];generalize hQ: (λy:qg×Int×Unit=>y.1=x\/ ∃s,0<=id/\x.servers[id.toNat]? =some s/\Ew s id=some (true,())/\EN o=some (true,())/\(∀e∈s.log,¬ (e.op.client=o.client/\e.op.seq=o.seq))/\(s.log.length:Int)≠16/\y.1=GH x (x.servers.set id.toNat ⟨s.up,s.intact,s.version,s.epoch,s.config,s.first,s.log++ [⟨s.epoch,o⟩],s.commit,s.learned⟩))=Q;have bad: ∀n:Int,Ev Q (some (x,n,())):=λn=>hQ ▸ .ret (.inl rfl);refine .bd λv hv=> .brn (λev=> .bd λ_ _=> .brn (λ_=> .bd λw hw=> .brn (λew=> .ip λh0=> .bd λs hs=> .brn (λ_=> .bd λp hp=> .brn (λep=> .bd λn hn=> ?_) λ_=>bad 3) λ_=>bad 2) λ_=>bad 1) λ_=>bad 1) λ_=>bad 1;have hs:x.servers[id.toNat]? =some s:=hs;have hl:=Ep (ok.1.2 s (aA hs)).2.1
 have hf:0<=n.1\/ ∀e∈s.log,¬ (e.op.client=o.client/\e.op.seq=o.seq):=abw s.log o.client o.seq hl n (by have hn:=hn;exact hn)
 have hop:EN o=some (true,()):=(show EN o=some w from hw).trans (congrArg some (Prod.ext ew rfl))
 have hpn:Ew s id=some (true,()):=by have hp:Ew s id=some p:=hp;exact hp.trans (congrArg some (Prod.ext ep rfl))
 extract_lets+lift j17 j18
 have h17: ¬0<=n.1->(s.log.length:Int)≠16->Ev Q j17:=λhn0 h16=>by unfold j17;refine .ip λ_=> .bd λa ha=> .bd λb hb=> .ip λ_=> .ite (λ_=> .no) λ_=> .ip λ_=> .ip λ_=> .bd λd hd=> .ip λ_=> .ret ?_;obtain rfl:a=s:=Option.some.inj ((show x.servers[id.toNat]? =some a from ha).symm.trans hs);obtain rfl:b=a:=Option.some.inj ((show x.servers[id.toNat]? =some b from hb).symm.trans hs);obtain rfl:d=b:=Option.some.inj ((show x.servers[id.toNat]? =some d from hd).symm.trans hs);rw[<-hQ];refine .inr ⟨d,h0,hs,hpn,hop,hf.resolve_left hn0,h16,?_⟩;show (⟨x.now,x.servers.set id.toNat _,x.sides,x.master,x.masterUp,x.lease,x.places⟩:qg)=_;rw[DP]
 have h18: ¬0<=n.1->Ev Q j18:=λhn0=>by unfold j18;refine .bd λ_ _=> .bd λ_ _=> .brn (λ_=> .bd λ_ _=> .br (λ_=> .bd λ_ _=> .br (λ_=>bad 6) λ_=> .br (λ_=>bad 5) λh=>h17 hn0 (ne_of_beq_false h)) λ_=> .br (λ_=>bad 5) λh=>h17 hn0 (ne_of_beq_false h)) λ_=>bad 11
 exact .br (λh=> .ip λ_=> .bd λe _=> .brn (λ_=> .br (λh=>bad 0) λh=>h18 (of_decide_eq_false h)) λ_=>bad 11) λh=> .br (λh=>bad 0) λh=>h18 (of_decide_eq_false h)
theorem Y9{x:qg}(h:Rg x)(id:Int)(o:Op):Ev (λy=>Rg y.1) (FN x id o):=by
 refine (XM x h.ok id o).mono λy hy=> ?_;rcases hy with e| ⟨s,h0,hs,hpn,hop,hn,h16,e⟩
 ·rw[e];exact h
 obtain⟨sv,oks⟩:=KD h.ok h.valid hs;have pf:=HK oks hpn;have hce:=(Fm (Ei oks.1) pf.1).2.2.2;have hc:s.config≠⟨0,0,[],[]⟩:=Pr hce.1;have hep:=TT oks hpn;obtain⟨n,vs⟩:=Qg oks sv.val hc;obtain⟨n',n1,_,_,n4⟩:=Nm s.config id (Ei oks.1) pf.1;have hr:=vs.role;rw[DT h0,n1] at hr;obtain rfl:n'=n:=(Prod.mk.inj (Option.some.inj hr)).1;have hn3:n'≠3:=λh3=>n4 h3 pf.2;have hf:=vs.rep hn3;have hl:=vs.len
 have hlog:ET (s.log++ [⟨s.epoch,o⟩])=some (true,()):=by
  have hm:s.log.length<=maxLen:=by unfold maxLen;omega
  obtain⟨g1,g2⟩:=(Jw s.log hm).1 vs.log;refine (Jw _ (by rw[bJ,cy];unfold maxLen;omega)).2 ⟨by rw[bJ,cy];omega,λk hk=> ?_⟩;rw[bJ,cy] at hk;by_cases hk2:k<s.log.length
  ·have h2:=g2 k hk2;unfold R9 at h2 ⊢;rw[aW hk2,aW (show k-1<s.log.length by omega)];exact h2
  ·obtain rfl:k=s.log.length:=by omega
   have e2:Y7 o=true:=by rw[Nl] at hop;exact (Prod.mk.inj (Option.some.inj hop)).1
   unfold R9;rw[Ea];show (GG s.epoch 1 20&&(Y7 o&&(decide (s.log.length=0)||_)))=true;rw[Eg.2 (show 1<=s.epoch/\s.epoch<=20 by have:=vs.ep.2;omega),e2];by_cases h0:s.log.length=0
   ·rw[decide_eq_true h0];rfl
   ·have hlt:s.log.length-1<s.log.length:=by omega
    have ha:=vs.all _ (DJ hlt);rw[aW hlt,aq hlt];show (true&&(true&&(decide (s.log.length=0)|| !decide (s.log[s.log.length-1].epoch>s.epoch))))=true;rw[decide_eq_false (show ¬s.log[s.log.length-1].epoch>s.epoch by omega),decide_eq_false h0];rfl
 have okt:EA 1048576 ⟨s.up,s.intact,s.version,s.epoch,s.config,s.first,s.log++ [⟨s.epoch,o⟩],s.commit,s.learned⟩:=⟨oks.1,by show (s.log++ [_]).length<=_;rw[bJ,cy];omega,oks.2.2⟩
 have vt:Vs ⟨s.up,s.intact,s.version,s.epoch,s.config,s.first,s.log++ [⟨s.epoch,o⟩],s.commit,s.learned⟩ ((id.toNat:Nat):Int) n':=⟨vs.ver,vs.ep,hlog,vs.lrn,vs.first,by show s.first+(((s.log++ [_]).length:Nat):Int)<=16;rw[bJ,cy];omega,⟨vs.commit.1,by show s.commit<=s.first+(((s.log++ [_]).length:Nat):Int);rw[bJ,cy];have:=vs.commit.2;omega⟩,hc,vs.intact,vs.le,λe he=>(bC.1 he).elim (vs.all e) λhe=>by rw[aL.1 he];exact Int.le_of_eq hep,vs.role,vs.in',λh3=>absurd h3 hn3,λ_=>hf⟩
 have svt:SV x.master ⟨s.up,s.intact,s.version,s.epoch,s.config,s.first,s.log++ [⟨s.epoch,o⟩],s.commit,s.learned⟩ ((id.toNat:Nat):Int):=⟨YX okt vt (by show 0<=s.config.epoch;omega),sv.ep,sv.lrn,sv.cfg⟩
 obtain⟨ok,hv⟩:=QI h.ok h.valid (x.servers.set id.toNat _) DL (λu hu=>(cX hu).elim (h.ok.1.2 u) λe=>e ▸ okt) λj hj=>by
  rw[Ec];split
  ·next e=>subst e;exact svt
  ·exact LP h.ok h.valid j (by rw[DL] at hj;exact hj)
 obtain⟨G,H,hh⟩:=h.hist;obtain⟨G',hG⟩:=hh.append h.ok h.valid h0 hs hc pf.2.symm ⟨s.epoch,o⟩ hn;rw[e];refine⟨ok,hv,h.old.same rfl λj t ht=> ?_,G',H,hG⟩;have ht: (x.servers.set id.toNat (⟨s.up,s.intact,s.version,s.epoch,s.config,s.first,s.log++ [⟨s.epoch,o⟩],s.commit,s.learned⟩:qj))[j]? =some t:=ht;by_cases e:id.toNat=j
 ·subst e;rw[DK (C8 hs)] at ht;obtain rfl:=Option.some.inj ht;exact⟨s,hs,rfl,rfl⟩
 ·rw[DN e] at ht;exact⟨t,ht,rfl,rfl⟩
def Mk(S T:List qj)(p:qj):Prop:=T.length=S.length/\ ∀ (j:Nat) t,T[j]? =some t-> ∃s n,S[j]? =some s/\t=⟨s.up,s.intact,s.version,s.epoch,s.config,s.first,s.log,n,s.learned⟩/\(n=s.commit\/(n=(p.log.length:Int)/\s.config=p.config))
theorem WF{x:qg}(h:Rg x)(id:Int):Ev (λy=>Rg y.1) (Gn x id):=by
 obtain⟨b,b1,_,b2⟩:=KW x h.ok id;unfold Gn;rw[(EL x h.ok).1,ao,b1,ao];refine .brn (λeb=> .ip λ_=> .bd λs hs=> .bd λM hM=> ?_) λ_=> .ret h;obtain⟨_,h0,h5,hp⟩:=b2 eb;have hs:x.servers[id.toNat]? =some s:=hs;have hpn:=hp s hs;have oks:=(KD h.ok h.valid hs).2;obtain⟨M',m1,_,m3,m4,m5,m6⟩:=Hi s.config (Ei oks.1);obtain rfl:M=(M',()):=Option.some.inj ((show EO s.config=some M from hM).symm.trans m1);have mm:M'.length<=maxLen:=by unfold maxLen;omega
 refine .bind (.count (B:=HE) (E:=λe=> ∃ (c:qg) (a:Bool),Rg c/\Ck x c/\c.servers[id.toNat]? =some s/\(a=true-> ∀m∈M',Sm c s.log m/\ ∀t,c.servers[m.toNat]? =some t->t.config=s.config/\t.epoch=s.epoch)/\e=((id,(),(),(),a,()),(fz,fc c,()),M',c.servers,c.sides,c.master.configs,c.places,())) (λk (b:qg×Bool)=>((id,(),(),(),b.2,(k:Int),()),(fz,fc b.1,()),M',b.1.servers,b.1.sides,b.1.master.configs,b.1.places,())) (λk b=>k<=M'.length/\Rg b.1/\Ck x b.1/\b.1.servers[id.toNat]? =some s/\(b.2=true-> ∀ (j:Nat) m,j<k->M'[j]? =some m->Sm b.1 s.log m/\ ∀t,b.1.servers[m.toNat]? =some t->t.config=s.config/\t.epoch=s.epoch)) (λk b hJ=> ?_) (b:=(x,true)) ⟨bM _,h,.self x,hs,λ_ j m h=>absurd h (DV j)⟩) ?_
 ·obtain⟨c,a⟩:=b;obtain⟨_,jI,jC,jp,ja⟩:=hJ;refine .br (λhk=> .ip λ_=> .bd λz hz=> ?_) λhk=> .ret ⟨c,a,jI,jC,jp,λe m hm=> ?_,rfl⟩
  ·have hk:k<M'.length:=DI.1 (of_decide_eq_true hk);have hz:M'[k]? =some z:=hz;have sw:=BI mm hk;refine .bind ((abK c jI.ok id z).and λy hy=>(abd c jI.ok id z).is hy) λw hw=> ?_;obtain⟨hw1,_,hw2⟩:=hw;obtain⟨_,hw3,hw4⟩:=hw2 s jp
   have next:Rg w.1/\Ck x w.1/\w.1.servers[id.toNat]? =some s:=by
    rcases hw1 with ⟨_,e⟩| ⟨_,hpu⟩
    ·rw[e];exact⟨jI,jC,jp⟩
    ·exact⟨abL jI hpu,jC.trans (Ww hpu),YJ jI.ok hpu jp⟩
   refine .br (λha=> .ret ⟨(w.1,w.2.1),by rw[sw],hk,next.1,next.2.1,next.2.2,λhw5 j m hj hm=> ?_⟩) λ_=> .ret ⟨(w.1,false),by rw[sw],hk,next.1,next.2.1,next.2.2,nofun⟩
   have ckw: ∀ (m:Int),(∀t,c.servers[m.toNat]? =some t->t.config=s.config/\t.epoch=s.epoch)-> ∀t,w.1.servers[m.toNat]? =some t->t.config=s.config/\t.epoch=s.epoch:=λm hm t ht=>by
    rcases hw1 with ⟨_,e⟩| ⟨_,hpu⟩
    ·rw[e] at ht;exact hm t ht
    ·have ck:=Ww hpu;have hlt:=C8 ht;rw[ck.len] at hlt;obtain⟨t',t1,_,_,t4,t5,_⟩:=ck.srv _ _ (aq hlt);obtain rfl:=Option.some.inj (t1.symm.trans ht);obtain⟨e1,e2⟩:=hm _ (aq hlt);exact⟨t5.trans e1,t4.trans e2⟩
   by_cases hjk:j=k
   ·subst hjk;obtain rfl:=Option.some.inj (hz.symm.trans hm);refine⟨hw4 hw5,ckw z λt ht=> ?_⟩;rcases hw1 with ⟨e,_⟩| ⟨_,hpu⟩
    ·have hw5:w.2.1=true:=hw5;rw[e] at hw5;cases hw5
    ·obtain⟨u,q,n,u1,u2,q1,q2,_⟩:=hpu.ex;obtain rfl:u=s:=Option.some.inj (u1.symm.trans jp);obtain rfl:q=t:=Option.some.inj (q1.symm.trans ht);obtain⟨_,g2,_,g4,_⟩:=VW jI.ok (Es jI.ok jI.valid) hpu.rid hpu.rm q2 u1 q1;exact⟨g4,g2⟩
   ·obtain⟨g1,g2⟩:=ja ha j m (by omega) hm;exact⟨hw3 m g1,ckw m g2⟩
  ·have hk: ¬ ((k:Int)< (M'.length:Int)):=of_decide_eq_false hk;obtain⟨j,hj,rfl⟩:=aU hm;exact ja e j _ (by omega) (aq hj)
 rintro _ ⟨c,a,cI,cC,cp,ca,rfl⟩
 have vcc:=Es cI.ok cI.valid;refine .bind (.count (B:=Hj) (E:=λe=> ∃S:List qj,Mk c.servers S s/\(a=false->S=c.servers)/\e.2.1=(fz,fc c,())/\e.2.2.1=S/\e.2.2.2=(c.sides,c.master.configs,c.places,())) (λk (S:List qj)=>((id,(),(),(),a,(k:Int),()),(fz,fc c,()),M',S,c.sides,c.master.configs,c.places,())) (λk S=>k<=M'.length/\Mk c.servers S s/\(a=false->S=c.servers)) (λk S hJ=> ?_) (b:=c.servers) ⟨bM _,⟨rfl,λj t ht=>⟨t,t.commit,ht,rfl,.inl rfl⟩⟩,λ_=>rfl⟩) ?_
 ·obtain⟨_,jM,ja⟩:=hJ;refine .br (λhk=> .br (λea=> .ip λ_=> .bd λz hz=> .ip λ_=> .bd λu hu=> .ip λ_=> .bd λq hq=> ?_) λ_=> .ret ⟨S,jM,ja,rfl,rfl,rfl⟩) λ_=> .ret ⟨S,jM,ja,rfl,rfl,rfl⟩;have hk:k<M'.length:=DI.1 (of_decide_eq_true hk);have hz:M'[k]? =some z:=hz;have hu:S[id.toNat]? =some u:=hu;have hq:S[z.toNat]? =some q:=hq;refine .ret ⟨S.set z.toNat ⟨q.up,q.intact,q.version,q.epoch,q.config,q.first,q.log,((u.log.length:Nat):Int),q.learned⟩,by rw[BI mm hk],hk,⟨by rw[DL];exact jM.1,λj t ht=> ?_⟩,λh=>by rw[h] at ea;cases ea⟩;by_cases hj:z.toNat=j
  ·subst hj;rw[DK (C8 hq)] at ht;obtain rfl:=Option.some.inj ht;obtain⟨v,n,v1,v2,_⟩:=jM.2 _ _ hq;obtain⟨p',n',p1,p2,_⟩:=jM.2 _ _ hu;obtain rfl:p'=s:=Option.some.inj (p1.symm.trans cp);refine⟨v,_,v1,by rw[v2],.inr ⟨by rw[p2],?_⟩⟩;exact ((ca ea z (aA hz)).2 v v1).1
  ·rw[DN hj] at ht;exact jM.2 j t ht
 rintro⟨e1,e2,e3,e4⟩ ⟨S,hM,ha,g1,g2,g3⟩
 have g1:e2=(fz,fc c,()):=g1;have g2:e3=S:=g2;have g3:e4=(c.sides,c.master.configs,c.places,()):=g3;subst g1 g2 g3;refine .ret ?_;show Rg (GH c e3);cases a with
 |false=>have h3:e3=c.servers:=ha rfl;rw[h3];exact cI
 |true=>
  have pf:=HK oks hpn
  have memb: ∀ (j:Nat) t,c.servers[j]? =some t->t.config=s.config->(j:Int)∈M':=λj t ht hc=>by
   obtain⟨st,okt⟩:=KD cI.ok cI.valid ht;have hne:t.config≠⟨0,0,[],[]⟩:=by rw[hc];exact Pr (Fm (Ei oks.1) pf.1).2.2.2.1
   obtain⟨n,vs⟩:=Qg okt st.val hne;obtain⟨n',n1,_,n3,_⟩:=Nm t.config (j:Int) (Ei okt.1) (by rw[hc];exact pf.1);obtain rfl:n'=n:=(Prod.mk.inj (Option.some.inj (n1.symm.trans vs.role))).1;exact (m6 pf.1 _).2 (by rw[<-hc];exact Classical.byContradiction λh=>vs.in' (n3.2 h))
  obtain⟨ok,hv⟩:=QI cI.ok cI.valid e3 hM.1 (λt ht=>by
   obtain⟨j,hj,rfl⟩:=aU ht;obtain⟨v,n,v1,v2,_⟩:=hM.2 j _ (aq hj);rw[v2];exact cI.ok.1.2 v (aA v1)) λj hj=>by
   obtain⟨v,n,v1,v2,v3⟩:=hM.2 j _ (aq hj);obtain⟨sv,okv⟩:=KD cI.ok cI.valid v1;rw[v2];rcases v3 with v3| ⟨v3,v4⟩
   ·rw[v3];exact⟨sv.val,sv.ep,sv.lrn,sv.cfg⟩
   ·have hne:v.config≠⟨0,0,[],[]⟩:=by rw[v4];exact Pr (Fm (Ei oks.1) pf.1).2.2.2.1
    obtain⟨r,vs⟩:=Qg okv sv.val hne;have hlen:=((ca rfl _ (memb j v v1 v4)).1 v (by rw[DG];exact v1)).1;have vt:Vs ⟨v.up,v.intact,v.version,v.epoch,v.config,v.first,v.log,n,v.learned⟩ (j:Int) r:=⟨vs.ver,vs.ep,vs.log,vs.lrn,vs.first,vs.len,by show 0<=n/\n<=v.first+(v.log.length:Int);omega,vs.cfg,vs.intact,vs.le,vs.all,vs.role,vs.in',vs.wit,vs.rep⟩
    have he:=(Fm (Ei oks.1) pf.1).2.2.2.1;exact⟨YX (show EA 1048576 (⟨v.up,v.intact,v.version,v.epoch,v.config,v.first,v.log,n,v.learned⟩:qj) from okv) vt (by show 0<=v.config.epoch;rw[v4];omega),sv.ep,sv.lrn,sv.cfg⟩
  obtain⟨G,H,hh⟩:=cI.hist;refine⟨ok,hv,cI.old.same rfl λj t ht=> ?_,G,s.log,hh.commit cI.ok cI.valid cI.old ⟨h0,h5⟩ cp hpn m1 (λm hm t ht=> ?_) rfl λj t ht=> ?_⟩
  ·obtain⟨v,n,v1,v2,_⟩:=hM.2 j t ht;exact⟨v,v1,by rw[v2],by rw[v2]⟩
  ·obtain⟨g1,g2⟩:=ca rfl m hm;exact⟨(g2 t ht).1,(g2 t ht).2,(g1 t ht).1⟩
  ·obtain⟨v,n,v1,v2,v3⟩:=hM.2 j t ht;exact⟨v,v1,by rw[v2],by rw[v2],by rw[v2],by rw[v2],by rw[v2];exact v3⟩
theorem Zc{x:qg}(h:Rg x)(id:Int)(o:Op):Ev (λy=>Rg y.1) (JL x id o):=by unfold JL;refine .bind (Y9 h id o) λy hy=> .brn (λ_=> ?_) λ_=> .ret hy;refine .ip λ_=> .bd λ_ _=> .bd λ_ _=> .ip λ_=> .bd λ_ _=> .ip λ_=> .bd λ_ _=> .br (λ_=> .bind (WF hy id) λz hz=> .brn (λ_=> .ip λ_=> .bd λ_ _=> .bd λ_ _=> .ip λ_=> .bd λ_ _=> .ret hz) λ_=> .ret hz) λ_=> .ip λ_=> .bd λ_ _=> .bd λ_ _=> .ip λ_=> .bd λ_ _=> .ret hy
theorem Rg.free{x:qg}(h:Rg x):Rg ⟨x.now,x.servers,x.sides,x.master,x.masterUp,⟨0,0,0⟩,x.places⟩:=by have vc:=Es h.ok h.valid;obtain⟨_,f2,_⟩:=I2 (Fh h.ok.2.2.1) vc.ml;exact h.rest x.now x.masterUp x.sides ⟨0,0,0⟩ vc.now vc.up h.ok.2.1 vc.sides rfl f2
theorem ZO{x:qg}(h:Rg x)(to:Int):Ev (λy=>Rg y.1) (G1 x to):=by obtain⟨c,b,c1,c2,c3⟩:=TV x h.ok;obtain⟨r5,w5,_⟩:=c3 (Es h.ok h.valid);unfold G1;rw[(EL x h.ok).1,ao];refine .bd λn hn=> .brn (λ_=> ?_) λ_=> .ret h;rw[c1,ao];exact .bind (WF h c.primary) λy hy=> .bind (Sq hy.free (n:=⟨_,to,c.replicas,c.witnesses⟩) ⟨by show c.replicas.length<=_;omega,by show c.witnesses.length<=_;omega⟩) λz hz=> .bind (Qh hz) λw hw=> .ret hw
theorem ZE{x:qg}(h:Rg x)(want term:Int):Ev (λy=>Rg y.1) (HU x want term):=by unfold HU;rw[(EL x h.ok).1,ao];exact .bd λ_ _=> .brn (λ_=> .bd λ_ _=> .brn (λ_=> .bd λs hs=> .br (λes=> .ret h) λ_=> .bind (λy hy=>(WX x h.ok want 0).is hy) λn hn=> .brn (λ_=> .bind (Sq h hn) λy hy=> .brn (λ_=> .bd λ_ _=> .bind (aaD hy _) λz hz=> .brn (λ_=> .bind (Qh hz) λa ha=> .brn (λe9=> .bind (YK ha _ _) λr hr=> .ret hr) λhn=> .ret ha) λhn=> .ret h) λhn=> .ret h) λ_=> .ret h) λ_=> .ret h) λ_=> .ret h
theorem abT{x:qg}(h:Rg x)(e:wN):Ev (λy=>Rg y.1) (KN x e):=by unfold KN;refine .br (λ_=> .bind (YK h _ _) λy hy=> .ret hy) λ_=> .br (λ_=> .bind (λy hy=>(WX x h.ok _ _).is hy) λn hn=> .brn (λ_=> .bind (Sq h hn) λy hy=> .ret hy) λ_=> ?_) λ_=> .br (λ_=> .bind (Qh h) λy hy=> .ret hy) λ_=> .br (λ_=> .bind (aaP h _) λy hy=> .ret hy) λ_=> .br (λ_=> .bind (YM h _) λy hy=> .ret hy) λ_=> .br (λ_=> .bind (abD h _) λy hy=> .ret hy) λ_=> .br (λ_=> .bind (abG h _ _) λy hy=> .ret hy) λ_=> .br (λ_=> .bind (YA h _) λy hy=> .ret hy) λ_=> .br (λ_=> .bind (aaD h _) λy hy=> .ret hy) λ_=> .br (λ_=> .bind (aaM h _ _ _) λy hy=> .br (λ_=> .ret hy) λ_=> .ret hy) λ_=> .br (λ_=> .bind (Y0 h _) λy hy=> .ret hy) λ_=> .br (λ_=> .bind (VS h _) λy hy=> .ret hy) λ_=> .br (λ_=> .bind (ZO h _) λy hy=> .ret hy) λ_=> .bind (ZE h _ _) λy hy=> .ret hy;rw[(EL x h.ok).1];exact .ret h
theorem XE{x:qg}(h:Rg x)(e:wN):Ev (λy=>Rg y.1) (JO x e):=by unfold JO;rw[(EL x h.ok).1];exact .bd λ_ _=> .brn (λ_=> .bd λ_ _=> .brn (λ_=> .br (λ_=> .bind (Zc h _ _) λy hy=> .ret hy) λ_=> .br (λ_=> .bind (Q:=λy=>Rg y.1) (.ret h) λy hy=> .bd λ_ _=> .ret hy) λ_=> .bind (abT h e) λy hy=> .ret hy) λ_=> .ret h) λ_=> .ret h
theorem Wy{x:qg}(h:Rg x)(l:List wN):Ev (λy=>Rg y.1) (Ip x l):=by
 unfold Ip;rw[(EL x h.ok).1,ao];refine .bind (.loop (B:=Jq) (E:=λe=> ∃ (c:qg) (r:List wR),Rg c/\e=(((),(),(),()),(fz,fc c,()),r,c.servers,c.sides,c.master.configs,c.places,())) (λs=> ∃ (c:qg),Rg c/\s.2.1=(fz,fc c,())/\s.2.2.2=(c.servers,c.sides,c.master.configs,c.places,())) (λs hs=> ?_) ⟨x,h,rfl,rfl⟩) ?_
 ·obtain⟨a,b,r,d⟩:=s;obtain⟨c,hc,i1,i2⟩:=hs;obtain rfl:b=_:=i1;obtain rfl:d=_:=i2;exact .br (λ_=> .br (λ_=> .ip λ_=> .bd λe _=> .bind (XE hc e) λy hy=> .ip λ_=> .ret ⟨y.1,hy,rfl,rfl⟩) λ_=> .ret ⟨c,r,hc,rfl⟩) λ_=> .ret ⟨c,r,hc,rfl⟩
 ·rintro _ ⟨c,r,hc,rfl⟩
  exact .ret hc
theorem ab2(l:List uO)(hl:l.length<=1048576)(hp:Fb l=some (true,())):Ev (λy=>Rg y.1) (Iy l):=by
 unfold Iy;rw[hp,ao];refine .brn (λ_=> .ip λ_=> .ip λ_=> .bind (.count (B:=I5) (E:=λe=>e=(((),(),()),(fz,(0,(),(),(),0,3,0,0,0,(),()),()),List.replicate 5 ⟨true,true,1,0,⟨0,0,[],[]⟩,0,[],0,[]⟩,List.replicate (5:Int).toNat (0:Int),[] ++l,())) (λk (S:List qj)=>(((),(),(k:Int),()),(fz,(0,(),(),(),0,3,0,0,0,(),()),()),S,List.replicate (5:Int).toNat (0:Int),[] ++l,())) (λk S=>k<=5/\S=List.replicate k ⟨true,true,1,0,⟨0,0,[],[]⟩,0,[],0,[]⟩) (λk S hJ=> ?_) (b:=[]) ⟨by decide,rfl⟩) ?_) nofun
 ·refine .br (λhk=> .bd λs hs=> .ip λ_=> .ret ⟨S++ [s.1],by rw[BI (n:=5) (by decide) (DI.1 (of_decide_eq_true hk))],DI.1 (of_decide_eq_true hk),?_⟩) λhk=> .ret ?_
  ·have hs:some ((⟨true,true,1,0,⟨0,0,[],[]⟩,0,[],0,[]⟩:qj),())=some s:=hs;rw[<-Option.some.inj hs,hJ.2,List.replicate_succ']
  ·have : ¬ ((k:Int)<5):=of_decide_eq_false hk;obtain rfl:k=5:=by omega
   rw[hJ.2];rfl
 ·rintro _ rfl
  refine .ret ?_;rw[bF];have ok:Ez 1048576 (⟨0,List.replicate 5 ⟨true,true,1,0,⟨0,0,[],[]⟩,0,[],0,[]⟩,List.replicate (5:Int).toNat (0:Int),⟨[],0⟩,3,⟨0,0,0⟩,l⟩:qg):=⟨⟨by show (List.replicate 5 _).length<=_;rw[List.length_replicate];decide,λs hs=>by rw[Eb hs];exact⟨⟨bM _,bM _⟩,bM _,bM _⟩⟩,by show (List.replicate (5:Int).toNat (0:Int)).length<=_;decide,⟨bM _,nofun⟩,hl⟩
  have hm:Er ⟨[],0⟩=some (true,()):=aa6 (bM _) (λk hk=>absurd hk (DV k)) ⟨cU _,cU _⟩;obtain⟨v,v1,v2⟩:=W4 (List.replicate (5:Int).toNat (0:Int)) rfl (λz hz=>by rw[Eb hz];decide);have all: ∀ (k:Nat) s,(List.replicate 5 (⟨true,true,1,0,⟨0,0,[],[]⟩,0,[],0,[]⟩:qj))[k]? =some s->s=⟨true,true,1,0,⟨0,0,[],[]⟩,0,[],0,[]⟩:=λk s h=>Eb (aA h)
  have sv: ∀k (hk:k< (List.replicate 5 (⟨true,true,1,0,⟨0,0,[],[]⟩,0,[],0,[]⟩:qj)).length),SV ⟨[],0⟩ (List.replicate 5 (⟨true,true,1,0,⟨0,0,[],[]⟩,0,[],0,[]⟩:qj))[k] (k:Int):=λk hk=>by rw[List.getElem_replicate];exact (Y3 ok.2.2.1 hm (by decide)).2
  refine⟨ok,RF ok (by show (0:Int)<=0/\(0:Int)<=999;decide) List.length_replicate (v1.trans (congrArg some (Prod.ext v2 rfl))) hm (by show (0:Int)<=3/\(3:Int)<=3;decide) rfl hp (cU _) sv,λk p hp hc=>absurd (by rw[all k p hp]) hc,λ_=> [],[],⟨λk s hs hc=>absurd (by rw[all k s hs]) hc,λ_ i j a b h=>by simp at h,λk s hs=>by rw[all k s hs];exact .nil _,.nil _,λ_=>rfl⟩⟩
end
section
theorem SR(a b:List rk)(ha:a.length<=maxLen): ∃n:Nat,H8 a b=some ((n:Int),())/\n<=a.length/\n<=b.length/\a.take n=b.take n/\(n<a.length->n<b.length->a[n]? ≠b[n]?):=by
 rcases Ko (B:=Gw) a.length (λk=>((a,b,(k:Int),()),(),())) ((((a.length:Nat):Int),()),(),()) (λk=>(((k:Int),()),(),())) (λk=>decide (a[k]? ≠b[k]?))
  (by simp only[Gw];rw[C1,if_neg (by omega)])
  (λk hk=>by
    have c1: (k:Int)< (a.length:Int):=by omega
    have c2: (0:Int)<=(k:Int):=by omega
    by_cases hk':k<b.length
    ·have c3: (k:Int)< (b.length:Int):=by omega
     simp only[Gw,XR,C1,B3,if_pos c1,if_pos c2,if_pos c3,DG,aq hk,aq hk',ao,BI ha hk];by_cases h:a[k] =b[k]<;>simp[h]
    ·have c3: ¬ (k:Int)< (b.length:Int):=by omega
     simp only[Gw,C1,if_pos c1,if_neg c3,aq hk,cx (show b.length<=k by omega)];simp) with ⟨k1,k2⟩| ⟨i,hi,k1,k2,k3⟩
 ·have eq: ∀k,k<a.length->a[k]? =b[k]? :=λk hk=>by simpa using k2 k hk
  have hl:a.length<=b.length:=by
   rcases bn a.length with h|h
   ·omega
   ·have:=eq (a.length-1) (by omega);rw[aq (by omega)] at this;have:=C8 this.symm;omega
  refine⟨a.length,?_,ay _,hl,?_,λh=>absurd h (dA _)⟩
  ·unfold H8;rw[show KR ((a,b,0,()),(),())=_ from k1];rfl
  ·refine bz λk=> ?_;rw[bk,bk];split
   ·exact eq k (by assumption)
   ·rfl
 ·have eq: ∀k,k<i->a[k]? =b[k]? :=λk hk=>by simpa using k3 k hk
  have hl:i<=b.length:=by
   rcases bn i with h|h
   ·omega
   ·have:=eq (i-1) (by omega);rw[aq (by omega)] at this;have:=C8 this.symm;omega
  refine⟨i,?_,by omega,hl,?_,λ_ _=>by simpa using k2⟩
  ·unfold H8;rw[show KR ((a,b,0,()),(),())=_ from k1];rfl
  ·refine bz λk=> ?_;rw[bk,bk];split
   ·exact eq k (by assumption)
   ·rfl
theorem Zl{a b:List rk}(ha:a.length<=maxLen)(h: ∀ (i:Nat) e,a[i]? =some e->b[i]? =some e):Me a b=some (true,()):=by
 obtain⟨n,n1,n2,n3,_,n5⟩:=SR a b ha
 have hn:n=a.length:=by
  rcases Nat.lt_or_eq_of_le n2 with hlt|e
  ·have hb:=h n _ (aq hlt);exact absurd ((aq hlt).trans hb.symm) (n5 hlt (C8 hb))
  ·exact e
 unfold Me;rw[n1,ao,hn,beq_self_eq_true]
end
section
theorem ab4{x:qg}(h:Rg x)(l:List wN)(hl:l.length<=1048576):Tt (λy=>Rg y.1) (Ip x l):=by obtain⟨y,y1,_⟩:=Wz x h.ok l hl;exact⟨y,y1,Wy h l y y1⟩
section
variable [dE]
theorem Xf{x:Hd}{l:List Int}(h:kO x=some l)(hl:l.length<=maxLen)(hb: ∀m∈l,0<=m/\m<=255):Tt (λy=>Rg y.1/\y.2.1.length<=1048576) (II x):=by
 unfold II OW;refine .bind (Q:=λy=>Rg y.1/\y.2.1.length<=1048576) (.dn (aa9 h hl hb) λc1 _ h1 _=> .dn (ZB h1) λc2 y h2 hy=> .ip rfl (.bind (Q:=λz=>Rg z.1) ?_ λz hz=> .dn (Xg h2 (by decide) (by decide)) λc4 e h4 he=> .ip rfl (.ret ⟨hz,?_⟩))) λy hy=> .ret hy
 ·have hy5:y.1.length=5:=hy.1;obtain⟨z,z1,_⟩:=aa8 y.1 (by omega);exact⟨z,z1,ab2 y.1 (by omega) hy.2 z z1⟩
 ·have he:e.1.length<=200:=he;show e.1.length<=1048576;omega
end
end
section
section
variable [dE]
theorem UV(x:Hd)(l:List Int)(h:kO x=some l)(hl:l.length<=maxLen)(hb: ∀m∈l,0<=m/\m<=255):JG x=some (true,()):=by
 refine Tt.tru ?_;unfold JG;refine .bind (Q:=T1) (by unfold XU;exact .ret trivial) λ_ _=> .br (λ_=> .ret rfl) λ_=> .bind (Xf h hl hb) λa ha=> .bind (ab4 ha.1 a.2.1 ha.2) λr hr=> ?_;obtain⟨y,n,s1,i1,oky,_⟩:=XL r.1 hr.ok;rw[i1,ao,Ef];refine .br (λh0=> ?_) λ_=> .ret rfl;obtain⟨hv,c,M,lg,ac⟩:=TF r.1 hr.ok _ s1 (eq_of_beq h0);obtain⟨G,H,hh⟩:=hr.hist;obtain⟨sh,_,_⟩:=SM hr.ok hv hh c.primary _ ac.source rfl;obtain⟨c3,cv,ce,ca,hm,hat,m4,m6⟩:=ac.cfg hr.ok hv;have vc:=Es hr.ok hv;obtain⟨c',d',e1,e2,_⟩:=P4 y oky
 have hla:Ej y.master=some (c,true,()):=by unfold Ej;rw[show y.master.activated=c.epoch by rw[ac.master],hat];rfl
 rw[hla] at e1;simp only[af,au,and_true] at e1;obtain⟨rfl,rfl⟩:=e1;rw[e2,ao,Ef];refine .br (λ_=> ?_) λh=>by cases h
 have hlen:y.servers.length=5:=ac.len.trans vc.len;rw[Ef];refine .br (λ_=> ?_) λh=>absurd (show ((y.servers.length:Int)==5)=true by rw[hlen];rfl) (by rw[show ((y.servers.length:Int)==5)=false from h];decide);obtain⟨a1,_,cp,_⟩:=Fm c3 cv;have hp:=KY a1 _ cp;refine .br (λh=>absurd (of_decide_eq_true h) (by show ¬c.primary<0;omega)) λ_=> .br (λh=>absurd (of_decide_eq_true h) (by show ¬c.primary≥5;omega)) λ_=> .ip (by show 0<=c.primary/\c.primary< (y.servers.length:Int);omega) ?_;obtain⟨s0,t,k,_,_,_,n1,ht,hI⟩:=ac.mem c.primary ((m6 _).2 (.inl cp))
 have htl:t.log=lg:=by obtain⟨k',k1,_,_,k4⟩:=Nm c c.primary c3 cv;obtain rfl:k'=k:=(Prod.mk.inj (Option.some.inj (k1.symm.trans n1))).1;rw[hI.log,if_neg λh3=>k4 h3 rfl]
 show Tt _ ((y.servers[c.primary.toNat]?).bind _);rw[ht,ao];obtain⟨S,_,_,_,_,_,q1,_,_,_,_,_,_,_,q5,_⟩:=SN r.1 hr.ok c.primary;obtain⟨o,d,o1,_,o3,o4,o5,o6⟩:=Hs r.1 hr.ok hv;have hS:=YV hr.ok o1 o3.1 c.primary _ q1;have hmS:S.length<=maxLen:=by unfold maxLen;omega
 show Tt _ ((Fn r.1 c.primary).bind _);rw[q1,ao];refine .bind (.count (B:=Ir) (E:=Sum.elim (λ_=>False) λ_=>True) S.length (λk (_:Unit)=>(((),(c.primary.toNat,0,t.log.length),(),(k:Int),()),(fc r.1,()),y.servers,S,r.1.servers,r.1.sides,r.1.master.configs,r.1.places,())) (λ_ _=>True) (λ_ _=> .end (DM _) (.ret trivial)) (λk _ hk _=> ?_) () trivial) λe he=> ?_
 ·refine .go (DI.2 hk) (.ip ⟨DH k,DI.2 hk⟩ (.get (tn hk) λz _ hz=> ?_));obtain⟨z1,s,s1',_,s3,_⟩:=hS z hz
  have hd:d=true:=by
   cases d with
   |true=>rfl
   |false=>rw[o6 rfl] at z1;cases z1
  subst hd;obtain⟨ov,oe⟩:=o5 rfl;have hzr:=KY (Fm o3 ov).1 z z1;have hsc:s.config=o:=ZU hr.ok hv o1 s1' s3;have hpf:=YE hr.ok hv hh s1' (by rw[hsc,DT hzr.1];exact z1);obtain⟨sv,oks⟩:=KD hr.ok hv s1';have hcm:=(Qi s z oks (by have:=sv.val;rw[DT hzr.1] at this;exact this)).1
  have hcl: (KE s).length<=maxLen:=by
   have:=hpf.len;have:=sh.len;have:=oks.2.1;unfold KE;split
   ·rw[cP];unfold maxLen;omega
   ·exact bM _
  refine .ip (by show 0<=z/\z< (r.1.servers.length:Int);rw[vc.len];exact hzr) ?_;dsimp only;simp only[s1',ht,ao,cE,DP];refine .ip (D9 (aP _)) (.ip (D9 (aP _)) (.ip (D9 (aP _)) (.ip (D9 (aP _)) ?_)));rw[show EB _=_ from hcm,ao];refine .ip (D9 (aP _)) ?_;rw[Zl (b:=t.log) hcl λi e hi=>by rw[htl];exact sh i e (hpf i e hi)];exact .ret ⟨(),by rw[BI hmS hk],trivial⟩
 ·cases e with
  |inl e=>exact he.elim
  |inr e=>exact .ret rfl
end
end
end Go.Proofs.YtkghndikalnipacGreat.En
