/- Clients and replication: spec and impl tell the same. -/
import Derived.Test.YtjnleglhcppgcaaGreatZPMach
import Derived.Test.YtjnleglhcppgcaaGreatZPInst
import Derived.Test.YtjnleglhcppgcaaGreatZPActv
namespace Go.Proofs.YtjnleglhcppgcaaGreat.En
open Go
theorem CQ (x:eg) (ok:gX 1048576 x) (id:Int): ∃b,jT x id=some (b,())/\fA x id=some (b,())/\(b=true->eA x=some (true,())/\0<=id/\id<5/\ ∀s,x.servers[id.toNat]? =some s->gT s id=some (true,())):=by
 obtain⟨v,v1,v2⟩:=iu x ok;cases v with
 |false=>
  refine⟨false,?_,?_,nofun⟩
  ·unfold jT; simp only[v1,ae,eB]
  ·unfold fA fq; simp only[v2,ae,eB]
 |true=>
  cases hw:je id 0 4 with
  |false=>
   refine⟨false,?_,?_,nofun⟩
   ·unfold jT; simp only[v1,kg,hw,ae,en,eB]
   ·unfold fA fq; simp only[v2,mG,hw,ae,en,eB]
  |true=>
   have hid:=fK.1 hw;obtain⟨s,s1,s2,s3⟩:=ow ok (jc ok v1) (a:=id) (by omega);obtain⟨b,b1,b2⟩:=wR s id s2;refine⟨b,?_,?_,fun hb=>⟨v1,hid.1,by omega,fun s' hs=> ?_⟩⟩
   ·unfold jT; simp only[v1,kg,hw,ae,en,ek,if_pos hid.1,s1,b1]
   ·unfold fA fq; simp only[v2,mG,hw,ae,en,ek,if_pos hid.1,s1,b2]
   ·rw[s1] at hs;obtain rfl:=Option.some.inj hs;rw[b1,hb]
theorem V6 {c:ej} {id:Int} (h:iH maxLen c) (hr:jv c id=some (1,())):eL c=some (true,())/\id=c.primary:=by
 obtain⟨v,v1,v2⟩:=my c h;unfold jv at hr;simp only[v1,ae,(fH c.replicas id h.1).1,(fH c.witnesses id h.2).1,fi,gP] at hr;cases v with
 |false=>simp only[eB] at hr;simp at hr
 |true=>
  refine⟨v1,?_⟩;by_cases he:id=c.primary
  ·exact he
  ·simp only[en,if_neg he] at hr;cases h1:decide (id∈c.replicas)<;>cases h2:decide (id∈c.witnesses)<;>rw[h1,h2] at hr<;>simp[en,eB] at hr
theorem JG {s:eo} {id:Int} (ok:iZ 1048576 s) (h:gT s id=some (true,())):eL s.config=some (true,())/\id=s.config.primary:=by
 obtain⟨v,v1,v2⟩:=sj s id ok;obtain⟨n,n1,n2,_⟩:=Jv s.config id (fY ok.1);unfold gT at h;simp only[v1,n1,ae,gP] at h;cases v with
 |false=>simp[eB] at h
 |true=>
  cases hu:s.up with
  |false=>rw[hu] at h; simp[en,eB] at h
  |true=>
   rw[hu] at h;simp only[en] at h;by_cases hn:n=1
   ·subst hn;exact V6 (fY ok.1) n1
   ·rw[if_neg hn] at h;simp at h
theorem U1 (c:ej) (y:Int) (h:iH maxLen c) (hv:eL c=some (true,())): ∃n,jv c y=some (n,())/\nQ c y=some (n,())/\(n=0↔ ¬ (y∈c.replicas\/y∈c.witnesses))/\(n=3->y≠c.primary):=by
 obtain⟨v,v1,v2⟩:=my c h;rw[hv] at v1;simp only[af,an,and_true] at v1;subst v1;have hp:=(sk h hv).2.2.1;unfold jv nQ;simp only[hv,v2,ae,(fH c.replicas y h.1).1,(fH c.replicas y h.1).2,(fH c.witnesses y h.2).1,(fH c.witnesses y h.2).2,fi,gP,en,ei];by_cases he:y=c.primary
 ·simp only[if_pos he];exact⟨1,rfl,rfl,⟨fun h=>(by cases h),fun h=>absurd (.inl (he ▸ hp)) h⟩,fun h=>(by cases h)⟩
 ·simp only[if_neg he];by_cases h1:y∈c.replicas
  ·simp only[if_pos h1];exact⟨2,rfl,rfl,⟨fun h=>(by cases h),fun h=>absurd (.inl h1) h⟩,fun h=>(by cases h)⟩
  ·simp only[if_neg h1];by_cases h2:y∈c.witnesses
   ·simp only[if_pos h2];exact⟨3,rfl,rfl,⟨fun h=>(by cases h),fun h=>absurd (.inr h2) h⟩,fun _=>he⟩
   ·simp only[if_neg h2];exact⟨0,rfl,rfl,⟨fun _ h=>h.elim h1 h2,fun _=>rfl⟩,fun h=>(by cases h)⟩
theorem RK (l:List eu) (hl:l.length<=1048576) (hv:iM l=some (true,())):yc l=some (((jI l:Nat):Int),l.drop (jI l),()):=by
 unfold yc zk;have hc:jI l<=l.length:=by unfold jI; omega
 have c1: (0:Int)<=((jI l:Nat):Int)/\((jI l:Nat):Int)<=(l.length:Int)/\(l.length:Int)<=(l.length:Int):=by omega
 have ht: ((l.drop (jI l)).take (l.length-jI l))=l.drop (jI l):=bh (by simp);simp only[hv,ae,aY,eB,Nd l hl,ek,if_pos c1,ap,ht,(ot (l.drop (jI l)) (by simp; omega)).1]
theorem Oe {x:eg} (ok:gX 1048576 x) {k:Nat} {t:eo} (ht:iZ 1048576 t):gX 1048576 (fJ x (x.servers.set k t)):=by
 refine⟨⟨by rw[cZ]; exact ok.1.1,fun s hs=> ?_⟩,ok.2⟩;rcases cx hs with h|rfl
 ·exact ok.1.2 s h
 ·exact ht
theorem U2 {l:List eu} (hl:l.length<=1048576) (h:iM l=some (true,())):ln l=some (true,()):=by
 rcases uF l (ff hl) with ⟨_,g2,_⟩| ⟨g1,_⟩
 ·exact g2
 ·rw[g1] at h;simp at h
theorem push (x:eg) (ok:gX 1048576 x) (id m:Int): ∃S b,ir x id m=some (fJ x S,b,())/\it x id m=some (fJ x S,b,())/\gX 1048576 (fJ x S)/\S.length=x.servers.length/\(∀s,x.servers[id.toNat]? =some s-> ∃s',S[id.toNat]? =some s'/\s'.log=s.log):=by
 obtain⟨c1,c2⟩:=pu x ok;obtain⟨p,p1,p2,p3⟩:=CQ x ok id
 have out: ∀ {A B:Option (eg×Bool×Unit)},A=some (x,false,())->B=some (x,false,())-> ∃S b,A=some (fJ x S,b,())/\B=some (fJ x S,b,())/\gX 1048576 (fJ x S)/\S.length=x.servers.length/\(∀s,x.servers[id.toNat]? =some s-> ∃s',S[id.toNat]? =some s'/\s'.log=s.log):=
  fun h1 h2=>⟨x.servers,false,h1,h2,ok,rfl,fun s hs=>⟨s,hs,rfl⟩⟩
 cases p with
 |false=>
  refine out ?_ ?_
  ·unfold ir; simp only[c1,p1,ae,bT,en]
  ·unfold it; simp only[c2,p2,ae,bT,en]
 |true=>
  obtain⟨hv,h0,h5,hP⟩:=p3 rfl;have vc:=jc ok hv;obtain⟨s,s1,s2,s3⟩:=ow ok vc ⟨h0,h5⟩;obtain⟨cv,cp⟩:=JG s2 (hP s s1);obtain⟨l,l1,l2,l3,l4,_,l6⟩:=tC s.config (fY s2.1);obtain⟨n,n1,n2,n3,n4⟩:=U1 s.config m (fY s2.1) cv;have hm:=(fH l m (by unfold maxLen; omega)).1;by_cases hml:m∈l
  ·have hn0: ¬n=0:=fun h=>n3.1 h ((l6 cv m).1 hml);have rng:=l4 m hml;obtain⟨e1,e2⟩:=T0 x ok vc ⟨h0,h5⟩ rng;cases hh:FZ x id m with
   |false=>
    rw[hh] at e1 e2;refine out ?_ ?_
    ·unfold ir; simp only[c1,p1,s1,l1,hm,e1,decide_eq_true hml,ek,if_pos h0,ae,bT,aY,en,eB]
    ·unfold it; simp only[c2,p2,s1,n2,e2,gP,if_neg hn0,ek,if_pos h0,ae,bT,aY,en,eB]
   |true=>
    rw[hh] at e1 e2;obtain⟨t,t1,t2,t3⟩:=ow ok vc rng;have hlt:m.toNat<x.servers.length:=by rw[vc.len]; omega
    have cc:0<=m/\m< (x.servers.length:Int):=by rw[vc.len]; omega
    have hl:=s2.2.1;have hL:=(yE s2 s3).2.2.2.2.2.1;obtain⟨g1,g2⟩:=wP s s2;obtain⟨k1,k2⟩:=ot s.log hl;by_cases h3:n=3
    ·have hne:m.toNat≠id.toNat:=by
      have:=n4 h3;rw[<-cp] at this;omega
     refine⟨x.servers.set m.toNat ⟨t.up,t.intact,t.version,t.epoch,t.config,((jI s.log:Nat):Int),s.log.drop (jI s.log),t.commit,t.learned⟩,true,?_,?_,Oe ok ⟨t2.1,by simp only[bO]; omega,t2.2.2⟩,by rw[cZ],fun s' hs'=>⟨s',by rw[cJ hne]; exact hs',rfl⟩⟩
     ·unfold ir; simp only[c1,p1,s1,l1,hm,e1,n1,t1,decide_eq_true hml,ek,if_pos h0,if_pos cc,gP,if_pos h3,RK s.log hl hL,cD hlt,dV,ae,aY,eB]
     ·unfold it; simp only[c2,p2,s1,n2,e2,t1,g2,gP,if_neg hn0,ek,if_pos h0,if_pos cc,if_pos h3,Oc s.log hl (U2 hl hL),cD hlt,dV,ae,aY,eB]
    ·refine⟨x.servers.set m.toNat ⟨t.up,t.intact,t.version,t.epoch,t.config,t.first,s.log,t.commit,t.learned⟩,true,?_,?_,Oe ok ⟨t2.1,hl,t2.2.2⟩,by rw[cZ],fun s' hs'=> ?_⟩
     ·unfold ir; simp only[c1,p1,s1,l1,hm,e1,n1,t1,k1,decide_eq_true hml,ek,if_pos h0,if_pos cc,gP,if_neg h3,ae,aY,eB]
     ·unfold it; simp only[c2,p2,s1,n2,e2,t1,g2,gP,if_neg hn0,ek,if_pos h0,if_pos cc,if_neg h3,ae,aY,eB]
     ·rw[s1] at hs';obtain rfl:=Option.some.inj hs';by_cases he:m.toNat=id.toNat
      ·refine⟨_,by rw[<-he]; exact cD hlt,?_⟩;rfl
      ·exact⟨s,by rw[cJ he]; exact s1,rfl⟩
  ·have hn0:n=0:=n3.2 (fun h=>hml ((l6 cv m).2 h));refine out ?_ ?_
   ·unfold ir; simp only[c1,p1,s1,l1,hm,decide_eq_false hml,ek,if_pos h0,ae,bT,aY,en,eB]
   ·unfold it; simp only[c2,p2,s1,n2,gP,if_pos hn0,ek,if_pos h0,ae,aY,eB]
theorem LN (x:eg) (ok:gX 1048576 x) (id:Int): ∃n,ne x id=some (n,())/\nu x id=some (n,()):=by
 obtain⟨p,p1,p2,p3⟩:=CQ x ok id;cases p with
 |false=>
  refine⟨0,?_,?_⟩
  ·unfold ne; simp only[p1,ae,bT,en]
  ·unfold nu; simp only[p2,ae,bT,en]
 |true=>
  obtain⟨hv,h0,h5,_⟩:=p3 rfl;have vc:=jc ok hv;obtain⟨s,s1,s2,s3⟩:=ow ok vc ⟨h0,h5⟩;obtain⟨l,l1,l2,l3,l4,_,_⟩:=tC s.config (fY s2.1);have lm:l.length<=maxLen:=by unfold maxLen; omega
  obtain⟨n,_,k1,k2⟩:=pc (B1:=kN) (B2:=kZ) l.length (fun k (b:Int)=>(((),b,(),(k:Int),()),(fx x,()),l,())) (fun k b=>(((),b,(),(l.length:Int),(k:Int),()),(fx x,()),l,())) (fun _ _=>True) (fun b=>((b,()),(),())) (fun b=>((b,()),(),()))
   (fun b _=>by simp only[kN,kZ,ei];exact⟨if_neg (by omega),if_neg (by omega)⟩)
   (fun k b hk _=>by
     have c1: (k:Int)< (l.length:Int):=by omega
     have c2: (0:Int)<=(k:Int)/\(k:Int)< (l.length:Int):=by omega
     have hz:=l4 _ (aV hk);obtain⟨t,t1,_,_⟩:=ow ok vc hz;refine⟨if t.version<b then t.version else b,?_⟩;simp only[kN,kZ,fx,ei,ek,if_pos c1,if_pos c2,ap,ah hk,ae,if_pos hz.1,t1,ey lm hk];exact⟨trivial,trivial,trivial⟩)
   2 trivial
  refine⟨n,?_,?_⟩
  ·unfold ne;simp only[p1,s1,l1,ek,if_pos h0,ae,aY,eB];rw[show xb (((),2,(),0,()),(fx x,()),l,())=_ from k1];rfl
  ·unfold nu;simp only[p2,s1,l2,ek,if_pos h0,ae,aY,eB];rw[show xt (((),2,(),(l.length:Int),0,()),(fx x,()),l,())=_ from k2];rfl
theorem RL (x:eg) (ok:gX 1048576 x) (id:Int) (o:Op): ∃S c,lh x id o=some (fJ x S,c,())/\lr x id o=some (fJ x S,c,())/\gX 1048576 (fJ x S)/\S.length=x.servers.length/\(c=0->0<=id/\id<5/\x.servers.length=5):=by
 obtain⟨c1,c2⟩:=pu x ok;obtain⟨v,v1,v2⟩:=iu x ok
 have out: ∀ {A B:Option (eg×Int×Unit)} (c:Int),A=some (x,c,())->B=some (x,c,())->(c=0->0<=id/\id<5/\x.servers.length=5)-> ∃S c,A=some (fJ x S,c,())/\B=some (fJ x S,c,())/\gX 1048576 (fJ x S)/\S.length=x.servers.length/\(c=0->0<=id/\id<5/\x.servers.length=5):=
  fun c h1 h2 h3=>⟨x.servers,c,h1,h2,ok,rfl,h3⟩
 unfold lh lr fA fq;cases v with
 |false=>simp only[c1,c2,v1,v2,ae,eB,bT,en];exact out 1 rfl rfl nofun
 |true=>
  cases hw:je id 0 4 with
  |false=>simp only[c1,c2,v1,v2,kg,mG,hw,ae,eB,bT,aY,en];exact out 1 rfl rfl nofun
  |true=>
   have hid:=fK.1 hw;have vc:=jc ok v1;obtain⟨s,s1,s2,s3⟩:=ow ok vc (a:=id) (by omega);have fin:0<=id/\id<5/\x.servers.length=5:=⟨hid.1,by omega,vc.len⟩
   obtain⟨b,b1,b2⟩:=Ea o;obtain⟨p,p1,p2⟩:=wR s id s2;have hlog:s.log.length<=16:=(yE s2 s3).2.2.1;obtain⟨n,n1,n2,n3⟩:=V5 s.log o.client o.seq (ff s2.2.1);simp only[c1,c2,v1,v2,kg,mG,hw,b1,b2,s1,p1,p2,n1,n2,ek,if_pos hid.1,ae,aY,eB,en];cases b with
   |false=>exact out 1 rfl rfl nofun
   |true=>
   cases s.up with
   |false=>exact out 2 rfl rfl nofun
   |true=>
   cases p with
   |false=>exact out 3 rfl rfl nofun
   |true=>
   simp only[aY,eB,ei];by_cases hn:n≥0
   ·have hlt:n.toNat<s.log.length:=by omega
    have hn0:0<=n:=hn;simp only[if_pos hn,if_pos hn0,ah hlt,ae];cases (!((s.log[n.toNat].op.client==o.client)&&((s.log[n.toNat].op.seq==o.seq)&&((s.log[n.toNat].op.kind==o.kind)&&((s.log[n.toNat].op.object==o.object)&&((s.log[n.toNat].op.old==o.old)&&((s.log[n.toNat].op.value==o.value)&&true))))))) with
    |true=>exact out 11 rfl rfl nofun
    |false=>exact out 0 rfl rfl (fun _=>fin)
   ·obtain⟨m,mb,m1,m2,m3,m4,_⟩:=HU s.log (ff s2.2.1);obtain⟨m',r,ab,a1,a2,_⟩:=JF m o (by omega) (by omega);simp only[if_neg hn,m1,m2,a1,a2,ae];cases ab with
    |false=>exact out 11 rfl rfl nofun
    |true=>
    obtain⟨g,g1,g2⟩:=LN x ok id;have cc:0<=id/\id< (x.servers.length:Int):=by rw[vc.len]; omega
    have h56: (s.log++ [(⟨s.epoch,o⟩:eu)]).length*56<=2 ^ 40:=by rw[aQ,bX];omega
    have hlt: ¬s.log.length<s.log.length:=dB _
    have tail: ∀c:Bool,∃S k,(br c (some (x,5,())) (if 0<=id/\id< (x.servers.length:Int) then (if (s.log++ [(⟨s.epoch,o⟩:eu)]).length*56<=2 ^ 40 then (if 0<=id/\id< (x.servers.length:Int) then some (fJ x (x.servers.set id.toNat ⟨true,s.intact,s.version,s.epoch,s.config,s.first,s.log++ [(⟨s.epoch,o⟩:eu)],s.commit,s.learned⟩),(0:Int),()) else none) else none) else none))=some (fJ x S,k,())/\gX 1048576 (fJ x S)/\S.length=x.servers.length:=by
     intro c;cases c with
     |true=>exact⟨x.servers,5,rfl,ok,rfl⟩
     |false=>rw[eB,if_pos cc,if_pos h56,if_pos cc];exact⟨_,0,rfl,Oe ok ⟨s2.1,by rw[aQ,bX]; omega,s2.2.2⟩,by rw[cZ]⟩
    obtain⟨S,k,t1,t2,t3⟩:=tail ((s.log.length:Int)==16);simp only[m0,nn,ae,g1,g2,s1,ek,if_neg hlt,be,eq_self,if_true,aY,eB,ei];cases hk: (o.kind==2) with
    |true=>
     simp only[en];by_cases hg:g<2
     ·simp only[if_pos hg];exact out 6 rfl rfl nofun
     ·simp only[if_neg hg];exact⟨S,k,t1,t1,t2,t3,fun _=>fin⟩
    |false=>simp only[eB];exact⟨S,k,t1,t1,t2,t3,fun _=>fin⟩
theorem Hi (x:eg) (ok:gX 1048576 x) (id:Int): ∃S b,jL x id=some (fJ x S,b,())/\jN x id=some (fJ x S,b,())/\gX 1048576 (fJ x S)/\S.length=x.servers.length:=by
 obtain⟨c1,c2⟩:=pu x ok;obtain⟨p,p1,p2,p3⟩:=CQ x ok id;cases p with
 |false=>
  refine⟨x.servers,false,?_,?_,ok,rfl⟩
  ·unfold jL; simp only[c1,p1,ae,bT,en]
  ·unfold jN; simp only[c2,p2,ae,bT,en]
 |true=>
  obtain⟨hv,h0,h5,_⟩:=p3 rfl;have vc:=jc ok hv;obtain⟨s,s1,s2,s3⟩:=ow ok vc ⟨h0,h5⟩;obtain⟨l,l1,l2,l3,l4,_,_⟩:=tC s.config (fY s2.1);have lm:l.length<=maxLen:=by unfold maxLen; omega
  obtain⟨⟨S,b⟩,⟨j1,j2,j3⟩,k1,k2⟩:=pc (B1:=jA) (B2:=jH) (β:=List eo×Bool) l.length
   (fun k b=>((id,(),(),(),b.2,(k:Int),()),(z0,fy x,()),l,b.1,x.sides,x.master.configs,x.places,()))
   (fun k b=>((id,(),(),(),(),b.2,(),(l.length:Int),(k:Int),()),(fx x,z0,fy x,()),l,b.1,x.sides,x.master.configs,x.places,()))
   (fun _ b=>gX 1048576 (fJ x b.1)/\b.1.length=5/\ ∃s',b.1[id.toNat]? =some s'/\s'.log=s.log)
   (fun b=>((id,(),(),(),b.2,()),(z0,fy x,()),l,b.1,x.sides,x.master.configs,x.places,()))
   (fun b=>((id,(),(),(),(),b.2,()),(fx x,z0,fy x,()),l,b.1,x.sides,x.master.configs,x.places,()))
   (fun b _=>by simp only[jA,jH,ei];exact⟨if_neg (by omega),if_neg (by omega)⟩)
   (fun k b hk hj=>by
     have c1: (k:Int)< (l.length:Int):=by omega
     have c2: (0:Int)<=(k:Int)/\(k:Int)< (l.length:Int):=by omega
     obtain⟨S,r,q1,q2,q3,q4,q5⟩:=push (fJ x b.1) hj.1 id l[k];obtain⟨s',s4,s5⟩:=hj.2.2;obtain⟨s'',s6,s7⟩:=q5 s' s4;refine⟨(S,bif b.2 then r else false),?_⟩;have q1':ir (⟨x.now,b.1,x.sides,⟨x.master.configs,x.master.activated⟩,x.masterUp,⟨x.lease.epoch,x.lease.holder,x.lease.ends⟩,x.places⟩:eg) id l[k] =some (fJ x S,r,()):=q1;have q2':it (⟨x.now,b.1,x.sides,⟨x.master.configs,x.master.activated⟩,x.masterUp,⟨x.lease.epoch,x.lease.holder,x.lease.ends⟩,x.places⟩:eg) id l[k] =some (fJ x S,r,()):=q2;simp only[jA,jH,fx,fy,z0,ei,ek,if_pos c1,if_pos c2,ap,ah hk,ae,q1',q2',ey lm hk];refine⟨?_,?_,q3,q4.trans hj.2.1,s'',s6,s7.trans s5⟩
     ·cases b.2<;>rfl
     ·cases b.2<;>rfl)
   (x.servers,true) ⟨ok,vc.len,s,s1,rfl⟩
  unfold jL jN;simp only[c1,c2,p1,p2,s1,l1,l2,ek,if_pos h0,ae,aY,eB];rw[show uW ((id,(),(),(),true,0,()),(z0,fy x,()),l,x.servers,x.sides,x.master.configs,x.places,())=_ from k1,show u4 ((id,(),(),(),(),true,(),(l.length:Int),0,()),(fx x,z0,fy x,()),l,x.servers,x.sides,x.master.configs,x.places,())=_ from k2];simp only[ae];cases b with
  |false=>
   have e:pj ((id,(),(),(),false,0,()),(z0,fy x,()),l,S,x.sides,x.master.configs,x.places,())=some (((),(),false,()),(z0,fy x,()),S,x.sides,x.master.configs,x.places,()):=by refine gC ?_;simp only[iy,eB,ei];split<;>rfl
   rw[e];exact⟨S,false,rfl,rfl,j1,j2.trans vc.len.symm⟩
  |true=>
   obtain⟨U,⟨u1,u2,_⟩,e1,e2⟩:=pc (B1:=iy) (B2:=jo) (β:=List eo) l.length
    (fun k b=>((id,(),(),(),true,(k:Int),()),(z0,fy x,()),l,b,x.sides,x.master.configs,x.places,()))
    (fun k b=>((id,(),(),(),true,(),(l.length:Int),(k:Int),()),(fx x,z0,fy x,()),l,b,x.sides,x.master.configs,x.places,()))
    (fun _ b=>gX 1048576 (fJ x b)/\b.length=5/\ ∃s',b[id.toNat]? =some s'/\s'.log=s.log)
    (fun b=>(((),(),true,()),(z0,fy x,()),b,x.sides,x.master.configs,x.places,()))
    (fun b=>(((),(),true,()),(z0,fy x,()),b,x.sides,x.master.configs,x.places,()))
    (fun b _=>by simp only[iy,jo,ei];exact⟨if_neg (by omega),if_neg (by omega)⟩)
    (fun k b hk hj=>by
      have c1: (k:Int)< (l.length:Int):=by omega
      have c2: (0:Int)<=(k:Int)/\(k:Int)< (l.length:Int):=by omega
      have hz:=l4 _ (aV hk);have c3:0<=id/\id< (b.length:Int):=by rw[hj.2.1]; omega
      have c4:0<=l[k] /\l[k]< (b.length:Int):=by rw[hj.2.1]; omega
      obtain⟨s',s4,s5⟩:=hj.2.2;have hlt:l[k].toNat<b.length:=by rw[hj.2.1]; omega
      have hs1:x.servers[id.toNat]? =some s:=s1;refine⟨b.set l[k].toNat ⟨b[l[k].toNat].up,b[l[k].toNat].intact,b[l[k].toNat].version,b[l[k].toNat].epoch,b[l[k].toNat].config,b[l[k].toNat].first,b[l[k].toNat].log,(s.log.length:Int),b[l[k].toNat].learned⟩,?_⟩;have okk:=hj.1.1.2 _ (aV hlt);simp only[iy,jo,fx,ei,en,ek,if_pos c1,if_pos c2,if_pos c3,if_pos c4,if_pos h0,ap,ah hk,ae,s4,s5,hs1,ah hlt,ey lm hk];refine⟨trivial,trivial,Oe (x:=fJ x b) hj.1 okk,by rw[cZ]; exact hj.2.1,?_⟩;by_cases he:l[k].toNat=id.toNat
      ·refine⟨_,by rw[<-he]; exact cD hlt,?_⟩;show b[l[k].toNat].log=s.log;rw[ah (show id.toNat<b.length by omega)] at s4;have:=Option.some.inj s4;rw[<-s5,<-this]
       congr 2
      ·exact⟨s',by rw[cJ he]; exact s4,s5⟩)
    S ⟨j1,j2,j3⟩
   simp only[en];rw[show pj ((id,(),(),(),true,0,()),(z0,fy x,()),l,S,x.sides,x.master.configs,x.places,())=_ from e1,show uz ((id,(),(),(),true,(),(l.length:Int),0,()),(fx x,z0,fy x,()),l,S,x.sides,x.master.configs,x.places,())=_ from e2];exact⟨U,true,rfl,rfl,u1,u2.trans vc.len.symm⟩
theorem RM (x:eg) (ok:gX 1048576 x) (id:Int) (o:Op): ∃S r,uh x id o=some (fJ x S,r,())/\uA x id o=some (fJ x S,r,())/\gX 1048576 (fJ x S):=by
 obtain⟨S,c,a1,a2,a3,a4,a5⟩:=RL x ok id o;unfold uh uA;simp only[a1,a2,ae,fi,gP];by_cases hc:c=0
 ·subst hc;obtain⟨h0,h5,hl⟩:=a5 rfl;have cS:0<=id/\id< (S.length:Int):=by rw[a4,hl]; omega
  have hlt:id.toNat<S.length:=by omega
  have okk:=a3.1.2 _ (aV hlt);have take: ∀m:List eu,(m.drop 0).take m.length=m:=fun m=>by rw[bJ,be]
  have hle: ∀m:List eu,(0+m.length<=m.length)=True:=fun m=>eq_true (by omega);obtain⟨n,n1,n2,_⟩:=V5 S[id.toNat].log o.client o.seq (ff okk.2.1)
  have fin: ∀ (T:List eo) (hT:T.length=S.length) (okT:gX 1048576 (fJ x T)),∃r:Result,(eh (0<=id/\id< (T.length:Int)) ((T[id.toNat]?).bind fun x23=>(T[id.toNat]?).bind fun x24=>eh (0+x23.log.length<=x24.log.length) ((pk ((x24.log.drop 0).take x23.log.length) n).bind fun y25=>some (fJ x T,(⟨0,y25.1,n⟩:tM),())) none) none)=some (fJ x T,⟨0,r,n⟩,())/\
    (eh (0<=id/\id< (T.length:Int)) ((T[id.toNat]?).bind fun x23=>(T[id.toNat]?).bind fun x24=>eh (0+x23.log.length<=x24.log.length) ((pq ((x24.log.drop 0).take x23.log.length) n).bind fun y25=>some (fJ x T,(⟨0,y25.1,n⟩:tM),())) none) none)=some (fJ x T,⟨0,r,n⟩,()):=by
   intro T hT okT;have cT:0<=id/\id< (T.length:Int):=by rw[hT]; exact cS
   have hl':id.toNat<T.length:=by omega
   have ok':=okT.1.2 _ (aV hl');obtain⟨r,b,r1,r2,_⟩:=LM T[id.toNat].log n (ff ok'.2.1);refine⟨r,?_⟩;simp only[ek,if_pos cT,ah hl',ae,hle,if_true,take,r1,r2];exact⟨trivial,trivial⟩
  simp only[if_pos,ek,if_pos cS,ah hlt,ae,hle,if_true,take,n1,n2,ei];obtain⟨T,b,t1,t2,t3,t4⟩:=Hi (fJ x S) a3 id;have t1':jL (fJ x S) id=some (fJ x T,b,()):=t1;have t2':jN (fJ x S) id=some (fJ x T,b,()):=t2;by_cases hn:n≥S[id.toNat].commit
  ·simp only[if_pos hn,t1',t2',ae];cases b with
   |false=>exact⟨T,_,rfl,rfl,t3⟩
   |true=>simp only[en];obtain⟨r,r1,r2⟩:=fin T t4 t3;simp only[ek] at r1 r2;exact⟨T,_,r1,r2,t3⟩
  ·obtain⟨r,b',r1,r2,_⟩:=LM S[id.toNat].log n (ff okk.2.1);simp only[if_neg hn,r1,r2,ae];exact⟨S,_,rfl,rfl,a3⟩
 ·simp only[if_neg hc];exact⟨S,_,rfl,rfl,a3⟩
end Go.Proofs.YtjnleglhcppgcaaGreat.En
