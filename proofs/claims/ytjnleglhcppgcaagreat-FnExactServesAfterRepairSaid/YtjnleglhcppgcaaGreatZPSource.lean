/- The log that an activation starts from; a cluster and the same one sealed. -/
import Derived.Test.YtjnleglhcppgcaaGreatZPJoin
import Derived.Test.YtjnleglhcppgcaaGreatZPPlan
import Derived.Test.YtjnleglhcppgcaaGreatZPForce
namespace Go.Proofs.YtjnleglhcppgcaaGreat.En
open Go
abbrev fx (x:eg):Int×List eo×List Int×List ej×Int×Int×Int×Int×Int×List eN×Unit:=(x.now,x.servers,x.sides,x.master.configs,x.master.activated,x.masterUp,x.lease.epoch,x.lease.holder,x.lease.ends,x.places,())
abbrev U5 (s:eo):Bool×Bool×Int×Int×Int×Int×List Int×List Int×Int×List eu×Int×List eu×Unit:=(s.up,s.intact,s.version,s.epoch,s.config.epoch,s.config.primary,s.config.replicas,s.config.witnesses,s.first,s.log,s.commit,s.learned,())
structure RP (x x':eg):Prop where
 sides:x'.sides=x.sides
 master:x'.master=x.master
 srv: ∀ (k:Nat) (s:eo),x.servers[k]? =some s-> ∃e,x'.servers[k]? =some (⟨s.up,s.intact,s.version,e,s.config,s.first,s.log,s.commit,s.learned⟩:eo)
theorem RP.refl (x:eg):RP x x:=⟨rfl,rfl,fun _ s h=>⟨s.epoch,h⟩⟩
theorem RP.side {x x':eg} (h:RP x x') (a:Int):mq x' a=mq x a:=by unfold mq; rw[h.sides]
theorem Rz {x:eg} (ok:gX 1048576 x) (hv:eA x=some (true,())): ∃c d,gg x.master=some (c,d,())/\fI x.master=some (c,d,())/\iH maxLen c/\c.replicas.length<=5/\c.witnesses.length<=5/\(∀z∈c.replicas,0<=z/\z<5)/\(∀z∈c.witnesses,0<=z/\z<5)/\(d=false->c=⟨0,0,[],[]⟩):=by
 obtain⟨c,d,d1,d2,d3,d4,d5,d6⟩:=sE x ok hv
 have rng: ∀ {l:List Int},yB l-> ∀y∈l,0<=y/\y<5:=by intro l ha y hy;obtain⟨k,hk,rfl⟩:=aJ hy;have:=(ha k hk).1;omega
 cases d with
 |false=>exact⟨c,false,d1,d2,d3,by rw[d6 rfl]; simp,by rw[d6 rfl]; simp,by rw[d6 rfl]; simp,by rw[d6 rfl]; simp,d6⟩
 |true=>obtain⟨a1,a2,_⟩:=sk d3 (d5 rfl).1;exact⟨c,true,d1,d2,d3,a1.len,a2.len,rng a1,rng a2,nofun⟩
section
variable {x x':eg} (ok:gX 1048576 x) (ok':gX 1048576 x') (hv:eA x=some (true,())) (hv':eA x'=some (true,())) (se:RP x x') {id:Int} (hid:0<=id/\id<5)
include ok ok' hv hv' se hid
theorem Nf: ∃l,p6 x id=some (l,())/\qp x' id=some (l,())/\l.length<=5/\ ∀z∈l,0<=z/\z<5:=by
 have vc:=jc ok hv;have vc':=jc ok' hv';obtain⟨c,d,d1,d2,d3,r5,_,inr,_,d6⟩:=Rz ok hv;have rm:c.replicas.length<=maxLen:=by unfold maxLen; omega
 have E5:je id 0 4=true:=fK.2 (by omega)
 have hgood:fq x' id=some (true,()):=by obtain⟨v,w1,w2⟩:=iu x' ok';rw[hv'] at w1;simp only[af,an,and_true] at w1;subst w1;unfold fq;simp only[w2,ae,mG,E5,en]
 unfold p6 qp;have d2':fI x'.master=some (c,d,()):=by rw[se.master]; exact d2
 simp only[d1,d2',hgood,ae,fi,en];cases d with
 |false=>
  have hc:=d6 rfl;subst hc
  rw[show ua ((id,(),(),(),false,0,()),(fx x,(0,0,(),(),()),()),([],[],[],()))=some (((),()),(),([],())) from gC (by simp only[kr];rfl)]
  exact⟨[],rfl,rfl,aI _,nofun⟩
 |true=>
  obtain⟨l,q,k1,k2⟩:=pc (B1:=kr) (B2:=md) c.replicas.length (fun k (b:List Int)=>((id,(),(),(),true,(k:Int),()),(fx x,(c.epoch,c.primary,(),(),()),()),(b,c.replicas,c.witnesses,()))) (fun k b=>((id,(),(),(),(),(c.replicas.length:Int),(k:Int),()),(fx x',(c.epoch,c.primary,(),(),()),()),(b,c.replicas,c.witnesses,()))) (fun k b=>b.length<=k/\ ∀z∈b,0<=z/\z<5) (fun b=>(((),()),(),(b,()))) (fun b=>(((),()),(),(b,())))
   (fun b _=>by simp only[kr,md,ei];exact⟨if_neg (by omega),if_neg (by omega)⟩)
   (fun k b hk hb=>by
     have c1: (k:Int)< (c.replicas.length:Int):=by omega
     have c2: (0:Int)<=(k:Int)/\(k:Int)< (c.replicas.length:Int):=by omega
     have hz:=inr _ (aV hk);generalize hzz:c.replicas[k] =z at hz;have hg:c.replicas[k]? =some z:=by rw[<-hzz]; exact ah hk
     obtain⟨s,s1,s2,_⟩:=ow ok vc hz;obtain⟨e,e1⟩:=se.srv _ _ s1;obtain⟨h1,_⟩:=sn x ok vc hid hz;obtain⟨_,h2⟩:=sn x' ok' vc' hid hz;rw[se.side,se.side] at h2;have h40: (b++ [z]).length*8<=2 ^ 40:=kA (by simp; omega)
     simp only[kr,md,rf,fx,ei,en,ek,if_pos c1,if_pos c2,ap,hg,ae,
      show (⟨x.now,x.servers,x.sides,(⟨x.master.configs,x.master.activated⟩:ev),x.masterUp,(⟨x.lease.epoch,x.lease.holder,x.lease.ends⟩:fW),x.places⟩:eg)=x from rfl,hv,kg,E5,if_pos hz.1,s1,e1,h1,h2,if_pos h40,ey rm hk]
     have hb': (b++ [z]).length<=k+1/\ ∀y∈b++ [z],0<=y/\y<5:=⟨by simp; omega,fun y hy=>by
      rcases bc.1 hy with h|h
      ·exact hb.2 y h
      ·rw[az.1 h]; exact hz⟩
     have hb'':b.length<=k+1/\ ∀y∈b,0<=y/\y<5:=⟨by omega,hb.2⟩
     cases s.up<;>cases (s.config.epoch==c.epoch)<;>cases (mq x id==mq x z)<;>simp only[en,eB,ae]<;>first |exact⟨b++ [z],rfl,rfl,hb'⟩|exact⟨b,rfl,rfl,hb''⟩)
   [] ⟨aI _,nofun⟩
  rw[show ua ((id,(),(),(),true,0,()),(fx x,(c.epoch,c.primary,(),(),()),()),([],c.replicas,c.witnesses,()))=_ from k1,
   show yr ((id,(),(),(),(),(c.replicas.length:Int),0,()),(fx x',(c.epoch,c.primary,(),(),()),()),([],c.replicas,c.witnesses,()))=_ from k2]
  exact⟨l,rfl,rfl,by omega,q.2⟩
theorem Ng: ∃n,p7 x id=some (n,())/\qq x' id=some (n,())/\(n= -1\/(0<=n/\n<5)):=by
 have vc:=jc ok hv;obtain⟨l,l1,l2,l3,inl⟩:=Nf ok ok' hv hv' se hid;have lm:l.length<=maxLen:=by unfold maxLen; omega
 obtain⟨n,q,k1,k2⟩:=pc (B1:=lX) (B2:=me) l.length (fun k (b:Int)=>(((),b,(),(k:Int),()),(fx x,()),(l,()))) (fun k b=>(((),b,(),(l.length:Int),(k:Int),()),(fx x',()),(l,()))) (fun _ b=>b= -1\/(0<=b/\b<5)) (fun b=>((b,()),(),())) (fun b=>((b,()),(),()))
  (fun b _=>by simp only[lX,me,ei];exact⟨if_neg (by omega),if_neg (by omega)⟩)
  (fun k b hk hb=>by
    have c1: (k:Int)< (l.length:Int):=by omega
    have c2: (0:Int)<=(k:Int)/\(k:Int)< (l.length:Int):=by omega
    have hz:=inl _ (aV hk);generalize hzz:l[k] =z at hz;have hg:l[k]? =some z:=by rw[<-hzz]; exact ah hk
    obtain⟨s,s1,s2,_⟩:=ow ok vc hz;obtain⟨e,e1⟩:=se.srv _ _ s1;simp only[lX,me,fx,ei,ek,if_pos c1,if_pos c2,ap,hg,ae,if_pos hz.1,s1,e1,ey lm hk];rcases hb with rfl|hb
    ·exact⟨z,rfl,rfl, .inr hz⟩
    ·obtain⟨t,t1,t2,_⟩:=ow ok vc hb;obtain⟨f,f1⟩:=se.srv _ _ t1;simp only[if_neg (show ¬b<0 by omega),if_pos hb.1,t1,f1,ae];by_cases h: (s.log.length:Int)>(t.log.length:Int)
     ·simp only[if_pos h];exact⟨z,rfl,rfl, .inr hz⟩
     ·simp only[if_neg h];exact⟨b,rfl,rfl, .inr hb⟩)
  (-1) (.inl rfl)
 unfold p7 qq;simp only[l1,l2,ae];rw[show xZ (((),(-1),(),0,()),(fx x,()),(l,()))=_ from k1,show yu (((),(-1),(),(l.length:Int),0,()),(fx x',()),(l,()))=_ from k2];exact⟨n,rfl,rfl,q⟩
omit ok hv se in
theorem RA:fq x' id=some (true,()):=by obtain⟨v,w1,w2⟩:=iu x' ok';rw[hv'] at w1;simp only[af,an,and_true] at w1;subst w1;unfold fq;simp only[w2,ae,mG,fK.2 (show 0<=id/\id<=4 by omega),en]
theorem JD {c:ej} {w w':eo} {z j:Int} (hw:iZ 1048576 w) (h1:w'.first=w.first) (h2:w'.log=w.log) (b:List eu×Bool) (hb:b.1.length<=19/\(b.2=false->b.1= [])): ∃r:List eu×Bool,(r.1.length<=19/\(r.2=false->r.1= []))/\
  w8 ((id,(),(),b.2,(),true,j,(),0,()),(fx x,(c.epoch,c.primary,(),(),()),U5 w,()),(b.1,c.replicas,c.witnesses,()))=some ((id,(),(),r.2,(),true,j,()),(fx x,(c.epoch,c.primary,(),(),()),()),(r.1,c.replicas,c.witnesses,()))/\
  xp ((id,(),(),(),b.2,(),(),z,j,x'.servers,(x'.servers.length:Int),0,()),(fx x',(c.epoch,c.primary,(),(),()),U5 w',()),(b.1,c.witnesses,c.replicas,()))=some ((id,(),(),(),r.2,(),z,j,()),(fx x',(c.epoch,c.primary,(),(),()),()),(r.1,c.witnesses,c.replicas,())):=by
 have vc:=jc ok hv;have vc':=jc ok' hv'
 refine pc (B1:=kM) (B2:=kY) 5 (fun k (b:List eu×Bool)=>((id,(),(),b.2,(),true,j,(),(k:Int),()),(fx x,(c.epoch,c.primary,(),(),()),U5 w,()),(b.1,c.replicas,c.witnesses,()))) (fun k b=>((id,(),(),(),b.2,(),(),z,j,x'.servers,(x'.servers.length:Int),(k:Int),()),(fx x',(c.epoch,c.primary,(),(),()),U5 w',()),(b.1,c.witnesses,c.replicas,()))) (fun _ b=>b.1.length<=19/\(b.2=false->b.1= [])) (fun b=>((id,(),(),b.2,(),true,j,()),(fx x,(c.epoch,c.primary,(),(),()),()),(b.1,c.replicas,c.witnesses,()))) (fun b=>((id,(),(),(),b.2,(),z,j,()),(fx x',(c.epoch,c.primary,(),(),()),()),(b.1,c.witnesses,c.replicas,())))
  (fun b _=> ?_) (fun k b hk hb=> ?_) b hb
 ·simp only[kM,kY,ei,vc'.len];exact⟨if_neg (by omega),if_neg (by omega)⟩
 ·have c1: (k:Int)<5:=by omega
  have c1': (k:Int)< (x'.servers.length:Int):=by rw[vc'.len]; omega
  have c2: (0:Int)<=(k:Int):=by omega
  have hkk:0<=(k:Int)/\(k:Int)<5:=⟨c2,c1⟩
  obtain⟨s,s1,s2,s3⟩:=ow ok vc hkk;obtain⟨t,t1,t2,t3⟩:=ow ok' vc' hkk;obtain⟨e,e1⟩:=se.srv _ _ s1;rw[t1] at e1;have e1:=Option.some.inj e1;obtain⟨g1,_⟩:=sn x ok vc hid hkk;obtain⟨_,g2⟩:=sn x' ok' vc' hid hkk;rw[se.side,se.side] at g2;have dt:F0 t (k:Int)=F0 s (k:Int):=by rw[e1]; rfl
  have tup:t.up=s.up:=by rw[e1]
  obtain⟨q1,_⟩:=Ob s (k:Int) s2 s3;obtain⟨_,q2⟩:=Ob t (k:Int) t2 t3;rw[dt] at q2;have dl: (F0 s (k:Int)).length<=1048576:=Ry s _ s2;obtain⟨l,f,j1,j2,j3⟩:=Rs (F0 s (k:Int)) w.first w.log dl hw.2.1;have sw:=ey (n:=5) (by decide) hk;rw[ap] at s1 t1;simp only[kM,kY,fx,U5,ei,fi,ek,if_pos c1,if_pos c1',if_pos c2,ap,s1,t1,ae,tup,g1,g2,q1,q2,h1,h2,j1,j2,sw];cases s.up with
  |false=>exact⟨b,rfl,rfl,hb⟩
  |true=>
   cases (mq x id==mq x (k:Int)) with
   |false=>exact⟨b,rfl,rfl,hb⟩
   |true=>
    cases f with
    |false=>exact⟨b,rfl,rfl,hb⟩
    |true=>
     simp only[en];cases hb2:b.2 with
     |false=>exact⟨(l,true),rfl,rfl,j3,nofun⟩
     |true=>
      simp only[en];by_cases h: (l.length:Int)>(b.1.length:Int)
      ·simp only[if_pos h];exact⟨(l,true),rfl,rfl,j3,nofun⟩
      ·simp only[if_neg h];exact⟨b,by rw[hb2],by rw[hb2],hb⟩
theorem Nh: ∃l b,p8 x id=some (l,b,())/\qs x' id=some (l,b,())/\l.length<=19:=by
 have vc:=jc ok hv;have vc':=jc ok' hv';obtain⟨c,d,d1,d2,d3,_,r5,_,inw,d6⟩:=Rz ok hv;have rm:c.witnesses.length<=maxLen:=by unfold maxLen; omega
 have E5:je id 0 4=true:=fK.2 (by omega);have hgood:=RA ok' hv' hid;have d2':fI x'.master=some (c,d,()):=by rw[se.master]; exact d2
 unfold p8 qs;simp only[d1,d2',hgood,ae,fi,en];cases d with
 |false=>
  have hc:=d6 rfl;subst hc
  rw[show uc ((id,(),(),false,(),false,0,()),(fx x,(0,0,(),(),()),()),([],[],[],()))=some (((),false,()),(),([],())) from gC (by simp only[ku];rfl)]
  exact⟨[],false,rfl,rfl,aI _⟩
 |true=>
  obtain⟨r,q,k1,k2⟩:=pc (B1:=ku) (B2:=mh) c.witnesses.length (fun k (b:List eu×Bool)=>((id,(),(),b.2,(),true,(k:Int),()),(fx x,(c.epoch,c.primary,(),(),()),()),(b.1,c.replicas,c.witnesses,()))) (fun k b=>((id,(),(),(),b.2,(),(c.witnesses.length:Int),(k:Int),()),(fx x',(c.epoch,c.primary,(),(),()),()),(b.1,c.witnesses,c.replicas,()))) (fun _ b=>b.1.length<=19/\(b.2=false->b.1= [])) (fun b=>(((),b.2,()),(),(b.1,()))) (fun b=>(((),b.2,()),(),(b.1,())))
   (fun b _=>by simp only[ku,mh,ei];exact⟨if_neg (by omega),if_neg (by omega)⟩)
   (fun k b hk hb=>by
     have c1: (k:Int)< (c.witnesses.length:Int):=by omega
     have c2: (0:Int)<=(k:Int)/\(k:Int)< (c.witnesses.length:Int):=by omega
     have hz:=inw _ (aV hk);generalize hzz:c.witnesses[k] =z at hz;have hg:c.witnesses[k]? =some z:=by rw[<-hzz]; exact ah hk
     obtain⟨s,s1,s2,_⟩:=ow ok vc hz;obtain⟨e,e1⟩:=se.srv _ _ s1;obtain⟨h1,_⟩:=sn x ok vc hid hz;obtain⟨_,h2⟩:=sn x' ok' vc' hid hz;rw[se.side,se.side] at h2;obtain⟨r,r1,r2,r3⟩:=JD ok ok' hv hv' se hid (c:=c) (w:=s) (w':=⟨s.up,s.intact,s.version,e,s.config,s.first,s.log,s.commit,s.learned⟩) (z:=(c.witnesses.length:Int)) (j:=(k:Int)) s2 rfl rfl b hb;simp only[fx,U5] at r2 r3
     simp only[ku,mh,rf,fx,ei,fi,en,ek,if_pos c1,if_pos c2,ap,hg,ae,
      show (⟨x.now,x.servers,x.sides,(⟨x.master.configs,x.master.activated⟩:ev),x.masterUp,(⟨x.lease.epoch,x.lease.holder,x.lease.ends⟩:fW),x.places⟩:eg)=x from rfl,hv,kg,E5,if_pos hz.1,s1,e1,h1,h2,r2,r3,ey rm hk]
     cases s.up<;>cases (s.config.epoch==c.epoch)<;>cases (mq x id==mq x z)<;>simp only[en,eB,ae]<;>first |exact⟨b,rfl,rfl,hb⟩|exact⟨r,rfl,rfl,r1⟩)
   ([],false) ⟨aI _,fun _=>rfl⟩
  rw[show uc ((id,(),(),false,(),true,0,()),(fx x,(c.epoch,c.primary,(),(),()),()),([],c.replicas,c.witnesses,()))=_ from k1,
   show yx ((id,(),(),(),false,(),(c.witnesses.length:Int),0,()),(fx x',(c.epoch,c.primary,(),(),()),()),([],c.witnesses,c.replicas,()))=_ from k2]
  simp only[ae];obtain⟨l,f⟩:=r;cases f with
  |true=>exact⟨l,true,rfl,rfl,q.1⟩
  |false=>have:=q.2 rfl;simp only at this;subst this;exact⟨[],false,rfl,rfl,aI _⟩
theorem Pw: ∃l b,rM x id=some (l,b,())/\rT x' id=some (l,b,())/\l.length<=1048576:=by
 have vc:=jc ok hv;have E5:je id 0 4=true:=fK.2 (by omega);have hgood:=RA ok' hv' hid;obtain⟨n,n1,n2,n3⟩:=Ng ok ok' hv hv' se hid;obtain⟨l,b,l1,l2,l3⟩:=Nh ok ok' hv hv' se hid;unfold rM rT;rw[se.master];simp only[hv,hgood,kg,E5,n1,n2,l1,l2,ae,fi,en];cases (x.master.activated==0) with
 |true=>exact⟨[],true,rfl,rfl,aI _⟩
 |false=>
  simp only[eB,ei];rcases n3 with rfl|hn
  ·simp only[if_neg (show ¬ (-1:Int)≥0 by omega)];exact⟨l,b,rfl,rfl,by omega⟩
  ·obtain⟨s,s1,s2,_⟩:=ow ok vc hn;obtain⟨e,e1⟩:=se.srv _ _ s1;simp only[if_pos (show n≥0 by omega),ek,if_pos hn.1,s1,e1,ae,(ot _ s2.2.1).1,(ot _ s2.2.1).2];exact⟨_,_,rfl,rfl,s2.2.1⟩
end
end Go.Proofs.YtjnleglhcppgcaaGreat.En
