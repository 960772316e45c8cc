/- The log that an activation starts from; a cluster and the same one sealed. -/
import Derived.Test.YtjnleglhcppgcaaGreatZPJoin
import Derived.Test.YtjnleglhcppgcaaGreatZPPlan
import Derived.Test.YtjnleglhcppgcaaGreatZPForce
namespace Go.Proofs.YtjnleglhcppgcaaGreat.En
open Go
abbrev fx (x:dT):Int×List dX×List Int×List dW×Int×Int×Int×Int×Int×List ew×Unit:=(x.now,x.servers,x.sides,x.master.configs,x.master.activated,x.masterUp,x.lease.epoch,x.lease.holder,x.lease.ends,x.places,())
abbrev R4 (s:dX):Bool×Bool×Int×Int×Int×Int×List Int×List Int×Int×List ea×Int×List ea×Unit:=(s.up,s.intact,s.version,s.epoch,s.config.epoch,s.config.primary,s.config.replicas,s.config.witnesses,s.first,s.log,s.commit,s.learned,())
structure Pa (x x':dT):Prop where
 sides:x'.sides=x.sides
 master:x'.master=x.master
 srv: ∀ (k:Nat) (s:dX),x.servers[k]? =some s-> ∃e,x'.servers[k]? =some (⟨s.up,s.intact,s.version,e,s.config,s.first,s.log,s.commit,s.learned⟩:dX)
theorem Pa.refl (x:dT):Pa x x:=⟨rfl,rfl,fun _ s h=>⟨s.epoch,h⟩⟩
theorem Pa.side {x x':dT} (h:Pa x x') (a:Int):lp x' a=lp x a:=by unfold lp; rw[h.sides]
theorem O4 {x:dT} (ok:iq 1048576 x) (hv:eg x=some (true,())): ∃c d,fD x.master=some (c,d,())/\fi x.master=some (c,d,())/\gK maxLen c/\c.replicas.length<=5/\c.witnesses.length<=5/\(∀z∈c.replicas,0<=z/\z<5)/\(∀z∈c.witnesses,0<=z/\z<5)/\(d=false->c=⟨0,0,[],[]⟩):=by
 obtain⟨c,d,d1,d2,d3,d4,d5,d6⟩:=qJ x ok hv
 have rng: ∀ {l:List Int},wm l-> ∀y∈l,0<=y/\y<5:=by intro l ha y hy;obtain⟨k,hk,rfl⟩:=aH hy;have:=(ha k hk).1;omega
 cases d with
 |false=>exact⟨c,false,d1,d2,d3,by rw[d6 rfl]; simp,by rw[d6 rfl]; simp,by rw[d6 rfl]; simp,by rw[d6 rfl]; simp,d6⟩
 |true=>obtain⟨a1,a2,_⟩:=sA d3 (d5 rfl).1;exact⟨c,true,d1,d2,d3,a1.len,a2.len,rng a1,rng a2,nofun⟩
section
variable {x x':dT} (ok:iq 1048576 x) (ok':iq 1048576 x') (hv:eg x=some (true,())) (hv':eg x'=some (true,())) (se:Pa x x') {id:Int} (hid:0<=id/\id<5)
include ok ok' hv hv' se hid
theorem K5: ∃l,oV x id=some (l,())/\pd x' id=some (l,())/\l.length<=5/\ ∀z∈l,0<=z/\z<5:=by
 have vc:=kh ok hv;have vc':=kh ok' hv';obtain⟨c,d,d1,d2,d3,r5,_,inr,_,d6⟩:=O4 ok hv;have rm:c.replicas.length<=maxLen:=by unfold maxLen; omega
 have De:kE id 0 4=true:=fB.2 (by omega)
 have hgood:fH x' id=some (true,()):=by obtain⟨v,w1,w2⟩:=iL x' ok';rw[hv'] at w1;simp only[af,an,and_true] at w1;subst w1;unfold fH;simp only[w2,ae,nX,De,eb]
 unfold oV pd;have d2':fi x'.master=some (c,d,()):=by rw[se.master]; exact d2
 simp only[d1,d2',hgood,ae,fg,eb];cases d with
 |false=>
  have hc:=d6 rfl;subst hc
  rw[show rS ((id,(),(),(),false,0,()),(fx x,(0,0,(),(),()),()),([],[],[],()))=some (((),()),(),([],())) from ga (by simp only[jv];rfl)]
  exact⟨[],rfl,rfl,aF _,nofun⟩
 |true=>
  obtain⟨l,q,k1,k2⟩:=s5 (B1:=jv) (B2:=k9) c.replicas.length (fun k (b:List Int)=>((id,(),(),(),true,(k:Int),()),(fx x,(c.epoch,c.primary,(),(),()),()),(b,c.replicas,c.witnesses,()))) (fun k b=>((id,(),(),(),(),(c.replicas.length:Int),(k:Int),()),(fx x',(c.epoch,c.primary,(),(),()),()),(b,c.replicas,c.witnesses,()))) (fun k b=>b.length<=k/\ ∀z∈b,0<=z/\z<5) (fun b=>(((),()),(),(b,()))) (fun b=>(((),()),(),(b,())))
   (fun b _=>by simp only[jv,k9,dV];exact⟨if_neg (by omega),if_neg (by omega)⟩)
   (fun k b hk hb=>by
     have c1: (k:Int)< (c.replicas.length:Int):=by omega
     have c2: (0:Int)<=(k:Int)/\(k:Int)< (c.replicas.length:Int):=by omega
     have hz:=inr _ (aW hk);generalize hzz:c.replicas[k] =z at hz;have hg:c.replicas[k]? =some z:=by rw[<-hzz]; exact ah hk
     obtain⟨s,s1,s2,_⟩:=sD ok vc hz;obtain⟨e,e1⟩:=se.srv _ _ s1;obtain⟨h1,_⟩:=qE x ok vc hid hz;obtain⟨_,h2⟩:=qE x' ok' vc' hid hz;rw[se.side,se.side] at h2;have h40: (b++ [z]).length*8<=2 ^ 40:=jC (by simp; omega)
     simp only[jv,k9,pS,fx,dV,eb,dZ,if_pos c1,if_pos c2,ao,hg,ae,
      show (⟨x.now,x.servers,x.sides,(⟨x.master.configs,x.master.activated⟩:dY),x.masterUp,(⟨x.lease.epoch,x.lease.holder,x.lease.ends⟩:fE),x.places⟩:dT)=x from rfl,hv,lV,De,if_pos hz.1,s1,e1,h1,h2,if_pos h40,ec rm hk]
     have hb': (b++ [z]).length<=k+1/\ ∀y∈b++ [z],0<=y/\y<5:=⟨by simp; omega,fun y hy=>by
      rcases bq.1 hy with h|h
      ·exact hb.2 y h
      ·rw[ax.1 h]; exact hz⟩
     have hb'':b.length<=k+1/\ ∀y∈b,0<=y/\y<5:=⟨by omega,hb.2⟩
     cases s.up<;>cases (s.config.epoch==c.epoch)<;>cases (lp x id==lp x z)<;>simp only[eb,ek,ae]<;>first |exact⟨b++ [z],rfl,rfl,hb'⟩|exact⟨b,rfl,rfl,hb''⟩)
   [] ⟨aF _,nofun⟩
  rw[show rS ((id,(),(),(),true,0,()),(fx x,(c.epoch,c.primary,(),(),()),()),([],c.replicas,c.witnesses,()))=_ from k1,
   show v8 ((id,(),(),(),(),(c.replicas.length:Int),0,()),(fx x',(c.epoch,c.primary,(),(),()),()),([],c.replicas,c.witnesses,()))=_ from k2]
  exact⟨l,rfl,rfl,by omega,q.2⟩
theorem K6: ∃n,oW x id=some (n,())/\pe x' id=some (n,())/\(n= -1\/(0<=n/\n<5)):=by
 have vc:=kh ok hv;obtain⟨l,l1,l2,l3,inl⟩:=K5 ok ok' hv hv' se hid;have lm:l.length<=maxLen:=by unfold maxLen; omega
 obtain⟨n,q,k1,k2⟩:=s5 (B1:=kQ) (B2:=lc) l.length (fun k (b:Int)=>(((),b,(),(k:Int),()),(fx x,()),(l,()))) (fun k b=>(((),b,(),(l.length:Int),(k:Int),()),(fx x',()),(l,()))) (fun _ b=>b= -1\/(0<=b/\b<5)) (fun b=>((b,()),(),())) (fun b=>((b,()),(),()))
  (fun b _=>by simp only[kQ,lc,dV];exact⟨if_neg (by omega),if_neg (by omega)⟩)
  (fun k b hk hb=>by
    have c1: (k:Int)< (l.length:Int):=by omega
    have c2: (0:Int)<=(k:Int)/\(k:Int)< (l.length:Int):=by omega
    have hz:=inl _ (aW hk);generalize hzz:l[k] =z at hz;have hg:l[k]? =some z:=by rw[<-hzz]; exact ah hk
    obtain⟨s,s1,s2,_⟩:=sD ok vc hz;obtain⟨e,e1⟩:=se.srv _ _ s1;simp only[kQ,lc,fx,dV,dZ,if_pos c1,if_pos c2,ao,hg,ae,if_pos hz.1,s1,e1,ec lm hk];rcases hb with rfl|hb
    ·exact⟨z,rfl,rfl, .inr hz⟩
    ·obtain⟨t,t1,t2,_⟩:=sD ok vc hb;obtain⟨f,f1⟩:=se.srv _ _ t1;simp only[if_neg (show ¬b<0 by omega),if_pos hb.1,t1,f1,ae];by_cases h: (s.log.length:Int)>(t.log.length:Int)
     ·simp only[if_pos h];exact⟨z,rfl,rfl, .inr hz⟩
     ·simp only[if_neg h];exact⟨b,rfl,rfl, .inr hb⟩)
  (-1) (.inl rfl)
 unfold oW pe;simp only[l1,l2,ae];rw[show vP (((),(-1),(),0,()),(fx x,()),(l,()))=_ from k1,show wc (((),(-1),(),(l.length:Int),0,()),(fx x',()),(l,()))=_ from k2];exact⟨n,rfl,rfl,q⟩
omit ok hv se in
theorem O5:fH x' id=some (true,()):=by obtain⟨v,w1,w2⟩:=iL x' ok';rw[hv'] at w1;simp only[af,an,and_true] at w1;subst w1;unfold fH;simp only[w2,ae,nX,fB.2 (show 0<=id/\id<=4 by omega),eb]
theorem HA {c:dW} {w w':dX} {z j:Int} (hw:gW 1048576 w) (h1:w'.first=w.first) (h2:w'.log=w.log) (b:List ea×Bool) (hb:b.1.length<=19/\(b.2=false->b.1= [])): ∃r:List ea×Bool,(r.1.length<=19/\(r.2=false->r.1= []))/\
  uX ((id,(),(),b.2,(),true,j,(),0,()),(fx x,(c.epoch,c.primary,(),(),()),R4 w,()),(b.1,c.replicas,c.witnesses,()))=some ((id,(),(),r.2,(),true,j,()),(fx x,(c.epoch,c.primary,(),(),()),()),(r.1,c.replicas,c.witnesses,()))/\
  vf ((id,(),(),(),b.2,(),(),z,j,x'.servers,(x'.servers.length:Int),0,()),(fx x',(c.epoch,c.primary,(),(),()),R4 w',()),(b.1,c.witnesses,c.replicas,()))=some ((id,(),(),(),r.2,(),z,j,()),(fx x',(c.epoch,c.primary,(),(),()),()),(r.1,c.witnesses,c.replicas,())):=by
 have vc:=kh ok hv;have vc':=kh ok' hv'
 refine s5 (B1:=jM) (B2:=jW) 5 (fun k (b:List ea×Bool)=>((id,(),(),b.2,(),true,j,(),(k:Int),()),(fx x,(c.epoch,c.primary,(),(),()),R4 w,()),(b.1,c.replicas,c.witnesses,()))) (fun k b=>((id,(),(),(),b.2,(),(),z,j,x'.servers,(x'.servers.length:Int),(k:Int),()),(fx x',(c.epoch,c.primary,(),(),()),R4 w',()),(b.1,c.witnesses,c.replicas,()))) (fun _ b=>b.1.length<=19/\(b.2=false->b.1= [])) (fun b=>((id,(),(),b.2,(),true,j,()),(fx x,(c.epoch,c.primary,(),(),()),()),(b.1,c.replicas,c.witnesses,()))) (fun b=>((id,(),(),(),b.2,(),z,j,()),(fx x',(c.epoch,c.primary,(),(),()),()),(b.1,c.witnesses,c.replicas,())))
  (fun b _=> ?_) (fun k b hk hb=> ?_) b hb
 ·simp only[jM,jW,dV,vc'.len];exact⟨if_neg (by omega),if_neg (by omega)⟩
 ·have c1: (k:Int)<5:=by omega
  have c1': (k:Int)< (x'.servers.length:Int):=by rw[vc'.len]; omega
  have c2: (0:Int)<=(k:Int):=by omega
  have hkk:0<=(k:Int)/\(k:Int)<5:=⟨c2,c1⟩
  obtain⟨s,s1,s2,s3⟩:=sD ok vc hkk;obtain⟨t,t1,t2,t3⟩:=sD ok' vc' hkk;obtain⟨e,e1⟩:=se.srv _ _ s1;rw[t1] at e1;have e1:=Option.some.inj e1;obtain⟨g1,_⟩:=qE x ok vc hid hkk;obtain⟨_,g2⟩:=qE x' ok' vc' hid hkk;rw[se.side,se.side] at g2;have dt:Ei t (k:Int)=Ei s (k:Int):=by rw[e1]; rfl
  have tup:t.up=s.up:=by rw[e1]
  obtain⟨q1,_⟩:=LV s (k:Int) s2 s3;obtain⟨_,q2⟩:=LV t (k:Int) t2 t3;rw[dt] at q2;have dl: (Ei s (k:Int)).length<=1048576:=O3 s _ s2;obtain⟨l,f,j1,j2,j3⟩:=OW (Ei s (k:Int)) w.first w.log dl hw.2.1;have sw:=ec (n:=5) (by decide) hk;rw[ao] at s1 t1;simp only[jM,jW,fx,R4,dV,fg,dZ,if_pos c1,if_pos c1',if_pos c2,ao,s1,t1,ae,tup,g1,g2,q1,q2,h1,h2,j1,j2,sw];cases s.up with
  |false=>exact⟨b,rfl,rfl,hb⟩
  |true=>
   cases (lp x id==lp x (k:Int)) with
   |false=>exact⟨b,rfl,rfl,hb⟩
   |true=>
    cases f with
    |false=>exact⟨b,rfl,rfl,hb⟩
    |true=>
     simp only[eb];cases hb2:b.2 with
     |false=>exact⟨(l,true),rfl,rfl,j3,nofun⟩
     |true=>
      simp only[eb];by_cases h: (l.length:Int)>(b.1.length:Int)
      ·simp only[if_pos h];exact⟨(l,true),rfl,rfl,j3,nofun⟩
      ·simp only[if_neg h];exact⟨b,by rw[hb2],by rw[hb2],hb⟩
theorem K7: ∃l b,oX x id=some (l,b,())/\pf x' id=some (l,b,())/\l.length<=19:=by
 have vc:=kh ok hv;have vc':=kh ok' hv';obtain⟨c,d,d1,d2,d3,_,r5,_,inw,d6⟩:=O4 ok hv;have rm:c.witnesses.length<=maxLen:=by unfold maxLen; omega
 have De:kE id 0 4=true:=fB.2 (by omega);have hgood:=O5 ok' hv' hid;have d2':fi x'.master=some (c,d,()):=by rw[se.master]; exact d2
 unfold oX pf;simp only[d1,d2',hgood,ae,fg,eb];cases d with
 |false=>
  have hc:=d6 rfl;subst hc
  rw[show rU ((id,(),(),false,(),false,0,()),(fx x,(0,0,(),(),()),()),([],[],[],()))=some (((),false,()),(),([],())) from ga (by simp only[jx];rfl)]
  exact⟨[],false,rfl,rfl,aF _⟩
 |true=>
  obtain⟨r,q,k1,k2⟩:=s5 (B1:=jx) (B2:=lg) c.witnesses.length (fun k (b:List ea×Bool)=>((id,(),(),b.2,(),true,(k:Int),()),(fx x,(c.epoch,c.primary,(),(),()),()),(b.1,c.replicas,c.witnesses,()))) (fun k b=>((id,(),(),(),b.2,(),(c.witnesses.length:Int),(k:Int),()),(fx x',(c.epoch,c.primary,(),(),()),()),(b.1,c.witnesses,c.replicas,()))) (fun _ b=>b.1.length<=19/\(b.2=false->b.1= [])) (fun b=>(((),b.2,()),(),(b.1,()))) (fun b=>(((),b.2,()),(),(b.1,())))
   (fun b _=>by simp only[jx,lg,dV];exact⟨if_neg (by omega),if_neg (by omega)⟩)
   (fun k b hk hb=>by
     have c1: (k:Int)< (c.witnesses.length:Int):=by omega
     have c2: (0:Int)<=(k:Int)/\(k:Int)< (c.witnesses.length:Int):=by omega
     have hz:=inw _ (aW hk);generalize hzz:c.witnesses[k] =z at hz;have hg:c.witnesses[k]? =some z:=by rw[<-hzz]; exact ah hk
     obtain⟨s,s1,s2,_⟩:=sD ok vc hz;obtain⟨e,e1⟩:=se.srv _ _ s1;obtain⟨h1,_⟩:=qE x ok vc hid hz;obtain⟨_,h2⟩:=qE x' ok' vc' hid hz;rw[se.side,se.side] at h2;obtain⟨r,r1,r2,r3⟩:=HA ok ok' hv hv' se hid (c:=c) (w:=s) (w':=⟨s.up,s.intact,s.version,e,s.config,s.first,s.log,s.commit,s.learned⟩) (z:=(c.witnesses.length:Int)) (j:=(k:Int)) s2 rfl rfl b hb;simp only[fx,R4] at r2 r3
     simp only[jx,lg,pS,fx,dV,fg,eb,dZ,if_pos c1,if_pos c2,ao,hg,ae,
      show (⟨x.now,x.servers,x.sides,(⟨x.master.configs,x.master.activated⟩:dY),x.masterUp,(⟨x.lease.epoch,x.lease.holder,x.lease.ends⟩:fE),x.places⟩:dT)=x from rfl,hv,lV,De,if_pos hz.1,s1,e1,h1,h2,r2,r3,ec rm hk]
     cases s.up<;>cases (s.config.epoch==c.epoch)<;>cases (lp x id==lp x z)<;>simp only[eb,ek,ae]<;>first |exact⟨b,rfl,rfl,hb⟩|exact⟨r,rfl,rfl,r1⟩)
   ([],false) ⟨aF _,fun _=>rfl⟩
  rw[show rU ((id,(),(),false,(),true,0,()),(fx x,(c.epoch,c.primary,(),(),()),()),([],c.replicas,c.witnesses,()))=_ from k1,
   show we ((id,(),(),(),false,(),(c.witnesses.length:Int),0,()),(fx x',(c.epoch,c.primary,(),(),()),()),([],c.witnesses,c.replicas,()))=_ from k2]
  simp only[ae];obtain⟨l,f⟩:=r;cases f with
  |true=>exact⟨l,true,rfl,rfl,q.1⟩
  |false=>have:=q.2 rfl;simp only at this;subst this;exact⟨[],false,rfl,rfl,aF _⟩
theorem M2: ∃l b,qt x id=some (l,b,())/\qz x' id=some (l,b,())/\l.length<=1048576:=by
 have vc:=kh ok hv;have De:kE id 0 4=true:=fB.2 (by omega);have hgood:=O5 ok' hv' hid;obtain⟨n,n1,n2,n3⟩:=K6 ok ok' hv hv' se hid;obtain⟨l,b,l1,l2,l3⟩:=K7 ok ok' hv hv' se hid;unfold qt qz;rw[se.master];simp only[hv,hgood,lV,De,n1,n2,l1,l2,ae,fg,eb];cases (x.master.activated==0) with
 |true=>exact⟨[],true,rfl,rfl,aF _⟩
 |false=>
  simp only[ek,dV];rcases n3 with rfl|hn
  ·simp only[if_neg (show ¬ (-1:Int)≥0 by omega)];exact⟨l,b,rfl,rfl,by omega⟩
  ·obtain⟨s,s1,s2,_⟩:=sD ok vc hn;obtain⟨e,e1⟩:=se.srv _ _ s1;simp only[if_pos (show n≥0 by omega),dZ,if_pos hn.1,s1,e1,ae,(pk _ s2.2.1).1,(pk _ s2.2.1).2];exact⟨_,_,rfl,rfl,s2.2.1⟩
end
end Go.Proofs.YtjnleglhcppgcaaGreat.En
