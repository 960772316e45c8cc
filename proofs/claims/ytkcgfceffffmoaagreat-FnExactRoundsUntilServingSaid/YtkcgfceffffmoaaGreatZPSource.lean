/- The log that an activation starts from; a cluster and the same one sealed. -/
import Derived.Test.YtkcgfceffffmoaaGreatZPJoin
import Derived.Test.YtkcgfceffffmoaaGreatZPPlan
import Derived.Test.YtkcgfceffffmoaaGreatZPForce
namespace Go.Proofs.YtkcgfceffffmoaaGreat.En
open Go
abbrev fx (x:dV):Int×List eb×List Int×List dW×Int×Int×Int×Int×Int×List ey×Unit:=(x.now,x.servers,x.sides,x.master.configs,x.master.activated,x.masterUp,x.lease.epoch,x.lease.holder,x.lease.ends,x.places,())
abbrev fsv (s:eb):Bool×Bool×Int×Int×Int×Int×List Int×List Int×Int×List ed×Int×List ed×Unit:=(s.up,s.intact,s.version,s.epoch,s.config.epoch,s.config.primary,s.config.replicas,s.config.witnesses,s.first,s.log,s.commit,s.learned,())
structure Sea (x x':dV):Prop where
 sides:x'.sides=x.sides
 master:x'.master=x.master
 srv: ∀ (k:Nat) (s:eb),x.servers[k]? =some s-> ∃ e,x'.servers[k]? =some (⟨s.up,s.intact,s.version,e,s.config,s.first,s.log,s.commit,s.learned⟩:eb)
theorem Sea.refl (x:dV):Sea x x:=⟨rfl,rfl,fun _ s h=>⟨s.epoch,h⟩⟩
theorem Sea.side {x x':dV} (h:Sea x x') (a:Int):tY x' a=tY x a:=by unfold tY; rw [h.sides]
theorem ao9 {x:dV} (ok:pg 1048576 x) (hv:eC x=some (true,())): ∃ c d,iw x.master=some (c,d,())/\gx x.master=some (c,d,())/\nm maxLen c/\c.replicas.length<=5/\c.witnesses.length<=5/\(∀ z∈c.replicas,0<=z/\z < 5)/\(∀ z∈c.witnesses,0<=z/\z < 5)/\(d=false->c=⟨0,0,[],[]⟩):=by
 obtain⟨c,d,d1,d2,d3,d4,d5,d6⟩:=EI x ok hv
 have rng: ∀ {l:List Int},MH l-> ∀ y∈l,0<=y/\y < 5:=by
  intro l ha y hy;obtain⟨k,hk,rfl⟩:=aM hy;have:=(ha k hk).1;omega
 cases d with
 | false=>exact⟨c,false,d1,d2,d3,by rw [d6 rfl]; simp,by rw [d6 rfl]; simp,by rw [d6 rfl]; simp,by rw [d6 rfl]; simp,d6⟩
 | true=>
   obtain⟨a1,a2,_⟩:=Gw d3 (d5 rfl).1;exact⟨c,true,d1,d2,d3,a1.len,a2.len,rng a1,rng a2,nofun⟩
section
variable {x x':dV} (ok:pg 1048576 x) (ok':pg 1048576 x') (hv:eC x=some (true,())) (hv':eC x'=some (true,())) (se:Sea x x') {id:Int} (hid:0<=id/\id < 5)
include ok ok' hv hv' se hid
theorem akL: ∃ l,ut x id=some (l,())/\uC x' id=some (l,())/\l.length<=5/\ ∀ z∈l,0<=z/\z < 5:=by
 have vc:=rU ok hv;have vc':=rU ok' hv';obtain⟨c,d,d1,d2,d3,r5,_,inr,_,d6⟩:=ao9 ok hv;have rm:c.replicas.length<=maxLen:=by unfold maxLen; omega
 have YR:sP id 0 4=true:=jD.2 (by omega)
 have hgood:iR x' id=some (true,()):=by
  obtain⟨v,w1,w2⟩:=od x' ok';rw [hv'] at w1;simp only [af,aq,and_true] at w1;subst w1;unfold iR ox;simp only [w2,ae,z6,YR,ew]
 unfold ut DE uC DX;have d2':gx x'.master=some (c,d,()):=by rw [se.master]; exact d2
 simp only [d1,d2',hgood,ae,iq,ew];cases d with
 | false=>
   have hc:=d6 rfl;subst hc
   rw [show xe ((id,(),(),(),false,0,()),(fx x,(0,0,(),(),()),()),([],[],[],()))=some (((),()),(),([],())) from kF (by
    simp only [kY,qN,uR];rfl)]
   exact⟨[],rfl,rfl,aK _,nofun⟩
 | true=>
   obtain⟨l,q,k1,k2⟩:=Hn (B1:=kY) (B2:=md) c.replicas.length (fun k (b:List Int)=>((id,(),(),(),true,(k:Int),()),(fx x,(c.epoch,c.primary,(),(),()),()),(b,c.replicas,c.witnesses,()))) (fun k b=>((id,(),(),(),(),(c.replicas.length:Int),(k:Int),()),(fx x',(c.epoch,c.primary,(),(),()),()),(b,c.replicas,c.witnesses,()))) (fun k b=>b.length<=k/\ ∀ z∈b,0<=z/\z < 5) (fun b=>(((),()),(),(b,()))) (fun b=>(((),()),(),(b,())))
    (fun b _=>by
      simp only [kY,qN,uR,md,vf,AD,ec];exact⟨if_neg (by omega),if_neg (by omega)⟩)
    (fun k b hk hb=>by
      have c1: (k:Int) < (c.replicas.length:Int):=by omega
      have c2: (0:Int)<=(k:Int)/\(k:Int) < (c.replicas.length:Int):=by omega
      have hz:=inr _ (bc hk);generalize hzz:c.replicas[k] =z at hz;have hg:c.replicas[k]? =some z:=by rw [<-hzz]; exact ai hk
      obtain⟨s,s1,s2,_⟩:=Gz ok vc hz;obtain⟨e,e1⟩:=se.srv _ _ s1;obtain⟨h1,_⟩:=Eu x ok vc hid hz;obtain⟨_,h2⟩:=Eu x' ok' vc' hid hz;rw [se.side,se.side] at h2;have h40: (b++ [z]).length*8<=2 ^ 40:=qA (by simp; omega)
      simp only [kY,qN,uR,md,vf,AD,xI,Eo,fx,ec,ew,ez,if_pos c1,if_pos c2,aw,hg,ae,
       show (⟨x.now,x.servers,x.sides,(⟨x.master.configs,x.master.activated⟩:ei),x.masterUp,(⟨x.lease.epoch,x.lease.holder,x.lease.ends⟩:ir),x.places⟩:dV)=x from rfl,hv,vk,YR,if_pos hz.1,s1,e1,h1,h2,if_pos h40,eB rm hk]
      have hb': (b++ [z]).length<=k+1/\ ∀ y∈b++ [z],0<=y/\y < 5:=⟨by simp; omega,fun y hy=>by
       rcases bu.1 hy with h | h
       ·exact hb.2 y h
       ·rw [aD.1 h]; exact hz⟩
      have hb'':b.length<=k+1/\ ∀ y∈b,0<=y/\y < 5:=⟨by omega,hb.2⟩
      cases s.up <;> cases (s.config.epoch==c.epoch) <;> cases (tY x id==tY x z) <;> simp only [ew,fA,ae] <;> first | exact⟨b++ [z],rfl,rfl,hb'⟩ | exact⟨b,rfl,rfl,hb''⟩)
    [] ⟨aK _,nofun⟩
   rw [show xe ((id,(),(),(),true,0,()),(fx x,(c.epoch,c.primary,(),(),()),()),([],c.replicas,c.witnesses,()))=_ from k1,
    show CG ((id,(),(),(),(),(c.replicas.length:Int),0,()),(fx x',(c.epoch,c.primary,(),(),()),()),([],c.replicas,c.witnesses,()))=_ from k2]
   exact⟨l,rfl,rfl,by omega,q.2⟩
theorem akM: ∃ n,uu x id=some (n,())/\uD x' id=some (n,())/\(n= -1\/(0<=n/\n < 5)):=by
 have vc:=rU ok hv;obtain⟨l,l1,l2,l3,inl⟩:=akL ok ok' hv hv' se hid;have lm:l.length<=maxLen:=by unfold maxLen; omega
 obtain⟨n,q,k1,k2⟩:=Hn (B1:=lZ) (B2:=me) l.length (fun k (b:Int)=>(((),b,(),(k:Int),()),(fx x,()),(l,()))) (fun k b=>(((),b,(),(l.length:Int),(k:Int),()),(fx x',()),(l,()))) (fun _ b=>b= -1\/(0<=b/\b < 5)) (fun b=>((b,()),(),())) (fun b=>((b,()),(),()))
  (fun b _=>by
    simp only [lZ,uS,Aj,me,vg,AE,ec];exact⟨if_neg (by omega),if_neg (by omega)⟩)
  (fun k b hk hb=>by
    have c1: (k:Int) < (l.length:Int):=by omega
    have c2: (0:Int)<=(k:Int)/\(k:Int) < (l.length:Int):=by omega
    have hz:=inl _ (bc hk);generalize hzz:l[k] =z at hz;have hg:l[k]? =some z:=by rw [<-hzz]; exact ai hk
    obtain⟨s,s1,s2,_⟩:=Gz ok vc hz;obtain⟨e,e1⟩:=se.srv _ _ s1;simp only [lZ,uS,Aj,me,vg,AE,fx,ec,ez,if_pos c1,if_pos c2,aw,hg,ae,if_pos hz.1,s1,e1,eB lm hk];rcases hb with rfl | hb
    ·exact⟨z,rfl,rfl, .inr hz⟩
    ·obtain⟨t,t1,t2,_⟩:=Gz ok vc hb;obtain⟨f,f1⟩:=se.srv _ _ t1;simp only [if_neg (show ¬ b < 0 by omega),if_pos hb.1,t1,f1,ae];by_cases h: (s.log.length:Int) > (t.log.length:Int)
     ·simp only [if_pos h];exact⟨z,rfl,rfl, .inr hz⟩
     ·simp only [if_neg h];exact⟨b,rfl,rfl, .inr hb⟩)
  (-1) (.inl rfl)
 unfold uu DF uD DY;simp only [l1,l2,ae];rw [show B9 (((),(-1),(),0,()),(fx x,()),(l,()))=_ from k1,show CH (((),(-1),(),(l.length:Int),0,()),(fx x',()),(l,()))=_ from k2];exact⟨n,rfl,rfl,q⟩
omit ok hv se in
theorem apa:iR x' id=some (true,()):=by
 obtain⟨v,w1,w2⟩:=od x' ok';rw [hv'] at w1;simp only [af,aq,and_true] at w1;subst w1;unfold iR ox;simp only [w2,ae,z6,jD.2 (show 0<=id/\id<=4 by omega),ew]
theorem agt {c:dW} {w w':eb} {z j:Int} (hw:nX 1048576 w) (h1:w'.first=w.first) (h2:w'.log=w.log) (b:List ed×Bool) (hb:b.1.length<=19/\(b.2=false->b.1= [])): ∃ r:List ed×Bool,(r.1.length<=19/\(r.2=false->r.1= []))/\
  Ak ((id,(),(),b.2,(),true,j,(),0,()),(fx x,(c.epoch,c.primary,(),(),()),fsv w,()),(b.1,c.replicas,c.witnesses,()))=some ((id,(),(),r.2,(),true,j,()),(fx x,(c.epoch,c.primary,(),(),()),()),(r.1,c.replicas,c.witnesses,()))/\
  AG ((id,(),(),(),b.2,(),(),z,j,x'.servers,(x'.servers.length:Int),0,()),(fx x',(c.epoch,c.primary,(),(),()),fsv w',()),(b.1,c.witnesses,c.replicas,()))=some ((id,(),(),(),r.2,(),z,j,()),(fx x',(c.epoch,c.primary,(),(),()),()),(r.1,c.witnesses,c.replicas,())):=by
 have vc:=rU ok hv;have vc':=rU ok' hv'
 refine Hn (B1:=lz) (B2:=lF) 5 (fun k (b:List ed×Bool)=>((id,(),(),b.2,(),true,j,(),(k:Int),()),(fx x,(c.epoch,c.primary,(),(),()),fsv w,()),(b.1,c.replicas,c.witnesses,()))) (fun k b=>((id,(),(),(),b.2,(),(),z,j,x'.servers,(x'.servers.length:Int),(k:Int),()),(fx x',(c.epoch,c.primary,(),(),()),fsv w',()),(b.1,c.witnesses,c.replicas,()))) (fun _ b=>b.1.length<=19/\(b.2=false->b.1= [])) (fun b=>((id,(),(),b.2,(),true,j,()),(fx x,(c.epoch,c.primary,(),(),()),()),(b.1,c.replicas,c.witnesses,()))) (fun b=>((id,(),(),(),b.2,(),z,j,()),(fx x',(c.epoch,c.primary,(),(),()),()),(b.1,c.witnesses,c.replicas,())))
  (fun b _=> ?_) (fun k b hk hb=> ?_) b hb
 ·simp only [lz,th,yj,lF,tW,yN,ec,vc'.len];exact⟨if_neg (by omega),if_neg (by omega)⟩
 ·have c1: (k:Int) < 5:=by omega
  have c1': (k:Int) < (x'.servers.length:Int):=by rw [vc'.len]; omega
  have c2: (0:Int)<=(k:Int):=by omega
  have hkk:0<=(k:Int)/\(k:Int) < 5:=⟨c2,c1⟩
  obtain⟨s,s1,s2,s3⟩:=Gz ok vc hkk;obtain⟨t,t1,t2,t3⟩:=Gz ok' vc' hkk;obtain⟨e,e1⟩:=se.srv _ _ s1;rw [t1] at e1;have e1:=Option.some.inj e1;obtain⟨g1,_⟩:=Eu x ok vc hid hkk;obtain⟨_,g2⟩:=Eu x' ok' vc' hid hkk;rw [se.side,se.side] at g2;have dt:aa8 t (k:Int)=aa8 s (k:Int):=by rw [e1]; rfl
  have tup:t.up=s.up:=by rw [e1]
  obtain⟨q1,_⟩:=alE s (k:Int) s2 s3;obtain⟨_,q2⟩:=alE t (k:Int) t2 t3;rw [dt] at q2;have dl: (aa8 s (k:Int)).length<=1048576:=ao8 s _ s2;obtain⟨l,f,j1,j2,j3⟩:=ao2 (aa8 s (k:Int)) w.first w.log dl hw.2.1;have sw:=eB (n:=5) (by decide) hk;rw [aw] at s1 t1;simp only [lz,th,yj,lF,tW,yN,fx,fsv,ec,iq,ez,if_pos c1,if_pos c1',if_pos c2,aw,s1,t1,ae,tup,g1,g2,q1,q2,h1,h2,j1,j2,sw];cases s.up with
  | false=>exact⟨b,rfl,rfl,hb⟩
  | true=>
    cases (tY x id==tY x (k:Int)) with
    | false=>exact⟨b,rfl,rfl,hb⟩
    | true=>
      cases f with
      | false=>exact⟨b,rfl,rfl,hb⟩
      | true=>
        simp only [ew];cases hb2:b.2 with
        | false=>exact⟨(l,true),rfl,rfl,j3,nofun⟩
        | true=>
          simp only [ew];by_cases h: (l.length:Int) > (b.1.length:Int)
          ·simp only [if_pos h];exact⟨(l,true),rfl,rfl,j3,nofun⟩
          ·simp only [if_neg h];exact⟨b,by rw [hb2],by rw [hb2],hb⟩
theorem akN: ∃ l b,uv x id=some (l,b,())/\uG x' id=some (l,b,())/\l.length<=19:=by
 have vc:=rU ok hv;have vc':=rU ok' hv';obtain⟨c,d,d1,d2,d3,_,r5,_,inw,d6⟩:=ao9 ok hv;have rm:c.witnesses.length<=maxLen:=by unfold maxLen; omega
 have YR:sP id 0 4=true:=jD.2 (by omega);have hgood:=apa ok' hv' hid;have d2':gx x'.master=some (c,d,()):=by rw [se.master]; exact d2
 unfold uv DG uG DZ;simp only [d1,d2',hgood,ae,iq,ew];cases d with
 | false=>
   have hc:=d6 rfl;subst hc
   rw [show xg ((id,(),(),false,(),false,0,()),(fx x,(0,0,(),(),()),()),([],[],[],()))=some (((),false,()),(),([],())) from kF (by
    simp only [lc,qP,uV];rfl)]
   exact⟨[],false,rfl,rfl,aK _⟩
 | true=>
   obtain⟨r,q,k1,k2⟩:=Hn (B1:=lc) (B2:=mf) c.witnesses.length (fun k (b:List ed×Bool)=>((id,(),(),b.2,(),true,(k:Int),()),(fx x,(c.epoch,c.primary,(),(),()),()),(b.1,c.replicas,c.witnesses,()))) (fun k b=>((id,(),(),(),b.2,(),(c.witnesses.length:Int),(k:Int),()),(fx x',(c.epoch,c.primary,(),(),()),()),(b.1,c.witnesses,c.replicas,()))) (fun _ b=>b.1.length<=19/\(b.2=false->b.1= [])) (fun b=>(((),b.2,()),(),(b.1,()))) (fun b=>(((),b.2,()),(),(b.1,())))
    (fun b _=>by
      simp only [lc,qP,uV,mf,vi,AH,ec];exact⟨if_neg (by omega),if_neg (by omega)⟩)
    (fun k b hk hb=>by
      have c1: (k:Int) < (c.witnesses.length:Int):=by omega
      have c2: (0:Int)<=(k:Int)/\(k:Int) < (c.witnesses.length:Int):=by omega
      have hz:=inw _ (bc hk);generalize hzz:c.witnesses[k] =z at hz;have hg:c.witnesses[k]? =some z:=by rw [<-hzz]; exact ai hk
      obtain⟨s,s1,s2,_⟩:=Gz ok vc hz;obtain⟨e,e1⟩:=se.srv _ _ s1;obtain⟨h1,_⟩:=Eu x ok vc hid hz;obtain⟨_,h2⟩:=Eu x' ok' vc' hid hz;rw [se.side,se.side] at h2;obtain⟨r,r1,r2,r3⟩:=agt ok ok' hv hv' se hid (c:=c) (w:=s) (w':=⟨s.up,s.intact,s.version,e,s.config,s.first,s.log,s.commit,s.learned⟩) (z:=(c.witnesses.length:Int)) (j:=(k:Int)) s2 rfl rfl b hb;simp only [fx,fsv] at r2 r3
      simp only [lc,qP,uV,mf,vi,AH,xI,Eo,fx,ec,iq,ew,ez,if_pos c1,if_pos c2,aw,hg,ae,
       show (⟨x.now,x.servers,x.sides,(⟨x.master.configs,x.master.activated⟩:ei),x.masterUp,(⟨x.lease.epoch,x.lease.holder,x.lease.ends⟩:ir),x.places⟩:dV)=x from rfl,hv,vk,YR,if_pos hz.1,s1,e1,h1,h2,r2,r3,eB rm hk]
      cases s.up <;> cases (s.config.epoch==c.epoch) <;> cases (tY x id==tY x z) <;> simp only [ew,fA,ae] <;> first | exact⟨b,rfl,rfl,hb⟩ | exact⟨r,rfl,rfl,r1⟩)
    ([],false) ⟨aK _,fun _=>rfl⟩
   rw [show xg ((id,(),(),false,(),true,0,()),(fx x,(c.epoch,c.primary,(),(),()),()),([],c.replicas,c.witnesses,()))=_ from k1,
    show CI ((id,(),(),(),false,(),(c.witnesses.length:Int),0,()),(fx x',(c.epoch,c.primary,(),(),()),()),([],c.witnesses,c.replicas,()))=_ from k2]
   simp only [ae];obtain⟨l,f⟩:=r;cases f with
   | true=>exact⟨l,true,rfl,rfl,q.1⟩
   | false=>
     have:=q.2 rfl;simp only at this;subst this;exact⟨[],false,rfl,rfl,aK _⟩
theorem am2: ∃ l b,xh x id=some (l,b,())/\xM x' id=some (l,b,())/\l.length<=1048576:=by
 have vc:=rU ok hv;have YR:sP id 0 4=true:=jD.2 (by omega);have hgood:=apa ok' hv' hid;obtain⟨n,n1,n2,n3⟩:=akM ok ok' hv hv' se hid;obtain⟨l,b,l1,l2,l3⟩:=akN ok ok' hv hv' se hid;unfold xh Fh xM Fw;rw [se.master];simp only [hv,hgood,vk,YR,n1,n2,l1,l2,ae,iq,ew];cases (x.master.activated==0) with
 | true=>exact⟨[],true,rfl,rfl,aK _⟩
 | false=>
   simp only [fA,ec];rcases n3 with rfl | hn
   ·simp only [if_neg (show ¬ (-1:Int)≥0 by omega)];exact⟨l,b,rfl,rfl,by omega⟩
   ·obtain⟨s,s1,s2,_⟩:=Gz ok vc hn;obtain⟨e,e1⟩:=se.srv _ _ s1;simp only [if_pos (show n≥0 by omega),ez,if_pos hn.1,s1,e1,ae,(CY _ s2.2.1).1,(CY _ s2.2.1).2];exact⟨_,_,rfl,rfl,s2.2.1⟩
end
end Go.Proofs.YtkcgfceffffmoaaGreat.En
