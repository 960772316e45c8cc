/- Repair: the plain law. -/
import Derived.Test.YtjnleglhcppgcaaGreatZPActv
import Derived.Test.YtjnleglhcppgcaaGreatZPNext
namespace Go.Proofs.YtjnleglhcppgcaaGreat.En
open Go
theorem RD (x:eg) (ok:gX 1048576 x): ∃y n,ud x=some (y,n,())/\rh x=some (y,n,())/\gX 1048576 y/\BM y<=BM x+10486010:=by
 obtain⟨v,v1,v2⟩:=iu x ok;obtain⟨c,d,c1,c2,c3⟩:=yD x.master (x.master.configs.length:Int) ok.2.2.1
 have d1:pY x.master=some (c,d,()):=by unfold pY;rw[c1];rfl
 have d2:qn x.master=some (c,d,()):=by unfold qn;rw[c2];rfl
 obtain⟨q,q1,q2⟩:=Dn x.lease x.now;unfold ud rh jY;simp only[(pu x ok).1,(pu x ok).2,d1,d2,v1,v2,q1,q2,ae,fi];have dn: ∀n:Int,∃y k,some (x,n,())=some (y,k,())/\some (x,n,())=some (y,k,())/\gX 1048576 y/\BM y<=BM x+10486010:=fun n=>⟨x,n,rfl,rfl,ok,by omega⟩
 cases v with
 |false=>exact dn 1
 |true=>
  cases d with
  |false=>exact dn 1
  |true=>
   have vc:=jc ok v1;obtain⟨_,f2,f3⟩:=BL (k9 ok.2.2.1) vc.ml
   have hval:eL c=some (true,())/\c.epoch=(x.master.configs.length:Int):=by obtain⟨c',b',e1,_,_,_,e5,_⟩:=yF x.master (x.master.configs.length:Int) ok.2.2.1 vc.ml;rw[c1] at e1;simp only[af,an,and_true] at e1;obtain⟨rfl,rfl⟩:=e1;exact e5 rfl
   obtain⟨a1,a2,hpr,_⟩:=sk c3 hval.1;have hok:iH 1048576 c:=⟨by have:=a1.len; omega,by have:=a2.len; omega⟩
   have hp:0<=c.primary/\c.primary<5:=by obtain⟨k,hk,e⟩:=aJ hpr;have:=(a1 k hk).1;omega
   obtain⟨s,s1,s2,_⟩:=ow ok vc hp;have hup:=vc.up;have hsl:=uG (ff ok.2.1) vc.sides;have hside:c.primary.toNat<x.sides.length:=by omega
   have g1:x.sides[c.primary.toNat]? =some x.sides[c.primary.toNat] :=ah hside;have w1:IntKind.wrap .i64 (x.masterUp*2)=x.masterUp*2:=fP (by omega) (by omega);have w2:IntKind.wrap .i64 (2*x.masterUp)=x.masterUp*2:=by rw[fP (by omega) (by omega),dW]
   simp only[en,ei,gP,w1,w2,hval.2];by_cases h1: (x.master.configs.length:Int)=x.master.activated
   ·simp only[if_pos h1,if_pos (show (x.master.configs.length:Int)<=x.master.activated by omega)];exact dn 1
   ·simp only[if_neg h1,if_neg (show ¬ (x.master.configs.length:Int)<=x.master.activated by omega)];by_cases h2:x.masterUp*2<=3
    ·simp only[if_pos h2,if_neg (show ¬x.masterUp*2>3 by omega)];exact dn 8
    ·simp only[if_neg h2,if_pos (show x.masterUp*2>3 by omega),en,eB,ek,if_pos hp.1,s1,g1,ae];cases s.up with
     |false=>exact dn 2
     |true=>
      simp only[en];by_cases h3:x.sides[c.primary.toNat] =0
      case neg=>simp only[if_neg h3]; exact dn 10
      simp only[if_pos h3];cases q with
      |false=>exact dn 7
      |true=>
       simp only[en];obtain⟨S,t1,t2,ok',hv',se,sS⟩:=LG x ok v1 (id:=c.primary) (e:=(x.master.configs.length:Int)) hp;have vc':=jc ok' hv';obtain⟨l,b,l1,l2,l3⟩:=Pw ok ok' v1 hv' se hp;obtain⟨m,m1,m2,m3,m4,_⟩:=tC c c3;obtain⟨nf,n1,n2⟩:=Rl l (ff l3);have okS:S.length=5/\ ∀s∈S,iZ 1048576 s:=⟨vc'.len,ok'.1.2⟩
       have htc:xw c<=20:=by have:=a1.len;have:=a2.len;unfold xw lw;omega
       obtain⟨T,⟨t3,t4⟩,i1,i2⟩:=Nk x S okS c hok htc l l3 m m3 m4
       have zS:lw S=lw x.servers:=by unfold lw;rw[okS.1,vc.len]
       have zT:lw T=lw x.servers:=by unfold lw;rw[t3.1,vc.len]
       obtain⟨r,rb,r1,r2,r3,r4,_⟩:=F2 x.master (x.master.configs.length:Int) ok.2.2.1;have un:=RC x ok vc S ok' vc' se c l m m3 m4;have ov:=Nl x ok vc S se c l m m3 m4 n1;simp only[fx,fy,z0,hval.2] at i1 i2 un ov
       have fin: ∀n:Int,∃y k,some (fJ x S,n,())=some (y,k,())/\some (fJ x S,n,())=some (y,k,())/\gX 1048576 y/\BM y<=BM x+10486010:=fun n=>⟨fJ x S,n,rfl,rfl,ok',by unfold BM VW;show lw S+oq uJ S+lw x.sides+RN x.master+lw x.places<=_;omega⟩
       have last:gX 1048576 ⟨x.now,T,x.sides,r,x.masterUp,⟨0,0,0⟩,x.places⟩/\BM ⟨x.now,T,x.sides,r,x.masterUp,⟨0,0,0⟩,x.places⟩<=BM x+10486010:=⟨⟨⟨by show T.length<=_; omega,t3.2⟩,ok.2.1,r3,ok.2.2.2⟩,by unfold BM VW;show lw T+oq uJ T+lw x.sides+RN r+lw x.places<=_;omega⟩
       simp only[t1,t2,l1,l2,ae];cases b with
       |false=>exact fin 9
       |true=>
        simp only[en,m1,m2,ae];rcases un with ⟨u1,u2⟩| ⟨u1,u2⟩
        ·simp only[u1,u2,n2,ae,cn,eB];rcases ov with ⟨o1,o2⟩| ⟨o1,rfl,o2⟩
         ·simp only[o1,ae,cn,i1,i2,show (⟨x.master.configs,x.master.activated⟩:ev)=x.master from rfl,r1,r2];rcases o2 with rfl|o2
          ·exact⟨_,_,rfl,rfl,last⟩
          ·simp only[o2,ae,eB];cases nf<;>exact⟨_,_,rfl,rfl,last⟩
         ·simp only[o1,o2,ae,b7,en];exact fin 6
        ·simp only[u1,u2,ae,b7,en];exact fin 10
theorem LJ (x:eg) (ok:gX 1048576 x) (c:ej) (hc:iH 1048576 c): ∃y n,oM x c=some (y,n,())/\oW x c=some (y,n,())/\gX 1048576 y/\y.lease=x.lease/\y.now=x.now/\BM y<=BM x+1+xw c:=by
 have hcn:=Eb c;obtain⟨v,v1,v2⟩:=iu x ok;obtain⟨r,b,r1,r2,r3,r4,_⟩:=Hg x.master c ok.2.2.1 hc;unfold oM oW jY;simp only[(pu x ok).1,(pu x ok).2,v1,v2,r1,r2,ae,fi];cases v with
 |false=>exact⟨x,1,rfl,rfl,ok,rfl,rfl,by omega⟩
 |true=>
  have hup:=(jc ok v1).up;rw[fP (n:=x.masterUp*2) (by omega) (by omega),fP (n:=2*x.masterUp) (by omega) (by omega),dW 2 x.masterUp];simp only[en,ei];by_cases h2:x.masterUp*2<=3
  ·simp only[if_pos h2,if_neg (show ¬x.masterUp*2>3 by omega)];exact⟨x,8,rfl,rfl,ok,rfl,rfl,by omega⟩
  ·simp only[if_neg h2,if_pos (show x.masterUp*2>3 by omega)];cases b with
   |false=>exact⟨x,1,rfl,rfl,ok,rfl,rfl,by omega⟩
   |true=>exact⟨⟨x.now,x.servers,x.sides,r,x.masterUp,x.lease,x.places⟩,0,rfl,rfl,⟨ok.1,ok.2.1,r3,ok.2.2.2⟩,rfl,rfl,by unfold BM;show VW x.servers+lw x.sides+RN r+lw x.places<=_;omega⟩
theorem RE (x:eg) (ok:gX 1048576 x) (t:Int): ∃y n,t8 x t=some (y,n,())/\ut x t=some (y,n,())/\gX 1048576 y/\BM y=BM x:=by
 obtain⟨v,v1,v2⟩:=iu x ok;unfold t8 ut;simp only[(pu x ok).1,(pu x ok).2,v1,v2,kg,mG,ae,fi];cases v with
 |false=>exact⟨x,1,rfl,rfl,ok,rfl⟩
 |true=>
  simp only[en];cases je t 0 (IntKind.wrap .i64 (999-x.now)) with
  |false=>exact⟨x,1,rfl,rfl,ok,rfl⟩
  |true=>exact⟨⟨IntKind.wrap .i64 (x.now+t),x.servers,x.sides,x.master,x.masterUp,x.lease,x.places⟩,0,rfl,rfl,ok,rfl⟩
theorem Nn (l:fW) (e h n t:Int): ∃r b,p9 l e h n t=some (r,b,())/\qv l e h n t=some (r,b,()):=by obtain⟨b,h1,h2⟩:=zo l;obtain⟨q,q1,q2⟩:=Dn l n;unfold p9 qv;simp only[h1,h2,q1,q2,kg,mG,ae];cases (l.epoch==e)<;>cases b<;>cases je e 1 20<;>cases je h 0 4<;>cases je n 0 999<;>cases je t 1 50<;>cases (l.holder==h)<;>cases q<;>exact⟨_,_,rfl,rfl⟩
theorem Np (x:eg) (ok:gX 1048576 x) (id t:Int): ∃y n,qb x id t=some (y,n,())/\om x id t=some (y,n,())/\gX 1048576 y/\BM y=BM x:=by
 obtain⟨v,v1,v2⟩:=iu x ok;unfold qb om uV BE fA fq jY;simp only[(pu x ok).1,(pu x ok).2,v1,v2,kg,mG,ae,fi];have dn: ∀n:Int,∃y k,some (x,n,())=some (y,k,())/\some (x,n,())=some (y,k,())/\gX 1048576 y/\BM y=BM x:=fun n=>⟨x,n,rfl,rfl,ok,rfl⟩
 cases v with
 |false=>exact dn 1
 |true=>
  simp only[en];cases hw:je id 0 4 with
  |false=>exact dn 1
  |true=>
   have hw:=fK.1 hw;have hid:0<=id/\id<5:=by omega
   have vc:=jc ok v1;obtain⟨s,s1,s2,_⟩:=ow ok vc hid;obtain⟨p,p1,p2⟩:=wR s id s2;have hup:=vc.up;have w1:IntKind.wrap .i64 (x.masterUp*2)=x.masterUp*2:=fP (by omega) (by omega);have w2:IntKind.wrap .i64 (2*x.masterUp)=x.masterUp*2:=by rw[fP (by omega) (by omega),dW]
   have hsl:=uG (ff ok.2.1) vc.sides;have hside:id.toNat<x.sides.length:=by omega
   have g1:x.sides[id.toNat]? =some x.sides[id.toNat] :=ah hside;have hlt:=i5 s1;have sv:=RB ok v1 id.toNat hlt;rw[ah hlt] at s1;rw[Option.some.inj s1] at sv;rw[<-ah hlt] at s1;have old:=sv.old ok.2.2.1 vc.ml;obtain⟨r,b,r1,r2⟩:=Nn x.lease s.config.epoch id x.now t;simp only[en,ek,if_pos hid.1,s1,ae];cases s.up with
   |false=>exact dn 2
   |true=>
    simp only[en,gP,if_true,p1,p2,ae,w1,w2,ei,g1];cases p with
    |false=>exact dn 3
    |true=>
     simp only[en];by_cases h2:x.masterUp*2<=3
     ·simp only[if_pos h2,if_neg (show ¬x.masterUp*2>3 by omega)];exact dn 8
     ·simp only[if_neg h2,if_pos (show x.masterUp*2>3 by omega)];by_cases h3:x.sides[id.toNat] =0
      case neg=>simp only[if_neg h3]; exact dn 8
      simp only[if_pos h3];by_cases h4:s.config.epoch=(x.master.configs.length:Int)
      case neg=>simp only[if_neg h4,if_pos (show (x.master.configs.length:Int)>s.config.epoch by omega)]; exact dn 11
      simp only[if_pos h4,if_neg (show ¬ (x.master.configs.length:Int)>s.config.epoch by omega)];simp only[r1,r2,ae];cases b with
      |false=>exact dn 7
      |true=>exact⟨_,_,rfl,rfl,ok,rfl⟩
theorem Dp (x:eg) (ok:gX 1048576 x) (want term:Int): ∃y n,na x want term=some (y,n,())/\nq x want term=some (y,n,())/\gX 1048576 y/\BM y<=BM x+10486020:=by
 obtain⟨v,v1,v2⟩:=iu x ok;obtain⟨sv,sv1,sv2⟩:=Pt x ok;obtain⟨c,d,c1,c2,c3,c4,c5⟩:=Nm x ok want;obtain⟨y,n,y1,y2,y3,y4,y5,y6⟩:=LJ x ok c c3
 have hcn:xw c<=5:=by unfold xw lw;rw[c5];simp;omega
 obtain⟨t,t1,t2⟩:=LD x.lease;unfold na nq;simp only[(pu x ok).1,(pu x ok).2,v1,v2,sv1,sv2,c1,c2,y1,y2,y4,y5,t1,t2,kg,mG,ae,fi];have dn: ∀n:Int,∃y k,some (x,n,())=some (y,k,())/\some (x,n,())=some (y,k,())/\gX 1048576 y/\BM y<=BM x+10486020:=fun n=>⟨x,n,rfl,rfl,ok,by omega⟩
 cases v with
 |false=>exact dn 1
 |true=>
 cases je term 1 50 with
 |false=>exact dn 1
 |true=>
 cases sv with
 |true=>exact dn 0
 |false=>
 cases d with
 |false=>exact dn 10
 |true=>
 simp only[en,eB,gP];by_cases h0:n=0
 case neg=>simp only[if_neg h0]; exact dn n
 simp only[if_pos h0];obtain⟨z,k,z1,z2,z3,z4⟩:=RE y y3 (if (IntKind.wrap .i64 (t-x.now))>0 then (IntKind.wrap .i64 (t-x.now)) else 0);simp only[z1,z2,ae];by_cases hk:k=0
 case neg=>simp only[if_neg hk]; exact dn k
 simp only[if_pos hk];obtain⟨a,j,a1,a2,a3,a4⟩:=RD z z3;simp only[a1,a2,ae];by_cases hj:j=0
 case neg=>simp only[if_neg hj]; exact⟨_,_,rfl,rfl,a3,by omega⟩
 simp only[if_pos hj];obtain⟨w,i,w1,w2,w3,w4⟩:=Np a a3 c.primary term;simp only[w1,w2,ae];exact⟨_,_,rfl,rfl,w3,by omega⟩
end Go.Proofs.YtjnleglhcppgcaaGreat.En
