/- Repair: the plain law. -/
import Derived.Test.YtjnleglhcppgcaaGreatZPActv
import Derived.Test.YtjnleglhcppgcaaGreatZPNext
namespace Go.Proofs.YtjnleglhcppgcaaGreat.En
open Go
theorem O8 (x:dT) (ok:iq 1048576 x): ∃y n,rV x=some (y,n,())/\pU x=some (y,n,())/\iq 1048576 y/\vl y<=vl x+10486010:=by
 obtain⟨v,v1,v2⟩:=iL x ok;obtain⟨c,d,c1,c2,c3⟩:=wq x.master (x.master.configs.length:Int) ok.2.2.1
 have d1:oT x.master=some (c,d,()):=by unfold oT;rw[c1];rfl
 have d2:pb x.master=some (c,d,()):=by unfold pb;rw[c2];rfl
 obtain⟨q,q1,q2⟩:=Bu x.lease x.now;unfold rV pU jf;simp only[(qI x ok).1,(qI x ok).2,d1,d2,v1,v2,q1,q2,ae,fg];have dn: ∀n:Int,∃y k,some (x,n,())=some (y,k,())/\some (x,n,())=some (y,k,())/\iq 1048576 y/\vl y<=vl x+10486010:=fun n=>⟨x,n,rfl,rfl,ok,by omega⟩
 cases v with
 |false=>exact dn 1
 |true=>
  cases d with
  |false=>exact dn 1
  |true=>
   have vc:=kh ok v1;obtain⟨_,f2,f3⟩:=zK (j5 ok.2.2.1) vc.ml
   have hval:eC c=some (true,())/\c.epoch=(x.master.configs.length:Int):=by obtain⟨c',b',e1,_,_,_,e5,_⟩:=wx x.master (x.master.configs.length:Int) ok.2.2.1 vc.ml;rw[c1] at e1;simp only[af,an,and_true] at e1;obtain⟨rfl,rfl⟩:=e1;exact e5 rfl
   obtain⟨a1,a2,hpr,_⟩:=sA c3 hval.1;have hok:gK 1048576 c:=⟨by have:=a1.len; omega,by have:=a2.len; omega⟩
   have hp:0<=c.primary/\c.primary<5:=by obtain⟨k,hk,e⟩:=aH hpr;have:=(a1 k hk).1;omega
   obtain⟨s,s1,s2,_⟩:=sD ok vc hp;have hup:=vc.up;have hsl:=sC (eR ok.2.1) vc.sides;have hside:c.primary.toNat<x.sides.length:=by omega
   have g1:x.sides[c.primary.toNat]? =some x.sides[c.primary.toNat] :=ah hside;have w1:IntKind.wrap .i64 (x.masterUp*2)=x.masterUp*2:=eK (by omega) (by omega);have w2:IntKind.wrap .i64 (2*x.masterUp)=x.masterUp*2:=by rw[eK (by omega) (by omega),dI]
   simp only[eb,dV,kt,w1,w2,hval.2];by_cases h1: (x.master.configs.length:Int)=x.master.activated
   ·simp only[if_pos h1,if_pos (show (x.master.configs.length:Int)<=x.master.activated by omega)];exact dn 1
   ·simp only[if_neg h1,if_neg (show ¬ (x.master.configs.length:Int)<=x.master.activated by omega)];by_cases h2:x.masterUp*2<=3
    ·simp only[if_pos h2,if_neg (show ¬x.masterUp*2>3 by omega)];exact dn 8
    ·simp only[if_neg h2,if_pos (show x.masterUp*2>3 by omega),eb,ek,dZ,if_pos hp.1,s1,g1,ae];cases s.up with
     |false=>exact dn 2
     |true=>
      simp only[eb];by_cases h3:x.sides[c.primary.toNat] =0
      case neg=>simp only[if_neg h3]; exact dn 10
      simp only[if_pos h3];cases q with
      |false=>exact dn 7
      |true=>
       simp only[eb];obtain⟨S,t1,t2,ok',hv',se,sS⟩:=JH x ok v1 (id:=c.primary) (e:=(x.master.configs.length:Int)) hp;have vc':=kh ok' hv';obtain⟨l,b,l1,l2,l3⟩:=M2 ok ok' v1 hv' se hp;obtain⟨m,m1,m2,m3,m4,_⟩:=AX c c3;obtain⟨nf,n1,n2⟩:=OO l (eR l3);have okS:S.length=5/\ ∀s∈S,gW 1048576 s:=⟨vc'.len,ok'.1.2⟩
       have htc:ue c<=20:=by have:=a1.len;have:=a2.len;unfold ue ev;omega
       obtain⟨T,⟨t3,t4⟩,i1,i2⟩:=La x S okS c hok htc l l3 m m3 m4
       have zS:ev S=ev x.servers:=by unfold ev;rw[okS.1,vc.len]
       have zT:ev T=ev x.servers:=by unfold ev;rw[t3.1,vc.len]
       obtain⟨r,rb,r1,r2,r3,r4,_⟩:=Ek x.master (x.master.configs.length:Int) ok.2.2.1;have un:=O7 x ok vc S ok' vc' se c l m m3 m4;have ov:=Lb x ok vc S se c l m m3 m4 n1;simp only[fx,fy,z0,hval.2] at i1 i2 un ov
       have fin: ∀n:Int,∃y k,some (ly x S,n,())=some (y,k,())/\some (ly x S,n,())=some (y,k,())/\iq 1048576 y/\vl y<=vl x+10486010:=fun n=>⟨ly x S,n,rfl,rfl,ok',by unfold vl RM;show ev S+eN sB S+ev x.sides+M6 x.master+ev x.places<=_;omega⟩
       have last:iq 1048576 ⟨x.now,T,x.sides,r,x.masterUp,⟨0,0,0⟩,x.places⟩/\vl ⟨x.now,T,x.sides,r,x.masterUp,⟨0,0,0⟩,x.places⟩<=vl x+10486010:=⟨⟨⟨by show T.length<=_; omega,t3.2⟩,ok.2.1,r3,ok.2.2.2⟩,by unfold vl RM;show ev T+eN sB T+ev x.sides+M6 r+ev x.places<=_;omega⟩
       simp only[t1,t2,l1,l2,ae];cases b with
       |false=>exact fin 9
       |true=>
        simp only[eb,m1,m2,ae];rcases un with ⟨u1,u2⟩| ⟨u1,u2⟩
        ·simp only[u1,u2,n2,ae,cu,ek];rcases ov with ⟨o1,o2⟩| ⟨o1,rfl,o2⟩
         ·simp only[o1,ae,cu,i1,i2,show (⟨x.master.configs,x.master.activated⟩:dY)=x.master from rfl,r1,r2];rcases o2 with rfl|o2
          ·exact⟨_,_,rfl,rfl,last⟩
          ·simp only[o2,ae,ek];cases nf<;>exact⟨_,_,rfl,rfl,last⟩
         ·simp only[o1,o2,ae,b8,eb];exact fin 6
        ·simp only[u1,u2,ae,b8,eb];exact fin 10
theorem JK (x:dT) (ok:iq 1048576 x) (c:dW) (hc:gK 1048576 c): ∃y n,nG x c=some (y,n,())/\nQ x c=some (y,n,())/\iq 1048576 y/\y.lease=x.lease/\y.now=x.now/\vl y<=vl x+1+ue c:=by
 have hcn:=Ct c;obtain⟨v,v1,v2⟩:=iL x ok;obtain⟨r,b,r1,r2,r3,r4,_⟩:=Fu x.master c ok.2.2.1 hc;unfold nG nQ jf;simp only[(qI x ok).1,(qI x ok).2,v1,v2,r1,r2,ae,fg];cases v with
 |false=>exact⟨x,1,rfl,rfl,ok,rfl,rfl,by omega⟩
 |true=>
  have hup:=(kh ok v1).up;rw[eK (n:=x.masterUp*2) (by omega) (by omega),eK (n:=2*x.masterUp) (by omega) (by omega),dI 2 x.masterUp];simp only[eb,dV];by_cases h2:x.masterUp*2<=3
  ·simp only[if_pos h2,if_neg (show ¬x.masterUp*2>3 by omega)];exact⟨x,8,rfl,rfl,ok,rfl,rfl,by omega⟩
  ·simp only[if_neg h2,if_pos (show x.masterUp*2>3 by omega)];cases b with
   |false=>exact⟨x,1,rfl,rfl,ok,rfl,rfl,by omega⟩
   |true=>exact⟨⟨x.now,x.servers,x.sides,r,x.masterUp,x.lease,x.places⟩,0,rfl,rfl,⟨ok.1,ok.2.1,r3,ok.2.2.2⟩,rfl,rfl,by unfold vl;show RM x.servers+ev x.sides+M6 r+ev x.places<=_;omega⟩
theorem O9 (x:dT) (ok:iq 1048576 x) (t:Int): ∃y n,rR x t=some (y,n,())/\sj x t=some (y,n,())/\iq 1048576 y/\vl y=vl x:=by
 obtain⟨v,v1,v2⟩:=iL x ok;unfold rR sj;simp only[(qI x ok).1,(qI x ok).2,v1,v2,lV,nX,ae,fg];cases v with
 |false=>exact⟨x,1,rfl,rfl,ok,rfl⟩
 |true=>
  simp only[eb];cases kE t 0 (IntKind.wrap .i64 (999-x.now)) with
  |false=>exact⟨x,1,rfl,rfl,ok,rfl⟩
  |true=>exact⟨⟨IntKind.wrap .i64 (x.now+t),x.servers,x.sides,x.master,x.masterUp,x.lease,x.places⟩,0,rfl,rfl,ok,rfl⟩
theorem Ld (l:fE) (e h n t:Int): ∃r b,oY l e h n t=some (r,b,())/\pi l e h n t=some (r,b,()):=by obtain⟨b,h1,h2⟩:=wZ l;obtain⟨q,q1,q2⟩:=Bu l n;unfold oY pi;simp only[h1,h2,q1,q2,lV,nX,ae];cases (l.epoch==e)<;>cases b<;>cases kE e 1 20<;>cases kE h 0 4<;>cases kE n 0 999<;>cases kE t 1 50<;>cases (l.holder==h)<;>cases q<;>exact⟨_,_,rfl,rfl⟩
theorem Le (x:dT) (ok:iq 1048576 x) (id t:Int): ∃y n,oZ x id t=some (y,n,())/\nk x id t=some (y,n,())/\iq 1048576 y/\vl y=vl x:=by
 obtain⟨v,v1,v2⟩:=iL x ok;unfold oZ nk sO zB iJ fH jf;simp only[(qI x ok).1,(qI x ok).2,v1,v2,lV,nX,ae,fg];have dn: ∀n:Int,∃y k,some (x,n,())=some (y,k,())/\some (x,n,())=some (y,k,())/\iq 1048576 y/\vl y=vl x:=fun n=>⟨x,n,rfl,rfl,ok,rfl⟩
 cases v with
 |false=>exact dn 1
 |true=>
  simp only[eb];cases hw:kE id 0 4 with
  |false=>exact dn 1
  |true=>
   have hw:=fB.1 hw;have hid:0<=id/\id<5:=by omega
   have vc:=kh ok v1;obtain⟨s,s1,s2,_⟩:=sD ok vc hid;obtain⟨p,p1,p2⟩:=Eg s id s2;have hup:=vc.up;have w1:IntKind.wrap .i64 (x.masterUp*2)=x.masterUp*2:=eK (by omega) (by omega);have w2:IntKind.wrap .i64 (2*x.masterUp)=x.masterUp*2:=by rw[eK (by omega) (by omega),dI]
   have hsl:=sC (eR ok.2.1) vc.sides;have hside:id.toNat<x.sides.length:=by omega
   have g1:x.sides[id.toNat]? =some x.sides[id.toNat] :=ah hside;have hlt:=fR s1;have sv:=O6 ok v1 id.toNat hlt;rw[ah hlt] at s1;rw[Option.some.inj s1] at sv;rw[<-ah hlt] at s1;have old:=sv.old ok.2.2.1 vc.ml;obtain⟨r,b,r1,r2⟩:=Ld x.lease s.config.epoch id x.now t;simp only[eb,dZ,if_pos hid.1,s1,ae];cases s.up with
   |false=>exact dn 2
   |true=>
    simp only[eb,kt,if_true,p1,p2,ae,w1,w2,dV,g1];cases p with
    |false=>exact dn 3
    |true=>
     simp only[eb];by_cases h2:x.masterUp*2<=3
     ·simp only[if_pos h2,if_neg (show ¬x.masterUp*2>3 by omega)];exact dn 8
     ·simp only[if_neg h2,if_pos (show x.masterUp*2>3 by omega)];by_cases h3:x.sides[id.toNat] =0
      case neg=>simp only[if_neg h3]; exact dn 8
      simp only[if_pos h3];by_cases h4:s.config.epoch=(x.master.configs.length:Int)
      case neg=>simp only[if_neg h4,if_pos (show (x.master.configs.length:Int)>s.config.epoch by omega)]; exact dn 11
      simp only[if_pos h4,if_neg (show ¬ (x.master.configs.length:Int)>s.config.epoch by omega)];simp only[r1,r2,ae];cases b with
      |false=>exact dn 7
      |true=>exact⟨_,_,rfl,rfl,ok,rfl⟩
theorem Bv (x:dT) (ok:iq 1048576 x) (want term:Int): ∃y n,ma x want term=some (y,n,())/\mg x want term=some (y,n,())/\iq 1048576 y/\vl y<=vl x+10486020:=by
 obtain⟨v,v1,v2⟩:=iL x ok;obtain⟨sv,sv1,sv2⟩:=MZ x ok;obtain⟨c,d,c1,c2,c3,c4,c5⟩:=Lc x ok want;obtain⟨y,n,y1,y2,y3,y4,y5,y6⟩:=JK x ok c c3
 have hcn:ue c<=5:=by unfold ue ev;rw[c5];simp;omega
 obtain⟨t,t1,t2⟩:=JF x.lease;unfold ma mg;simp only[(qI x ok).1,(qI x ok).2,v1,v2,sv1,sv2,c1,c2,y1,y2,y4,y5,t1,t2,lV,nX,ae,fg];have dn: ∀n:Int,∃y k,some (x,n,())=some (y,k,())/\some (x,n,())=some (y,k,())/\iq 1048576 y/\vl y<=vl x+10486020:=fun n=>⟨x,n,rfl,rfl,ok,by omega⟩
 cases v with
 |false=>exact dn 1
 |true=>
 cases kE term 1 50 with
 |false=>exact dn 1
 |true=>
 cases sv with
 |true=>exact dn 0
 |false=>
 cases d with
 |false=>exact dn 10
 |true=>
 simp only[eb,ek,kt];by_cases h0:n=0
 case neg=>simp only[if_neg h0]; exact dn n
 simp only[if_pos h0];obtain⟨z,k,z1,z2,z3,z4⟩:=O9 y y3 (if (IntKind.wrap .i64 (t-x.now))>0 then (IntKind.wrap .i64 (t-x.now)) else 0);simp only[z1,z2,ae];by_cases hk:k=0
 case neg=>simp only[if_neg hk]; exact dn k
 simp only[if_pos hk];obtain⟨a,j,a1,a2,a3,a4⟩:=O8 z z3;simp only[a1,a2,ae];by_cases hj:j=0
 case neg=>simp only[if_neg hj]; exact⟨_,_,rfl,rfl,a3,by omega⟩
 simp only[if_pos hj];obtain⟨w,i,w1,w2,w3,w4⟩:=Le a a3 c.primary term;simp only[w1,w2,ae];exact⟨_,_,rfl,rfl,w3,by omega⟩
end Go.Proofs.YtjnleglhcppgcaaGreat.En
