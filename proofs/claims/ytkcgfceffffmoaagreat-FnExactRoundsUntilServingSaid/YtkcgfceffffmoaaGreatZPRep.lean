/- Repair: the plain law. -/
import Derived.Test.YtkcgfceffffmoaaGreatZPActv
import Derived.Test.YtkcgfceffffmoaaGreatZPNext
namespace Go.Proofs.YtkcgfceffffmoaaGreat.En
open Go
theorem apd (x:dV) (ok:pg 1048576 x): ∃ y n,AU x=some (y,n,())/\xQ x=some (y,n,())/\pg 1048576 y:=by
 obtain⟨v,v1,v2⟩:=od x ok;obtain⟨c,d,c1,c2,c3⟩:=ML x.master (x.master.configs.length:Int) ok.2.2.1
 have d1:uq x.master=some (c,d,()):=by
  unfold uq DC;rw [c1];rfl
 have d2:uA x.master=some (c,d,()):=by
  unfold uA DV;rw [c2];rfl
 obtain⟨q,q1,q2⟩:=Wg x.lease x.now;unfold AU G3 xQ Hh mR tP;simp only [(EH x ok).1,(EH x ok).2,d1,d2,v1,v2,q1,q2,ae,iq];have dn: ∀ n:Int,∃ y k,some (x,n,())=some (y,k,())/\some (x,n,())=some (y,k,())/\pg 1048576 y:=fun n=>⟨x,n,rfl,rfl,ok⟩
 cases v with
 | false=>exact dn 1
 | true=>
   cases d with
   | false=>exact dn 1
   | true=>
     have vc:=rU ok v1;obtain⟨_,f2,f3⟩:=SX (q9 ok.2.2.1) vc.ml
     have hval:fI c=some (true,())/\c.epoch=(x.master.configs.length:Int):=by
      obtain⟨c',b',e1,_,_,_,e5,_⟩:=MM x.master (x.master.configs.length:Int) ok.2.2.1 vc.ml;rw [c1] at e1;simp only [af,aq,and_true] at e1;obtain⟨rfl,rfl⟩:=e1;exact e5 rfl
     obtain⟨a1,a2,hpr,_⟩:=Gw c3 hval.1;have hok:nm 1048576 c:=⟨by have:=a1.len; omega,by have:=a2.len; omega⟩
     have hp:0<=c.primary/\c.primary < 5:=by
      obtain⟨k,hk,e⟩:=aM hpr;have:=(a1 k hk).1;omega
     obtain⟨s,s1,s2,_⟩:=Gz ok vc hp;have hup:=vc.up;have hsl:=Gy (gJ ok.2.1) vc.sides;have hside:c.primary.toNat < x.sides.length:=by omega
     have g1:x.sides[c.primary.toNat]? =some x.sides[c.primary.toNat] :=ai hside;have w1:IntKind.wrap .i64 (x.masterUp*2)=x.masterUp*2:=iY (by omega) (by omega);have w2:IntKind.wrap .i64 (2*x.masterUp)=x.masterUp*2:=by rw [iY (by omega) (by omega),dH]
     simp only [ew,ec,sx,w1,w2,hval.2];by_cases h1: (x.master.configs.length:Int)=x.master.activated
     ·simp only [if_pos h1,if_pos (show (x.master.configs.length:Int)<=x.master.activated by omega)];exact dn 1
     ·simp only [if_neg h1,if_neg (show ¬ (x.master.configs.length:Int)<=x.master.activated by omega)];by_cases h2:x.masterUp*2<=3
      ·simp only [if_pos h2,if_neg (show ¬ x.masterUp*2 > 3 by omega)];exact dn 8
      ·simp only [if_neg h2,if_pos (show x.masterUp*2 > 3 by omega),ew,fA,ez,if_pos hp.1,s1,g1,ae];cases s.up with
       | false=>exact dn 2
       | true=>
         simp only [ew];by_cases h3:x.sides[c.primary.toNat] =0
         case neg=>simp only [if_neg h3]; exact dn 10
         simp only [if_pos h3];cases q with
         | false=>exact dn 7
         | true=>
           simp only [ew];obtain⟨S,t1,t2,ok',hv',se⟩:=ai1 x ok v1 (id:=c.primary) (e:=(x.master.configs.length:Int)) hp;have vc':=rU ok' hv';obtain⟨l,b,l1,l2,l3⟩:=am2 ok ok' v1 hv' se hp;obtain⟨m,m1,m2,m3,m4,_⟩:=Ve c c3;obtain⟨nf,n1,n2⟩:=aoU l (gJ l3);have okS:S.length=5/\ ∀ s∈S,nX 1048576 s:=⟨vc'.len,ok'.1.2⟩
           obtain⟨T,t3,i1,i2⟩:=akQ x S okS c hok l l3 m m3 m4;obtain⟨r,rb,r1,r2,r3,_⟩:=aba x.master (x.master.configs.length:Int) ok.2.2.1;have un:=apc x ok vc S ok' vc' se c l m m3 m4;have ov:=akR x ok vc S se c l m m3 m4 n1;simp only [fx,fy,z0,hval.2] at i1 i2 un ov;have fin: ∀ n:Int,∃ y k,some (uf x S,n,())=some (y,k,())/\some (uf x S,n,())=some (y,k,())/\pg 1048576 y:=fun n=>⟨uf x S,n,rfl,rfl,ok'⟩
           have last:pg 1048576 ⟨x.now,T,x.sides,r,x.masterUp,⟨0,0,0⟩,x.places⟩:=⟨⟨by show T.length<=_; omega,t3.2⟩,ok.2.1,r3,ok.2.2.2⟩
           simp only [t1,t2,l1,l2,ae];cases b with
           | false=>exact fin 9
           | true=>
             simp only [ew,m1,m2,ae];rcases un with ⟨u1,u2⟩ | ⟨u1,u2⟩
             ·simp only [u1,u2,n2,ae,aB,fA];rcases ov with ⟨o1,o2⟩ | ⟨o1,rfl,o2⟩
              ·simp only [o1,ae,aB,i1,i2,show (⟨x.master.configs,x.master.activated⟩:ei)=x.master from rfl,r1,r2];rcases o2 with rfl | o2
               ·exact⟨_,_,rfl,rfl,last⟩
               ·simp only [o2,ae,fA];cases nf <;> exact⟨_,_,rfl,rfl,last⟩
              ·simp only [o1,o2,ae,aA,ew];exact fin 6
             ·simp only [u1,u2,ae,aA,ew];exact fin 10
theorem ai4 (x:dV) (ok:pg 1048576 x) (c:dW) (hc:nm 1048576 c): ∃ y n,rY x c=some (y,n,())/\sk x c=some (y,n,())/\pg 1048576 y/\y.lease=x.lease/\y.now=x.now:=by
 obtain⟨v,v1,v2⟩:=od x ok;obtain⟨r,b,r1,r2,r3,_⟩:=adb x.master c ok.2.2.1 hc;unfold rY B6 sk CD mR tP;simp only [(EH x ok).1,(EH x ok).2,v1,v2,r1,r2,ae,iq];cases v with
 | false=>exact⟨x,1,rfl,rfl,ok,rfl,rfl⟩
 | true=>
   have hup:=(rU ok v1).up;rw [iY (n:=x.masterUp*2) (by omega) (by omega),iY (n:=2*x.masterUp) (by omega) (by omega),dH 2 x.masterUp];simp only [ew,ec];by_cases h2:x.masterUp*2<=3
   ·simp only [if_pos h2,if_neg (show ¬ x.masterUp*2 > 3 by omega)];exact⟨x,8,rfl,rfl,ok,rfl,rfl⟩
   ·simp only [if_neg h2,if_pos (show x.masterUp*2 > 3 by omega)];cases b with
    | false=>exact⟨x,1,rfl,rfl,ok,rfl,rfl⟩
    | true=>exact⟨⟨x.now,x.servers,x.sides,r,x.masterUp,x.lease,x.places⟩,0,rfl,rfl,⟨ok.1,ok.2.1,r3,ok.2.2.2⟩,rfl,rfl⟩
theorem ape (x:dV) (ok:pg 1048576 x) (t:Int): ∃ y n,AQ x t=some (y,n,())/\A4 x t=some (y,n,())/\pg 1048576 y:=by
 obtain⟨v,v1,v2⟩:=od x ok;unfold AQ GZ A4 Hc;simp only [(EH x ok).1,(EH x ok).2,v1,v2,vk,z6,ae,iq];cases v with
 | false=>exact⟨x,1,rfl,rfl,ok⟩
 | true=>
   simp only [ew];cases sP t 0 (IntKind.wrap .i64 (999 - x.now)) with
   | false=>exact⟨x,1,rfl,rfl,ok⟩
   | true=>exact⟨⟨IntKind.wrap .i64 (x.now+t),x.servers,x.sides,x.master,x.masterUp,x.lease,x.places⟩,0,rfl,rfl,ok⟩
theorem akT (l:ir) (e h n t:Int): ∃ r b,uw l e h n t=some (r,b,())/\uI l e h n t=some (r,b,()):=by
 obtain⟨b,h1,h2⟩:=Ni l;obtain⟨q,q1,q2⟩:=Wg l n;unfold uw DJ uI D0;simp only [h1,h2,q1,q2,vk,z6,ae];cases (l.epoch==e) <;> cases b <;> cases sP e 1 20 <;> cases sP h 0 4 <;> cases sP n 0 999 <;> cases sP t 1 50 <;> cases (l.holder==h) <;> cases q <;> exact⟨_,_,rfl,rfl⟩
theorem akU (x:dV) (ok:pg 1048576 x) (id t:Int): ∃ y n,ux x id t=some (y,n,())/\rQ x id t=some (y,n,())/\pg 1048576 y:=by
 obtain⟨v,v1,v2⟩:=od x ok;unfold ux DK rQ D3 Bm Fi IL Nh ma tI iR ox mR tP;simp only [(EH x ok).1,(EH x ok).2,v1,v2,vk,z6,ae,iq];have dn: ∀ n:Int,∃ y k,some (x,n,())=some (y,k,())/\some (x,n,())=some (y,k,())/\pg 1048576 y:=fun n=>⟨x,n,rfl,rfl,ok⟩
 cases v with
 | false=>exact dn 1
 | true=>
   simp only [ew];cases hw:sP id 0 4 with
   | false=>exact dn 1
   | true=>
     have hw:=jD.1 hw;have hid:0<=id/\id < 5:=by omega
     have vc:=rU ok v1;obtain⟨s,s1,s2,_⟩:=Gz ok vc hid;obtain⟨p,p1,p2⟩:=aa6 s id s2;have hup:=vc.up;have w1:IntKind.wrap .i64 (x.masterUp*2)=x.masterUp*2:=iY (by omega) (by omega);have w2:IntKind.wrap .i64 (2*x.masterUp)=x.masterUp*2:=by rw [iY (by omega) (by omega),dH]
     have hsl:=Gy (gJ ok.2.1) vc.sides;have hside:id.toNat < x.sides.length:=by omega
     have g1:x.sides[id.toNat]? =some x.sides[id.toNat] :=ai hside;have hlt:=nG s1;have sv:=apb ok v1 id.toNat hlt;rw [ai hlt] at s1;rw [Option.some.inj s1] at sv;rw [<-ai hlt] at s1;have old:=sv.old ok.2.2.1 vc.ml;obtain⟨r,b,r1,r2⟩:=akT x.lease s.config.epoch id x.now t;simp only [ew,ez,if_pos hid.1,s1,ae];cases s.up with
     | false=>exact dn 2
     | true=>
       simp only [ew,sx,if_true,p1,p2,ae,w1,w2,ec,g1];cases p with
       | false=>exact dn 3
       | true=>
         simp only [ew];by_cases h2:x.masterUp*2<=3
         ·simp only [if_pos h2,if_neg (show ¬ x.masterUp*2 > 3 by omega)];exact dn 8
         ·simp only [if_neg h2,if_pos (show x.masterUp*2 > 3 by omega)];by_cases h3:x.sides[id.toNat] =0
          case neg=>simp only [if_neg h3]; exact dn 8
          simp only [if_pos h3];by_cases h4:s.config.epoch=(x.master.configs.length:Int)
          case neg=>simp only [if_neg h4,if_pos (show (x.master.configs.length:Int) > s.config.epoch by omega)]; exact dn 11
          simp only [if_pos h4,if_neg (show ¬ (x.master.configs.length:Int) > s.config.epoch by omega)];simp only [r1,r2,ae];cases b with
          | false=>exact dn 7
          | true=>exact⟨_,_,rfl,rfl,ok⟩
theorem ai5 (x:dV) (ok:pg 1048576 x) (want term:Int): ∃ y n,sa x want term=some (y,n,())/\sq x want term=some (y,n,())/\pg 1048576 y:=by
 obtain⟨v,v1,v2⟩:=od x ok;obtain⟨sv,sv1,sv2⟩:=Vf x ok;obtain⟨c,d,c1,c2,c3,_⟩:=akS x ok want;obtain⟨y,n,y1,y2,y3,y4,y5⟩:=ai4 x ok c c3;obtain⟨t,t1,t2⟩:=aiZ x.lease;unfold sa Cd sq CS;simp only [(EH x ok).1,(EH x ok).2,v1,v2,sv1,sv2,c1,c2,y1,y2,y4,y5,t1,t2,vk,z6,ae,iq];have dn: ∀ n:Int,∃ y k,some (x,n,())=some (y,k,())/\some (x,n,())=some (y,k,())/\pg 1048576 y:=fun n=>⟨x,n,rfl,rfl,ok⟩
 cases v with
 | false=>exact dn 1
 | true=>
 cases sP term 1 50 with
 | false=>exact dn 1
 | true=>
 cases sv with
 | true=>exact dn 0
 | false=>
 cases d with
 | false=>exact dn 10
 | true=>
 simp only [ew,fA,sx];by_cases h0:n=0
 case neg=>simp only [if_neg h0]; exact dn n
 simp only [if_pos h0];obtain⟨z,k,z1,z2,z3⟩:=ape y y3 (if (IntKind.wrap .i64 (t - x.now)) > 0 then (IntKind.wrap .i64 (t - x.now)) else 0);simp only [z1,z2,ae];by_cases hk:k=0
 case neg=>simp only [if_neg hk]; exact dn k
 simp only [if_pos hk];obtain⟨a,j,a1,a2,a3⟩:=apd z z3;simp only [a1,a2,ae];by_cases hj:j=0
 case neg=>simp only [if_neg hj]; exact⟨_,_,rfl,rfl,a3⟩
 simp only [if_pos hj];obtain⟨w,i,w1,w2,w3⟩:=akU a a3 c.primary term;simp only [w1,w2,ae];exact⟨_,_,rfl,rfl,w3⟩
theorem arU (x:dV) (ok:pg 1048576 x) (want:Int): ∃ n,ld x want=some (n,())/\lx x want=some (n,()):=by
 obtain⟨y,n,y1,y2,y3⟩:=ai5 x ok want 50;obtain⟨a,a1,a2⟩:=Vf x ok;obtain⟨b,b1,b2⟩:=Vf y y3;unfold ld qy lx qz;simp only [y1,y2,a1,a2,b1,b2,ae];cases a <;> cases b <;> exact⟨_,rfl,rfl⟩
theorem akV (x:dV) (want:Int) (h:pg maxLen x):ji x want=some (true,()):=by
 unfold ji mo;obtain⟨n,g1,g2⟩:=asG x h;simp only [g1,ae,ec];split
 ·rfl
 ·obtain⟨ok,_⟩:=g2 (by omega);obtain⟨r,r1,r2⟩:=arU x ok want;simp only [amT x ok,r1,r2,ae,aa1 x ok,beq_self_eq_true,bw,fA]
end Go.Proofs.YtkcgfceffffmoaaGreat.En
