/- Plain laws. -/
import Derived.Test.YtkghndikalnipaaGreatZPNext
set_option linter.unusedSimpArgs false
set_option linter.unusedVariables false
namespace Go.Proofs.YtkghndikalnipaaGreat.En
open Go
section
theorem Yf(x:oZ)(ok:Dd 1048576 x): ∃y n,FT x=some (y,n,())/\Ko x=some (y,n,())/\Dd 1048576 y/\Tq y<=Tq x+10486010:=by
 obtain⟨v,v1,v2⟩:=Dg x ok;obtain⟨c,d,c1,c2,c3⟩:=KX x.master (x.master.configs.length:Int) ok.2.2.1
 have d1:FB x.master=some (c,d,()):=by unfold FB;rw[c1];rfl
 have d2:JM x.master=some (c,d,()):=by unfold JM;rw[c2];rfl
 obtain⟨q,q1,q2⟩:=MO x.lease x.now;unfold FT Ko F4;simp only[(D4 x ok).1,(D4 x ok).2,d1,d2,v1,v2,q1,q2,an,CQ];have dn: ∀n:Int,∃y k,some (x,n,())=some (y,k,())/\some (x,n,())=some (y,k,())/\Dd 1048576 y/\Tq y<=Tq x+10486010:=λn=>⟨x,n,rfl,rfl,ok,by omega⟩
 cases v with
 |false=>exact dn 1
 |true=>
  cases d with
  |false=>exact dn 1
  |true=>
   have vc:=Dl ok v1;obtain⟨_,f2,f3⟩:=LS (ED ok.2.2.1) vc.ml
   have hval:CV c=some (true,())/\c.epoch=(x.master.configs.length:Int):=by obtain⟨c',b',e1,_,_,_,e5,_⟩:=H8 x.master (x.master.configs.length:Int) ok.2.2.1 vc.ml;rw[c1] at e1;simp only[ae,ap,and_true] at e1;obtain⟨rfl,rfl⟩:=e1;exact e5 rfl
   obtain⟨a1,a2,hpr,_⟩:=Gh c3 hval.1;have hok:D5 1048576 c:=⟨by have:=a1.len;omega,by have:=a2.len;omega⟩
   have hp:0<=c.primary/\c.primary<5:=by obtain⟨k,hk,e⟩:=aP hpr;have:=(a1 k hk).1;omega
   obtain⟨s,s1,s2,_⟩:=Hq ok vc hp;have hup:=vc.up;have hsl:=GO (CW ok.2.1) vc.sides;have hside:c.primary.toNat<x.sides.length:=by omega
   have g1:x.sides[c.primary.toNat]? =some x.sides[c.primary.toNat] :=ao hside;have w1:IntKind.wrap .i64 (x.masterUp*2)=x.masterUp*2:=uj (by omega) (by omega);have w2:IntKind.wrap .i64 (2*x.masterUp)=x.masterUp*2:=by rw[uj (by omega) (by omega),Int.mul_comm]
   simp only[Bg,BB,Fm,w1,w2,hval.2];by_cases h1: (x.master.configs.length:Int)=x.master.activated
   ·simp only[if_pos h1,if_pos (show (x.master.configs.length:Int)<=x.master.activated by omega)];exact dn 1
   ·simp only[if_neg h1,if_neg (show ¬ (x.master.configs.length:Int)<=x.master.activated by omega)];by_cases h2:x.masterUp*2<=3
    ·simp only[if_pos h2,if_neg (show ¬x.masterUp*2>3 by omega)];exact dn 8
    ·simp only[if_neg h2,if_pos (show x.masterUp*2>3 by omega),Bg,Ar,AJ,if_pos hp.1,s1,g1,an];cases s.up with
     |false=>exact dn 2
     |true=>
      simp only[Bg];by_cases h3:x.sides[c.primary.toNat] =0
      case neg=>simp only[if_neg h3];exact dn 10
      simp only[if_pos h3];cases q with
      |false=>exact dn 7
      |true=>
       simp only[Bg];obtain⟨S,t1,t2,ok',hv',se,sS⟩:=RB x ok v1 (id:=c.primary) (e:=(x.master.configs.length:Int)) hp;have vc':=Dl ok' hv';obtain⟨l,b,l1,l2,l3⟩:=Uu ok ok' v1 hv' se hp;obtain⟨m,m1,m2,m3,m4,_⟩:=LZ c c3;obtain⟨nf,n1,n2⟩:=Zp l (CW l3);have okS:S.length=5/\ ∀s∈S,Dz 1048576 s:=⟨vc'.len,ok'.1.2⟩
       have htc:Qd c<=20:=by have:=a1.len;have:=a2.len;unfold Qd H6;omega
       obtain⟨T,⟨t3,t4⟩,i1,i2⟩:=Wh x S okS c hok htc l l3 m m3 m4
       have zS:H6 S=H6 x.servers:=by unfold H6;rw[okS.1,vc.len]
       have zT:H6 T=H6 x.servers:=by unfold H6;rw[t3.1,vc.len]
       obtain⟨r,rb,r1,r2,r3,r4,_⟩:=Sa x.master (x.master.configs.length:Int) ok.2.2.1;have un:=ZK x ok vc S ok' vc' se c l m m3 m4;have ov:=WN x ok vc S se c l m m3 m4 n1;simp only[fx,fy,z0,hval.2] at i1 i2 un ov
       have fin: ∀n:Int,∃y k,some (Hn x S,n,())=some (y,k,())/\some (Hn x S,n,())=some (y,k,())/\Dd 1048576 y/\Tq y<=Tq x+10486010:=λn=>⟨Hn x S,n,rfl,rfl,ok',by unfold Tq tSs;show H6 S+K9 NN S+H6 x.sides+tMl x.master+H6 x.places<=_;omega⟩
       have last:Dd 1048576 ⟨x.now,T,x.sides,r,x.masterUp,⟨0,0,0⟩,x.places⟩/\Tq ⟨x.now,T,x.sides,r,x.masterUp,⟨0,0,0⟩,x.places⟩<=Tq x+10486010:=⟨⟨⟨by show T.length<=_;omega,t3.2⟩,ok.2.1,r3,ok.2.2.2⟩,by unfold Tq tSs;show H6 T+K9 NN T+H6 x.sides+tMl r+H6 x.places<=_;omega⟩
       simp only[t1,t2,l1,l2,an];cases b with
       |false=>exact fin 9
       |true=>
        simp only[Bg,m1,m2,an];rcases un with ⟨u1,u2⟩| ⟨u1,u2⟩
        ·simp only[u1,u2,n2,an,Cz,Ar];rcases ov with ⟨o1,o2⟩| ⟨o1,rfl,o2⟩
         ·simp only[o1,an,Cz,i1,i2,show (⟨x.master.configs,x.master.activated⟩:jw)=x.master from rfl,r1,r2];rcases o2 with rfl|o2
          ·exact⟨_,_,rfl,rfl,last⟩
          ·simp only[o2,an,Ar];cases nf<;>exact⟨_,_,rfl,rfl,last⟩
         ·simp only[o1,o2,an,Cw,Bg];exact fin 6
        ·simp only[u1,u2,an,Cw,Bg];exact fin 10
theorem RA(x:oZ)(ok:Dd 1048576 x)(c:mD)(hc:D5 1048576 c): ∃y n,FC x c=some (y,n,())/\IX x c=some (y,n,())/\Dd 1048576 y/\y.lease=x.lease/\y.now=x.now/\Tq y<=Tq x+1+Qd c:=by
 have hcn:=R8 c;obtain⟨v,v1,v2⟩:=Dg x ok;obtain⟨r,b,r1,r2,r3,r4,_⟩:=TX x.master c ok.2.2.1 hc;unfold FC IX F4;simp only[(D4 x ok).1,(D4 x ok).2,v1,v2,r1,r2,an,CQ];cases v with
 |false=>exact⟨x,1,rfl,rfl,ok,rfl,rfl,by omega⟩
 |true=>
  have hup:=(Dl ok v1).up;rw[uj (n:=x.masterUp*2) (by omega) (by omega),uj (n:=2*x.masterUp) (by omega) (by omega),Int.mul_comm 2 x.masterUp];simp only[Bg,BB];by_cases h2:x.masterUp*2<=3
  ·simp only[if_pos h2,if_neg (show ¬x.masterUp*2>3 by omega)];exact⟨x,8,rfl,rfl,ok,rfl,rfl,by omega⟩
  ·simp only[if_neg h2,if_pos (show x.masterUp*2>3 by omega)];cases b with
   |false=>exact⟨x,1,rfl,rfl,ok,rfl,rfl,by omega⟩
   |true=>exact⟨⟨x.now,x.servers,x.sides,r,x.masterUp,x.lease,x.places⟩,0,rfl,rfl,⟨ok.1,ok.2.1,r3,ok.2.2.2⟩,rfl,rfl,by unfold Tq;show tSs x.servers+H6 x.sides+tMl r+H6 x.places<=_;omega⟩
theorem VW(x:oZ)(ok:Dd 1048576 x)(t:Int): ∃y n,Ih x t=some (y,n,())/\L6 x t=some (y,n,())/\Dd 1048576 y/\Tq y=Tq x:=by
 obtain⟨v,v1,v2⟩:=Dg x ok;unfold Ih L6;simp only[(D4 x ok).1,(D4 x ok).2,v1,v2,DC,Hk,an,CQ];cases v with
 |false=>exact⟨x,1,rfl,rfl,ok,rfl⟩
 |true=>
  simp only[Bg];cases Ff t 0 (IntKind.wrap .i64 (999-x.now)) with
  |false=>exact⟨x,1,rfl,rfl,ok,rfl⟩
  |true=>exact⟨⟨IntKind.wrap .i64 (x.now+t),x.servers,x.sides,x.master,x.masterUp,x.lease,x.places⟩,0,rfl,rfl,ok,rfl⟩
theorem Si(l:s7)(e h n t:Int): ∃r b,Hz l e h n t=some (r,b,())/\JL l e h n t=some (r,b,()):=by obtain⟨b,h1,h2⟩:=NW l;obtain⟨q,q1,q2⟩:=MO l n;unfold Hz JL;simp only[h1,h2,q1,q2,DC,Hk,an];cases (l.epoch==e)<;>cases b<;>cases Ff e 1 20<;>cases Ff h 0 4<;>cases Ff n 0 999<;>cases Ff t 1 50<;>cases (l.holder==h)<;>cases q<;>exact⟨_,_,rfl,rfl⟩
theorem WS(x:oZ)(ok:Dd 1048576 x)(id t:Int): ∃y n,FD x id t=some (y,n,())/\IG x id t=some (y,n,())/\Dd 1048576 y/\Tq y=Tq x:=by
 obtain⟨v,v1,v2⟩:=Dg x ok;unfold FD IG Ik Qk Eb Dk F4;simp only[(D4 x ok).1,(D4 x ok).2,v1,v2,DC,Hk,an,CQ];have dn: ∀n:Int,∃y k,some (x,n,())=some (y,k,())/\some (x,n,())=some (y,k,())/\Dd 1048576 y/\Tq y=Tq x:=λn=>⟨x,n,rfl,rfl,ok,rfl⟩
 cases v with
 |false=>exact dn 1
 |true=>
  simp only[Bg];cases hw:Ff id 0 4 with
  |false=>exact dn 1
  |true=>
   have hw:=CS.1 hw;have hid:0<=id/\id<5:=by omega
   have vc:=Dl ok v1;obtain⟨s,s1,s2,_⟩:=Hq ok vc hid;obtain⟨p,p1,p2⟩:=Jv s id s2;have hup:=vc.up;have w1:IntKind.wrap .i64 (x.masterUp*2)=x.masterUp*2:=uj (by omega) (by omega);have w2:IntKind.wrap .i64 (2*x.masterUp)=x.masterUp*2:=by rw[uj (by omega) (by omega),Int.mul_comm]
   have hsl:=GO (CW ok.2.1) vc.sides;have hside:id.toNat<x.sides.length:=by omega
   have g1:x.sides[id.toNat]? =some x.sides[id.toNat] :=ao hside;have hlt:=BI s1;have sv:=Pf ok v1 id.toNat hlt;rw[ao hlt] at s1;rw[Option.some.inj s1] at sv;rw[<-ao hlt] at s1;have old:=sv.old ok.2.2.1 vc.ml;obtain⟨r,b,r1,r2⟩:=Si x.lease s.config.epoch id x.now t;simp only[Bg,AJ,if_pos hid.1,s1,an];cases s.up with
   |false=>exact dn 2
   |true=>
    simp only[Bg,Fm,if_true,p1,p2,an,w1,w2,BB,g1];cases p with
    |false=>exact dn 3
    |true=>
     simp only[Bg];by_cases h2:x.masterUp*2<=3
     ·simp only[if_pos h2,if_neg (show ¬x.masterUp*2>3 by omega)];exact dn 8
     ·simp only[if_neg h2,if_pos (show x.masterUp*2>3 by omega)];by_cases h3:x.sides[id.toNat] =0
      case neg=>simp only[if_neg h3];exact dn 8
      simp only[if_pos h3];by_cases h4:s.config.epoch=(x.master.configs.length:Int)
      case neg=>simp only[if_neg h4,if_pos (show (x.master.configs.length:Int)>s.config.epoch by omega)];exact dn 11
      simp only[if_pos h4,if_neg (show ¬ (x.master.configs.length:Int)>s.config.epoch by omega)];simp only[r1,r2,an];cases b with
      |false=>exact dn 7
      |true=>exact⟨_,_,rfl,rfl,ok,rfl⟩
theorem V2(x:oZ)(ok:Dd 1048576 x)(want term:Int): ∃y n,E5 x want term=some (y,n,())/\IY x want term=some (y,n,())/\Dd 1048576 y/\Tq y<=Tq x+10486020:=by
 obtain⟨v,v1,v2⟩:=Dg x ok;obtain⟨sv,sv1,sv2⟩:=QM x ok;obtain⟨c,d,c1,c2,c3,c4,c5⟩:=S4 x ok want;obtain⟨y,n,y1,y2,y3,y4,y5,y6⟩:=RA x ok c c3
 have hcn:Qd c<=5:=by unfold Qd H6;rw[c5];simp;omega
 obtain⟨t,t1,t2⟩:=Tn x.lease;unfold E5 IY;simp only[(D4 x ok).1,(D4 x ok).2,v1,v2,sv1,sv2,c1,c2,y1,y2,y4,y5,t1,t2,DC,Hk,an,CQ];have dn: ∀n:Int,∃y k,some (x,n,())=some (y,k,())/\some (x,n,())=some (y,k,())/\Dd 1048576 y/\Tq y<=Tq x+10486020:=λn=>⟨x,n,rfl,rfl,ok,by omega⟩
 cases v with
 |false=>exact dn 1
 |true=>
 cases Ff term 1 50 with
 |false=>exact dn 1
 |true=>
 cases sv with
 |true=>exact dn 0
 |false=>
 cases d with
 |false=>exact dn 10
 |true=>
 simp only[Bg,Ar,Fm];by_cases h0:n=0
 case neg=>simp only[if_neg h0];exact dn n
 simp only[if_pos h0];obtain⟨z,k,z1,z2,z3,z4⟩:=VW y y3 (if (IntKind.wrap .i64 (t-x.now))>0 then (IntKind.wrap .i64 (t-x.now)) else 0);simp only[z1,z2,an];by_cases hk:k=0
 case neg=>simp only[if_neg hk];exact dn k
 simp only[if_pos hk];obtain⟨a,j,a1,a2,a3,a4⟩:=Yf z z3;simp only[a1,a2,an];by_cases hj:j=0
 case neg=>simp only[if_neg hj];exact⟨_,_,rfl,rfl,a3,by omega⟩
 simp only[if_pos hj];obtain⟨w,i,w1,w2,w3,w4⟩:=WS a a3 c.primary term;simp only[w1,w2,an];exact⟨_,_,rfl,rfl,w3,by omega⟩
end
section
def P3:List mq->Int->Nat
 | [],_=>0
 |x::l,c=>if x.client<c then P3 l c+1 else 0
theorem aah(l:List mq)(c:Int):P3 l c<=l.length:=by
 induction l with
 |nil=>exact aw _
 |cons x l ih=>
  unfold P3;split
  ·simp only[bA];omega
  ·exact bL _
theorem aai{l:List mq}{c:Int}(h: ∃x∈l,x.client=c):P3 l c<l.length:=by
 induction l with
 |nil=>obtain⟨x,hx,_⟩:=h;cases hx
 |cons y l ih=>
  unfold P3;split
  ·rename_i hy;obtain⟨x,hx,hc⟩:=h;rcases aW.1 hx with rfl|hx
   ·omega
   ·have:=ih ⟨x,hx,hc⟩;simp only[bA];omega
  ·simp
theorem acH(b d:Bool)(v:Int)(o:Op)(objs:List Int)(l:List mq)(hl:l.length<=1000):LO (((),(),(),(),b,(),0,()),((o.client,o.seq,o.kind,o.object,o.old,o.value,()),((),(),()),(false,0,()),((),(),()),(d,v,()),()),objs,l,())=
  some (((),(),(),(),b,(),((P3 l o.client:Nat):Int),()),((o.client,o.seq,o.kind,o.object,o.old,o.value,()),((),(),()),(false,0,()),((),(),()),(d,v,()),()),objs,l,()):=by
 have ml:l.length<=maxLen:=by unfold maxLen;omega
 have eX:=AN (B:=Iz) l (λk (_:Unit)=>(((),(),(),(),b,(),(k:Int),()),((o.client,o.seq,o.kind,o.object,o.old,o.value,()),((),(),()),(false,0,()),((),(),()),(d,v,()),()),objs,l,())) (λ_ _=>True)
  (λk r _=>(((),(),(),(),b,(),((k+P3 r o.client:Nat):Int),()),((o.client,o.seq,o.kind,o.object,o.old,o.value,()),((),(),()),(false,0,()),((),(),()),(d,v,()),()),objs,l,()))
  (λ_ _=>by simp only[Iz];rw[BB,if_neg (by omega)];rfl)
  (λk _ x hx _=>by
    have hk:=BI hx;have c1: (k:Int)< (l.length:Int):=by omega
    have c2: (0:Int)<=(k:Int)/\(k:Int)< (l.length:Int):=by omega
    simp only[Iz,BB,AJ,if_pos c1,if_pos c2,Cj,hx,an,Ap ml hk];by_cases h:x.client<o.client
    ·rw[if_pos h];refine .inl ⟨(),rfl,trivial,?_⟩;rw[P3,if_pos h,show k+(P3 (l.drop (k+1)) o.client+1)=k+1+P3 (l.drop (k+1)) o.client by omega]
    ·rw[if_neg h];refine .inr ?_;rw[P3,if_neg h];rfl) 0 () (bL _) trivial
 simp only[aM,ct] at eX;exact eX
theorem Xu{o:Op}(h:DM o=some (true,())):0<=o.object/\o.object<=2:=by
 unfold DM at h;simp only[DC,an] at h;cases h1:Ff o.client 0 2 with
 |false=>rw[h1] at h;cases h
 |true=>
  cases h2:Ff o.seq 1 99 with
  |false=>rw[h1,h2] at h;cases h
  |true=>
   cases h3:Ff o.object 0 2 with
   |false=>rw[h1,h2,h3] at h;cases h
   |true=>exact CS.1 h3
def opB(o:Op):Bool:=match DM o with |some (b,_)=>b|none=>false
theorem N6(o:Op):DM o=some (opB o,()):=by obtain⟨b,h,_⟩:=Xz o;unfold opB;rw[h]
def XW(l:List pZ)(k:Nat):Bool:=match l[k]? with
 |some e=>Ff e.epoch 1 20&&(opB e.op&&(decide (k=0)||match l[k-1]? with |some d=> !decide (d.epoch>e.epoch)|none=>false))
 |none=>false
theorem Nm(l:List pZ)(hl:l.length<=maxLen):DU l=some (true,())↔l.length<=16/\ ∀k,k<l.length->XW l k=true:=by
 have eX:=Nv (B:=IB) l.length (λk=>((l,(k:Int),()),(),())) (.inr ((l,(),()),(),())) (λ_=> .inl ((l,false,()),(),())) (λk=> !XW l k)
  (by simp only[IB];rw[BB,if_neg (by omega)])
  (λk hk=>by
    have c1: (k:Int)< (l.length:Int):=by omega
    have c2: (0:Int)<=(k:Int):=by omega
    simp only[IB,BB,AJ,if_pos c1,if_pos c2,Cj,ao hk,an,N6,DC,Ap hl hk,CQ,XW];cases Ff l[k].epoch 1 20 with
    |false=>rfl
    |true=>
     cases opB l[k].op with
     |false=>rfl
     |true=>
      by_cases h0:0<k
      ·have c3: (k:Int)>0:=by omega
       have c4: (0:Int)<=((k-1:Nat):Int):=by omega
       have c5: ¬k=0:=by omega
       have e2:l[k-1]? =some l[k-1] :=ao (by omega);simp only[Bg,if_pos c3,Ao h0 (by omega),if_pos c4,Cj,e2,an,decide_eq_false c5,df,bW,Bool.not_not];by_cases hlt:l[k-1].epoch>l[k].epoch
       ·rw[if_pos hlt,decide_eq_true hlt];rfl
       ·rw[if_neg hlt,decide_eq_false hlt];rfl
      ·have c3: ¬ (k:Int)>0:=by omega
       have c5:k=0:=by omega
       simp only[Bg,if_neg c3,decide_eq_true c5];rfl)
 unfold DU;rcases eX with ⟨k1,k2⟩| ⟨k,h0,k1,k2,_⟩
 ·rw[show Nw ((l,0,()),(),())=_ from k1];simp only[an,Cz,ae,ap,and_true,decide_eq_true_eq];constructor
  ·intro h;exact⟨by omega,λk hk=>by simpa using k2 k hk⟩
  ·intro h;omega
 ·rw[show Nw ((l,0,()),(),())=_ from k1];simp only[an,Cw,ae,ap,and_true];constructor
  ·intro h;cases h
  ·rintro⟨_,h⟩
   have:=h k h0;rw[this] at k2;cases k2
structure VM (m:mp):Prop where
 vlen:m.objects.length=3
 vobj: ∀v∈m.objects,Ff v 0 9=true
 vses: ∀x∈m.sessions,Ff x.client 0 2=true/\Ff x.seq 1 99=true/\Ff x.result.value 0 9=true
 vasc:m.sessions.Pairwise λx y=>x.client<y.client
theorem abU{o:Op}(h:opB o=true):Ff o.client 0 2=true/\Ff o.seq 1 99=true/\Ff o.value 0 9=true:=by
 have h0:DM o=some (true,()):=by rw[N6,h]
 unfold DM at h0;simp only[DC,an] at h0;cases h1:Ff o.client 0 2 with
 |false=>rw[h1] at h0;cases h0
 |true=>
  cases h2:Ff o.seq 1 99 with
  |false=>rw[h1,h2] at h0;cases h0
  |true=>
   cases h3:Ff o.object 0 2 with
   |false=>rw[h1,h2,h3] at h0;cases h0
   |true=>
    cases h4:Ff o.value 0 9 with
    |false=>rw[h1,h2,h3,h4] at h0;cases h0
    |true=>exact⟨rfl,rfl,rfl⟩
end
section
theorem Po(x:oZ)(ok:Dd 1048576 x)(id:Int): ∃b,FF x id=some (b,())/\Eb x id=some (b,())/\(b=true->CP x=some (true,())/\0<=id/\id<5/\ ∀s,x.servers[id.toNat]? =some s->DG s id=some (true,())):=by
 obtain⟨v,v1,v2⟩:=Dg x ok;cases v with
 |false=>
  refine⟨false,?_,?_,nofun⟩
  ·unfold FF;simp only[v1,an,Ar]
  ·unfold Eb Dk;simp only[v2,an,Ar]
 |true=>
  cases hw:Ff id 0 4 with
  |false=>
   refine⟨false,?_,?_,nofun⟩
   ·unfold FF;simp only[v1,DC,hw,an,Bg,Ar]
   ·unfold Eb Dk;simp only[v2,Hk,hw,an,Bg,Ar]
  |true=>
   have hid:=CS.1 hw;obtain⟨s,s1,s2,s3⟩:=Hq ok (Dl ok v1) (a:=id) (by omega);obtain⟨b,b1,b2⟩:=Jv s id s2;refine⟨b,?_,?_,λhb=>⟨v1,hid.1,by omega,λs' hs=> ?_⟩⟩
   ·unfold FF;simp only[v1,DC,hw,an,Bg,AJ,if_pos hid.1,s1,b1]
   ·unfold Eb Dk;simp only[v2,Hk,hw,an,Bg,AJ,if_pos hid.1,s1,b2]
   ·rw[s1] at hs;obtain rfl:=Option.some.inj hs;rw[b1,hb]
theorem Zx(c:mD)(y:Int)(h:D5 maxLen c)(hv:CV c=some (true,())): ∃n,D8 c y=some (n,())/\JN c y=some (n,())/\(n=0↔ ¬ (y∈c.replicas\/y∈c.witnesses))/\(n=3->y≠c.primary):=by
 obtain⟨v,v1,v2⟩:=F8 c h;rw[hv] at v1;simp only[ae,ap,and_true] at v1;subst v1;have hp:=(Gh h hv).2.2.1;unfold D8 JN;simp only[hv,v2,an,(C9 c.replicas y h.1).1,(C9 c.replicas y h.1).2,(C9 c.witnesses y h.2).1,(C9 c.witnesses y h.2).2,CQ,Fm,Bg,BB];by_cases he:y=c.primary
 ·simp only[if_pos he];exact⟨1,rfl,rfl,⟨λh=>(by cases h),λh=>absurd (.inl (he ▸ hp)) h⟩,λh=>(by cases h)⟩
 ·simp only[if_neg he];by_cases h1:y∈c.replicas
  ·simp only[if_pos h1];exact⟨2,rfl,rfl,⟨λh=>(by cases h),λh=>absurd (.inl h1) h⟩,λh=>(by cases h)⟩
  ·simp only[if_neg h1];by_cases h2:y∈c.witnesses
   ·simp only[if_pos h2];exact⟨3,rfl,rfl,⟨λh=>(by cases h),λh=>absurd (.inr h2) h⟩,λ_=>he⟩
   ·simp only[if_neg h2];exact⟨0,rfl,rfl,⟨λ_ h=>h.elim h1 h2,λ_=>rfl⟩,λh=>(by cases h)⟩
theorem Zy(l:List pZ)(hl:l.length<=1048576)(hv:DU l=some (true,())):OB l=some (((cutAt l:Nat):Int),l.drop (cutAt l),()):=by
 unfold OB Ph;have hc:cutAt l<=l.length:=by unfold cutAt;omega
 have c1: (0:Int)<=((cutAt l:Nat):Int)/\((cutAt l:Nat):Int)<=(l.length:Int)/\(l.length:Int)<=(l.length:Int):=by omega
 have ht: ((l.drop (cutAt l)).take (l.length-cutAt l))=l.drop (cutAt l):=bT (by simp);simp only[hv,an,cS,Ar,Se l hl,AJ,if_pos c1,Cj,ht,(H2 (l.drop (cutAt l)) (by simp;omega)).1]
end
section
def Tt{α:Type}(Q:α->Prop)(r:Option α):Prop:=∃a,r=some a/\Q a
section
variable {α β σ ε:Type} {Q:α->Prop} {Q':β->Prop}
theorem Tt.ret{a:α}(h:Q a):Tt Q (some a):=⟨a,rfl,h⟩
theorem Tt.bind{r:Option α}{k:α->Option β}(h:Tt Q r)(hk: ∀a,Q a->Tt Q' (k a)):Tt Q' (r.bind k):=by obtain⟨a,rfl,h⟩:=h;exact hk a h
theorem Tt.mono{Q2:α->Prop}{r:Option α}(h:Tt Q r)(hq: ∀a,Q a->Q2 a):Tt Q2 r:=h.imp λ_ h=>⟨h.1,hq _ h.2⟩
theorem Tt.ip{p:Prop}{d:Decidable p}{x y:Option α}(hp:p)(h:Tt Q x):Tt Q (@iteP _ p d x y):=by rw[AL hp];exact h
theorem Tt.br{b:Bool}{x y:Option α}(h1:b=true->Tt Q x)(h2:b=false->Tt Q y):Tt Q (br b x y):=by
 cases b with
 |true=>exact h1 rfl
 |false=>exact h2 rfl
theorem Tt.get{γ:Type}{l:List γ}{i:Nat}{k:γ->Option α}(hi:i<l.length)(h: ∀x,l[i]? =some x->x∈l->Tt Q (k x)):Tt Q ((l[i]?).bind k):=by rw[ao hi];exact h _ (ao hi) (Cn hi)
theorem Tt.loop{B:σ->Option (σ⊕ε)}{E:ε->Prop}(I:σ->Prop)(μ:σ->Nat)(h: ∀s,I s->Tt (Sum.elim (λs'=>I s'/\μ s'<μ s) E) (B s)){s:σ}(hs:I s):Tt E (mu B s):=
 Bn I μ E (λs hs=>by
  obtain⟨r,h1,h2⟩:=h s hs;cases r with
  |inl s'=>exact .inl ⟨s',h1,h2.1,h2.2⟩
  |inr e=>exact .inr ⟨e,h1,h2⟩) hs
theorem Tt.go{p:Prop}[Decidable p]{x y:Option α}(hp:p)(h:Tt Q x):Tt Q (Go.Proofs.YtkghndikalnipaaGreat.En.br (decide p) x y):=by rw[BB,if_pos hp];exact h
theorem Tt.end{p:Prop}[Decidable p]{x y:Option α}(hp: ¬p)(h:Tt Q y):Tt Q (Go.Proofs.YtkghndikalnipaaGreat.En.br (decide p) x y):=by rw[BB,if_neg hp];exact h
theorem Tt.count{B:σ->Option (σ⊕ε)}{E:ε->Prop}(n:Nat)(m:Nat->β->σ)(J:Nat->β->Prop)(h0: ∀b,J n b->Tt (Sum.elim (λ_=>False) E) (B (m n b)))
  (h1: ∀k b,k<n->J k b->Tt (Sum.elim (λs=> ∃b',s=m (k+1) b'/\J (k+1) b') E) (B (m k b))) (b:β) (hb:J 0 b):Tt E (mu B (m 0 b)):=by
 have go: ∀ (d k:Nat) (b:β),k+d=n->J k b->Tt E (mu B (m k b)):=by
  intro d
  induction d with
  |zero=>
   intro k b hk hb;obtain rfl:k=n:=hk;obtain⟨r,e1,e2⟩:=h0 b hb;cases r with
   |inl s=>exact e2.elim
   |inr e=>exact⟨e,by rw[jk,e1];rfl,e2⟩
  |succ d ih=>
   intro k b hk hb;obtain⟨r,e1,e2⟩:=h1 k b (by omega) hb;cases r with
   |inl s=>obtain⟨b',rfl,hb'⟩:=e2;rw[jk,e1];exact ih (k+1) b' (by omega) hb'
   |inr e=>exact⟨e,by rw[jk,e1];rfl,e2⟩
 exact go n 0 b (aM n) hb
end
abbrev T1{α:Type}(_:α):Prop:=True
theorem KJ{l:List Int}(ha:Jf l): ∀y∈l,0<=y/\y<5:=by intro y hy;obtain⟨k,hk,rfl⟩:=aP hy;have:=(ha k hk).1;omega
theorem NE(c:mD)(h:D5 maxLen c):Tt (λy=>y.1.length<=10/\ ∀z∈y.1,0<=z/\z<5) (DN c):=by obtain⟨v,v1,_⟩:=F8 c h;unfold DN;rw[v1,an,CQ];refine .br (λe=> ?_) λ_=> .ret ⟨bL _,nofun⟩;subst e;obtain⟨a1,a2,_⟩:=Gh h v1;have l1:=a1.len;have l2:=a2.len;obtain⟨r,r1,_,r4,r5⟩:=WU c.replicas c.witnesses (by omega) (by omega);rw[r1];exact .ret ⟨by show r.length<=10;omega,λz hz=>((r4 z).1 hz).elim (KJ a1 z) (KJ a2 z)⟩
theorem V5{x:oZ}(ok:Dd 1048576 x)(vc:VC x)(a b:Int):Tt T1 (EG x.sides a b):=by have h5:=GO (CW ok.2.1) vc.sides;unfold EG;simp only[vc.sides,DC,an,Bg];refine .br (λha=> .br (λhb=> ?_) λ_=> .ret trivial) λ_=> .ret trivial;have ha:=CS.1 ha;have hb:=CS.1 hb;exact .ip ha.1 (.get (by omega) λ_ _ _=> .ip hb.1 (.get (by omega) λ_ _ _=> .ret trivial))
theorem Tt.srv{α:Type}{Q:α->Prop}{x:oZ}(ok:Dd 1048576 x)(vc:VC x){a:Int}(ha:0<=a/\a<5){k:o4->Option α}(h: ∀s,x.servers[a.toNat]? =some s->Dz 1048576 s->CU s a=some (true,())->Tt Q (k s)):Tt Q (iteP (0<=a) ((x.servers[a.toNat]?).bind k) none):=by obtain⟨s,s1,s2,s3⟩:=Hq ok vc ha;refine .ip ha.1 ?_;rw[s1];exact h s s1 s2 s3
theorem Yz{x:oZ}(ok:Dd 1048576 x)(vc:VC x){a b:Int}(ha:0<=a/\a<5)(hb:0<=b/\b<5):Tt T1 (FW x a b):=by unfold FW;refine .srv ok vc hb λm m1 m2 _=> .bind (V5 ok vc a b) λ_ _=> .br (λ_=> .br (λ_=> .srv ok vc ha λp p1 p2 _=> .br (λ_=> .srv ok vc ha λ_ _ _ _=> .br (λ_=> .srv ok vc ha λq _ _ _=> ?_) λ_=> .ret trivial) λ_=> .ret trivial) λ_=> .ret trivial) λ_=> .ret trivial;rw[(Ew m.config q.config (C5 m2.1)).1];exact .ret trivial
theorem OD{l:List pZ}(h:l.length<=maxLen): ∃b,DU l=some (b,())/\(b=true->l.length<=16):=by
 rcases isLog l h with ⟨h1,_,h2⟩| ⟨h1,_⟩
 ·exact⟨true,h1,λ_=>h2⟩
 ·exact⟨false,h1,nofun⟩
theorem Qg{l:List pZ}(h:l.length<=1048576):EF l=some (l,()):=(H2 l h).1
theorem aaA(l:List pZ)(c q:Int)(hl:l.length<=maxLen):Tt (λy=>y.1= -1\/0<=y.1/\y.1< (l.length:Int)) (Ng l c q):=by
 unfold Ng;refine .bind (.count (B:=Kn) (E:=Sum.elim (λy=>0<=y.1.1/\y.1.1< (l.length:Int)) λ_=>True) l.length (λk (_:Unit)=>((l,c,q,(k:Int),()),(),())) (λ_ _=>True) (λ_ _=> ?_) (λk _ hk _=> ?_) () trivial) λy hy=> ?_
 ·unfold Kn;simp only[BB];rw[if_neg (by omega)];exact .ret trivial
 ·unfold Kn;simp only[BB];rw[if_pos (by omega)];refine .ip (by omega) (.get (by omega) λ_ _ _=> .br (λ_=> .ip (by omega) (.get (by omega) λ_ _ _=> .br (λ_=> .ret ?_) λ_=> .ret ⟨(),by rw[Ap hl hk],trivial⟩)) λ_=> .ret ⟨(),by rw[Ap hl hk],trivial⟩);exact⟨by show (0:Int)<=k;omega,by show (k:Int)<_;omega⟩
 ·cases y with
  |inl y=>exact .ret (.inr hy)
  |inr y=>exact .ret (.inl rfl)
end
section
theorem P2{l:List o4}(h:l.length<=1048576/\ ∀s∈l,Dz 1048576 s){s:o4}(hs:Dz 1048576 s)(i:Nat): (l.set i s).length<=1048576/\ ∀s'∈l.set i s,Dz 1048576 s':=
 ⟨by rw[Cu];exact h.1,λs' hm=>(cL hm).elim (h.2 s') λe=>e ▸ hs⟩
theorem abF(x:oZ)(ok:Dd 1048576 x)(id:Int): ∃y n,I1 x id=some (y,n,())/\Dd 1048576 y/\y.servers.length=x.servers.length:=by
 obtain⟨b,b1,_,b2⟩:=Sg x id ok;unfold I1;simp only[(D4 x ok).1,b1,an,CQ];cases b with
 |false=>exact⟨x,1,rfl,ok,rfl⟩
 |true=>
  obtain⟨hv,h0,h5⟩:=b2 rfl;obtain⟨s,s1,_⟩:=Hq ok (Dl ok hv) ⟨h0,h5⟩;have hlt:=BI s1;have hs:=ok.1.2 s (ax s1);simp only[Bg,AJ,if_pos h0,s1,an];rw[if_pos ⟨h0,by omega⟩];cases s.up with
  |false=>exact⟨x,2,rfl,ok,rfl⟩
  |true=>exact⟨_,0,rfl,⟨P2 ok.1 (show Dz 1048576 ⟨false,s.intact,s.version,s.epoch,s.config,s.first,s.log,s.commit,s.learned⟩ from hs) _,ok.2⟩,Cu⟩
theorem Zw(x:oZ)(ok:Dd 1048576 x)(id:Int): ∃y n,HI x id=some (y,n,())/\Dd 1048576 y/\y.servers.length=x.servers.length:=by
 obtain⟨b,b1,_,b2⟩:=Sg x id ok;unfold HI;simp only[(D4 x ok).1,b1,an,CQ];cases b with
 |false=>exact⟨x,1,rfl,ok,rfl⟩
 |true=>
  obtain⟨hv,h0,h5⟩:=b2 rfl;obtain⟨s,s1,_⟩:=Hq ok (Dl ok hv) ⟨h0,h5⟩;have hlt:=BI s1;have hs:=ok.1.2 s (ax s1);simp only[Bg,AJ,if_pos h0,s1,an];rw[if_pos ⟨h0,by omega⟩];cases s.up with
  |true=>exact⟨x,1,rfl,ok,rfl⟩
  |false=>exact⟨_,0,rfl,⟨P2 ok.1 (show Dz 1048576 ⟨true,s.intact,s.version,s.epoch,s.config,s.first,s.log,s.commit,s.learned⟩ from hs) _,ok.2⟩,Cu⟩
theorem acf(x:oZ)(ok:Dd 1048576 x)(id:Int): ∃y n,Mb x id=some (y,n,())/\Dd 1048576 y/\y.servers.length=x.servers.length:=by
 obtain⟨b,b1,_,b2⟩:=Sg x id ok;unfold Mb;simp only[(D4 x ok).1,b1,an,CQ];cases b with
 |false=>exact⟨x,1,rfl,ok,rfl⟩
 |true=>obtain⟨hv,h0,h5⟩:=b2 rfl;obtain⟨s,s1,_⟩:=Hq ok (Dl ok hv) ⟨h0,h5⟩;have hlt:=BI s1;simp only[Bg,AJ,if_pos h0,s1,an,LH];rw[if_pos ⟨h0,by omega⟩];exact⟨_,0,rfl,⟨P2 ok.1 ⟨⟨bL _,bL _⟩,bL _,bL _⟩ _,ok.2⟩,Cu⟩
theorem Zn(x:oZ)(ok:Dd 1048576 x)(n:Int): ∃y k,JW x n=some (y,k,())/\Dd 1048576 y/\y.servers.length=x.servers.length:=by
 obtain⟨v,v1,_⟩:=Dg x ok;unfold JW;simp only[(D4 x ok).1,v1,DC,an,CQ];cases v with
 |false=>exact⟨x,1,rfl,ok,rfl⟩
 |true=>
  simp only[Bg];cases Ff n 0 3 with
  |false=>exact⟨x,1,rfl,ok,rfl⟩
  |true=>exact⟨_,0,rfl,ok,rfl⟩
theorem acg(x:oZ)(ok:Dd 1048576 x)(a b:Int): ∃y k,JS x a b=some (y,k,())/\Dd 1048576 y/\y.servers.length=x.servers.length:=by
 obtain⟨v,v1,_⟩:=Dg x ok;obtain⟨u,u1,_⟩:=L3 x.sides (CW ok.2.1)
 have hm: ∃l t,Mc x.sides a b=some (l,t,())/\l.length=x.sides.length:=by
  unfold Mc;simp only[bC,AJ,u1,DC,an,CQ];rw[if_pos (show x.sides.length*8<=2 ^ 40 by have:=ok.2.1;omega)];cases u with
  |false=>exact⟨_,_,rfl,rfl⟩
  |true=>
   simp only[Bg];cases hw:Ff a 0 4 with
   |false=>exact⟨_,_,rfl,rfl⟩
   |true=>
    simp only[Bg];cases Ff b 0 3 with
    |false=>exact⟨_,_,rfl,rfl⟩
    |true=>have hw:=CS.1 hw;have hl:=GO (CW ok.2.1) u1;simp only[Bg];rw[if_pos ⟨hw.1,by omega⟩,ao (by omega)];exact⟨_,_,rfl,Cu⟩
 obtain⟨l,t,l1,l2⟩:=hm;unfold JS;simp only[(D4 x ok).1,v1,l1,an,CQ];cases v with
 |false=>exact⟨x,1,rfl,ok,rfl⟩
 |true=>
  cases t with
  |false=>exact⟨x,1,rfl,ok,rfl⟩
  |true=>exact⟨_,0,rfl,⟨ok.1,by show l.length<=1048576;rw[l2];exact ok.2.1,ok.2.2⟩,rfl⟩
theorem To(x:oZ)(ok:Dd 1048576 x)(id:Int): ∃n:Int,Ik x id=some (n,())/\(n=0->CP x=some (true,())/\0<=id/\id<5):=by
 obtain⟨v,v1,_⟩:=Dg x ok;unfold Ik;simp only[v1,DC,an,CQ];cases v with
 |false=>exact⟨1,rfl,λh=>absurd h (by decide)⟩
 |true=>
  simp only[Bg];cases hw:Ff id 0 4 with
  |false=>exact⟨1,rfl,λh=>absurd h (by decide)⟩
  |true=>
   have hw:=CS.1 hw;obtain⟨s,s1,_⟩:=Hq ok (Dl ok v1) ⟨hw.1,by omega⟩;simp only[Bg,AJ,if_pos hw.1,s1,an];cases s.up with
   |false=>exact⟨2,rfl,λh=>absurd h (by decide)⟩
   |true=>exact⟨0,rfl,λ_=>⟨trivial,hw.1,by omega⟩⟩
end
section
theorem tn{k n:Nat}(h:k<n): (k:Int).toNat<n:=h
theorem VT(m:mp)(ho:m.objects.length<=1000)(hs:m.sessions.length<=1000):Tt (λy=>y.1=true->m.objects.length=3) (Gf m):=by
 have mo:m.objects.length<=maxLen:=by unfold maxLen;omega
 have ms:m.sessions.length<=maxLen:=by unfold maxLen;omega
 unfold Gf;refine .bind (.count (B:=Ht) (E:=Sum.elim (λy=>y.1.2=(false,())) λy=>y.2.1=((m.objects,m.sessions,()),())) m.objects.length (λk (_:Unit)=>(((),(k:Int),()),((m.objects,m.sessions,()),()),())) (λ_ _=>True) (λ_ _=> .end (Cp _) (.ret rfl)) (λk _ hk _=> .go (Cm.2 hk) (.ip (Ck k) (.get (tn hk) λx _ _=> ?_))) () trivial) λy hy=> ?_
 ·rw[DC,an,CQ];exact .br (λ_=> .ret ⟨(),by rw[Ap mo hk],trivial⟩) λ_=> .ret rfl
 cases y with
 |inl y=>exact .ret (by rw[show y.1.2=_ from hy];nofun)
 |inr y=>
  show Tt _ ((Mm (((),0,()),y.2.1,())).bind _);rw[show y.2.1=_ from hy];refine .bind (.count (B:=Hu) (E:=Sum.elim (λy=>y.1.2=(false,())) λy=>y.2.1=((m.objects,m.sessions,()),())) m.sessions.length (λk (_:Unit)=>(((),(k:Int),()),((m.objects,m.sessions,()),()),())) (λ_ _=>True) (λ_ _=> .end (Cp _) (.ret rfl)) (λk _ hk _=> .go (Cm.2 hk) (.ip (Ck k) (.get (tn hk) λx _ _=> ?_))) () trivial) λy hy=> ?_
  ·simp only[DC,an,CQ]
   have hw: (k:Int)>0->IntKind.wrap .i64 ((k:Int)-1)=(k:Int)-1:=λh=>by unfold maxLen at ms;exact uj (by omega) (by omega)
   refine .br (λ_=> .br (λ_=> .br (λ_=> .br (λh=> ?_) λ_=> .ret ⟨(),by rw[Ap ms hk],trivial⟩) λ_=> .ret rfl) λ_=> .ret rfl) λ_=> .ret rfl;have h:=of_decide_eq_true h;rw[hw h];exact .ip (by omega) (.get (by omega) λ_ _ _=> .br (λ_=> .ret rfl) λ_=> .ret ⟨(),by rw[Ap ms hk],trivial⟩)
  cases y with
  |inl y=>exact .ret (by rw[show y.1.2=_ from hy];nofun)
  |inr y=>show Tt _ (some (((y.2.1.1.1.length:Int)==3),()));rw[show y.2.1=_ from hy];exact .ret λh=>by have : (m.objects.length:Int)=3:=eq_of_beq h;omega
theorem ZB(m:mp)(c:Int)(hs:m.sessions.length<=1000):Tt (λy=>y.2.1=true-> ∃x∈m.sessions,x.client=c) (K3 m c):=by
 have ms:m.sessions.length<=maxLen:=by unfold maxLen;omega
 unfold K3;refine .bind (.count (B:=KO) (E:=Sum.elim (λy=> ∃x∈m.sessions,x.client=c) λ_=>True) m.sessions.length (λk (_:Unit)=>((c,(),(),(k:Int),()),((m.objects,m.sessions,()),(0,0,false,0,()),()),())) (λ_ _=>True) (λ_ _=> .end (Cp _) (.ret trivial)) (λk _ hk _=> .go (Cm.2 hk) (.ip (Ck k) (.get (tn hk) λx _ hx=> .br (λe=> .ip (Ck k) (.get (tn hk) λ_ _ _=> .ret ⟨x,hx,eq_of_beq e⟩)) λ_=> .ret ⟨(),by rw[Ap ms hk],trivial⟩))) () trivial) λy hy=> ?_;cases y with
 |inl y=>exact .ret λ_=>hy
 |inr y=>exact .ret nofun
theorem V9(m:mp)(o:Op)(ho:m.objects.length<=1000)(hs:m.sessions.length<=900):Tt (λy=>y.1.sessions.length<=m.sessions.length+1/\y.1.objects.length=m.objects.length) (Kr m o):=by
 obtain⟨⟨b,_⟩,v1,v2⟩:=VT m ho (by omega);unfold Kr
 have cp:OC m=some (m,()):=by unfold OC;simp only[bC];rw[AL (by omega),AL (by omega)]
 rw[cp,an,v1,an,CQ,N6];refine .br (λe=> ?_) λ_=> .ret ⟨cA _,rfl⟩;have h3:=v2 e;rw[an,CQ];refine .br (λeo=> .bind (ZB m o.client (by omega)) λy hy=> ?_) λ_=> .ret ⟨cA _,rfl⟩;have hob:=Xu (show DM o=some (true,()) by rw[N6];rw[show opB o=true from eo]);have hle:=aah m.sessions o.client;have hlt:y.2.1=true->P3 m.sessions o.client<m.sessions.length:=λh=>aai (hy h);have hw:IntKind.wrap .i64 (((P3 m.sessions o.client:Nat):Int)+1)=((P3 m.sessions o.client:Nat):Int)+1:=uj (by omega) (by omega);generalize hp:P3 m.sessions o.client=p at hle hlt hw
 have ln: ∀ (k:Nat) (z:mq),k<=m.sessions.length+1->p<=k->(m.sessions.take p++ [z] ++(m.sessions.drop k).take (m.sessions.length-k)).length=p+1+(m.sessions.length-k):=λk z h1 h2=>by simp only[bI,cH,cf,cm];omega
 have g0:0<=(p:Int):=Ck p;have g1: (p:Int)<=(m.sessions.length:Int):=Int.ofNat_le.2 hle;have g3:0<=(p:Int)+1:=by omega
 have g2:y.2.1=true->(p:Int)+1<=(m.sessions.length:Int):=λh=>by have:=hlt h;omega
 have l1: (m.sessions.take p).length<=900:=by rw[cH];omega
 extract_lets+lift j44 j45
 have h44:Tt (λy=>y.1.sessions.length<=m.sessions.length+1/\y.1.objects.length=m.objects.length) j44:=by
  unfold j44;refine .ip hob.1 (.get (by show o.object.toNat<_;omega) λx _ _=> .br (λ_=> .ip (by show 0<=o.object/\o.object< (m.objects.length:Int);omega) (.get (by show o.object.toNat<m.objects.length;omega) λ_ _ _=> ?_)) λ_=> .br (λ_=> .ip (by show 0<=o.object/\o.object< (m.objects.length:Int);omega) (.get (by show o.object.toNat<m.objects.length;omega) λ_ _ _=> ?_)) λ_=> ?_)
  all_goals
   show Tt _ ((LO (((),(),(),(),y.2.1,(),0,()),((o.client,o.seq,o.kind,o.object,o.old,o.value,()),((),(),()),(false,0,()),((),(),()),(_,_,()),()),_,m.sessions,())).bind _);rw[acH _ _ _ _ _ _ (by omega),hp,an];simp only[hw,bC,aM,ct,Cj,show (0:Int).toNat=0 from rfl,CA,show ((p:Int)+1).toNat=p+1 from rfl];refine .ip ⟨g0,g1,cJ _⟩ (.br (λe=> ?_) λ_=> ?_)
   ·have:=hlt e;refine .ip ⟨g3,g2 e,cJ _⟩ (.ip ⟨cJ _,g0,g1⟩ (.ip hle (.ip (by omega) (.ip (by rw[bI,cm];omega) (.ip (by omega) (.ip (by rw[ln _ _ (by omega) (by omega)];omega) (.ret ⟨?_,by first |rfl|exact Cu⟩)))))));show List.length _<=_;rw[ln _ _ (by omega) (by omega)];omega
   ·refine .ip ⟨cJ _,g0,g1⟩ (.ip hle (.ip (by omega) (.ip (by rw[bI,cm];omega) (.ip (by omega) (.ip (by rw[ln _ _ (by omega) (by omega)];omega) (.ret ⟨?_,by first |rfl|exact Cu⟩))))));show List.length _<=_;rw[ln _ _ (by omega) (by omega)];omega
 have h45:Tt (λy=>y.1.sessions.length<=m.sessions.length+1/\y.1.objects.length=m.objects.length) j45:=.br (λ_=> .br (λ_=> .ret ⟨cA _,rfl⟩) λ_=>h44) λ_=>h44;exact .br (λ_=> .br (λ_=> .ret ⟨cA _,rfl⟩) λ_=>h45) λ_=>h45
theorem U6(l:List pZ)(hl:l.length<=maxLen):Tt (λy=>y.1.objects.length<=3/\y.1.sessions.length<=16) (Ij l):=by obtain⟨b,b1,b2⟩:=OD hl;unfold Ij LG;rw[an,b1,an,CQ];refine .br (λe=> ?_) λ_=> .ret ⟨bL _,bL _⟩;have h16:=b2 e;refine .bind (.count (B:=KM) (E:=λy=>y.2.2.1.length<=3/\y.2.2.2.1.length<=16) l.length (λk (b:List Int×List mq)=>((l,(),(),(k:Int),()),(((),(),()),((),(),()),()),b.1,b.2,())) (λk b=>b.1.length<=3/\b.2.length<=k) (λb hb=> .end (Cp _) (.ret ⟨hb.1,aU hb.2 h16⟩)) (λk b hk hb=> .go (Cm.2 hk) (.ip (Ck k) (.get (tn hk) λx _ _=> .bind (V9 ⟨b.1,b.2⟩ x.op (aU hb.1 (by omega)) (aU hb.2 (by omega))) λy hy=> .ret ⟨(y.1.objects,y.1.sessions),by rw[Ap hl hk],by rw[hy.2];exact hb.1,aU hy.1 (Nat.succ_le_succ hb.2)⟩))) ([0,0,0],[]) ⟨aw _,aw _⟩) λy hy=> .ret hy
theorem Xw(l:List pZ)(i:Int)(hl:l.length<=maxLen):Tt T1 (Kv l i):=by obtain⟨b,b1,b2⟩:=OD hl;unfold Kv;rw[b1,an,CQ];refine .br (λe=> ?_) λ_=> .ret trivial;have h16:=b2 e;rw[uj (n:=(l.length:Int)-1) (by omega) (by omega),DC,an,CQ];refine .br (λh=> ?_) λ_=> .ret trivial;have h:=CS.1 h;refine .ip (by omega) (.bind (U6 _ ?_) λy hy=> .ip h.1 (.get (by omega) λx _ _=> .bind (V9 _ _ (by omega) (by omega)) λz _=> .ret trivial));refine aU ?_ hl;rw[cH,cf];omega
theorem PS(s:o4)(h:Dz 1048576 s)(hf:0<=s.first/\s.first<=16/\s.log.length<=16):Tt (λy=>y.1.length<=16) (Dx s):=by
 unfold Dx;rw[uj (n:=s.first+(s.log.length:Int)) (by omega) (by omega)];simp only[DC,an,CQ];refine .br (λh1=> ?_) λ_=> .ret (bL _);have h1:=CS.1 h1;refine .br (λ_=> .ret (bL _)) λ_=> ?_;rw[uj (n:=s.commit-s.first) (by omega) (by omega)]
 have hlen: ((s.log.drop (0:Int).toNat).take ((s.commit-s.first).toNat-(0:Int).toNat)).length<=16:=by rw[cH,cf];omega
 refine .ip (by omega) ?_;rw[Qg (by omega)];exact .ret hlen
theorem acl(m:mp)(i:Int)(ho:m.objects.length<=1000)(hs:m.sessions.length<=1000):Tt T1 (JV m i):=by obtain⟨⟨b,_⟩,b1,b2⟩:=VT m ho hs;unfold JV;rw[b1,an,CQ];refine .br (λe=> ?_) λ_=> .ret trivial;have h3:=b2 e;rw[DC,an,CQ];refine .br (λh=> ?_) λ_=> .ret trivial;have h:=CS.1 h;exact .ip h.1 (.get (by omega) λ_ _ _=> .ret trivial)
theorem U9{s:o4}{id:Int}(h:Dz 1048576 s)(hv:CU s id=some (true,())):0<=s.first/\s.first<=16/\s.log.length<=16:=by obtain⟨h1,h2,h3,_⟩:=Kg h hv;exact⟨h1,h2,h3⟩
theorem abX(s:o4)(i:Int)(h:Dz 1048576 s)(hf:0<=s.first/\s.first<=16/\s.log.length<=16):Tt T1 (Mf s i):=by unfold Mf;exact .bind (PS s h hf) λy hy=> .bind (U6 _ (by unfold maxLen;omega)) λz hz=> .bind (acl _ _ (by omega) (by omega)) λ_ _=> .ret trivial
theorem abJ(l:s7)(a b c:Int):Tt T1 (JQ l a b c):=by obtain⟨v,v1,_⟩:=NW l;unfold JQ;rw[v1,an,DC,an];exact .br (λ_=> .br (λ_=> .br (λ_=> .br (λ_=> .br (λ_=> .ret trivial) λ_=> .ret trivial) λ_=> .ret trivial) λ_=> .ret trivial) λ_=> .ret trivial) λ_=> .ret trivial
theorem Yi(x:oZ)(ok:Dd 1048576 x)(id:Int):Tt T1 (He x id):=by obtain⟨b,b1,_,b2⟩:=Po x ok id;unfold He;rw[b1,an];refine .br (λe=> ?_) λ_=> .ret trivial;obtain⟨hv,h0,h5,_⟩:=b2 e;exact .srv ok (Dl ok hv) ⟨h0,h5⟩ λs _ _ _=> .bind (abJ _ _ _ _) λ_ _=> .ret trivial
theorem WA(x:oZ)(ok:Dd 1048576 x)(id i:Int):Tt T1 (K0 x id i):=by obtain⟨n,n1,n2⟩:=To x ok id;unfold K0;rw[n1,an,CQ];refine .br (λe=> ?_) λ_=> .ret trivial;obtain⟨hv,h0,h5⟩:=n2 (eq_of_beq e);have vc:=Dl ok hv;rw[DC,an,CQ];refine .br (λ_=> .srv ok vc ⟨h0,h5⟩ λs _ s2 _=> ?_) λ_=> .ret trivial;obtain⟨b,b1,_⟩:=Jv s id s2;rw[b1,an,CQ];refine .br (λ_=> .bind (Yi x ok id) λy _=> ?_) λ_=> .ret trivial;rw[CQ];exact .br (λ_=> .srv ok vc ⟨h0,h5⟩ λs _ s2 s3=> .bind (abX s i s2 (U9 s2 s3)) λ_ _=> .ret trivial) λ_=> .ret trivial
end
section
def Kp(x y:oZ):Prop:=Dd 1048576 y/\y.servers.length=x.servers.length
theorem Kp.self{x:oZ}(ok:Dd 1048576 x):Kp x x:=⟨ok,rfl⟩
theorem Kp.trans{x y z:oZ}(h:Kp x y)(k:Kp y z):Kp x z:=⟨k.1,k.2.trans h.2⟩
theorem Kp.srvs{x y:oZ}(h:Kp x y){S:List o4}(hl:S.length=y.servers.length)(hs: ∀s∈S,Dz 1048576 s):Kp x ⟨y.now,S,y.sides,y.master,y.masterUp,y.lease,y.places⟩:=
 ⟨⟨⟨by rw[hl];exact h.1.1.1,hs⟩,h.1.2⟩,hl.trans h.2⟩
theorem Kp.set{x y:oZ}(h:Kp x y){s:o4}(hs:Dz 1048576 s)(i:Nat):Kp x ⟨y.now,y.servers.set i s,y.sides,y.master,y.masterUp,y.lease,y.places⟩:=
 h.srvs Cu (P2 h.1.1 hs i).2
theorem Tt.at{α:Type}{Q:α->Prop}{l:List o4}(h5:l.length=5){a:Int}(ha:0<=a/\a<5){k:o4->Option α}(h: ∀s,l[a.toNat]? =some s->s∈l->Tt Q (k s)):Tt Q (iteP (0<=a/\a< (l.length:Int)) ((l[a.toNat]?).bind k) none):=
 .ip (by rw[h5];exact ha) (.get (by omega) h)
theorem abI(x:oZ)(ok:Dd 1048576 x)(id:Int):Tt T1 (I2 x id):=by obtain⟨b,b1,_,b2⟩:=Po x ok id;unfold I2;rw[b1,an,CQ];refine .br (λe=> ?_) λ_=> .ret trivial;obtain⟨hv,h0,h5,_⟩:=b2 e;have vc:=Dl ok hv;refine .srv ok vc ⟨h0,h5⟩ λs _ s2 _=> .bind (NE _ (C5 s2.1)) λy hy=> .bind (.count (B:=Jh) (E:=λ_=>True) y.1.length (λk (b:Int)=>(((),b,(),(k:Int),()),(fx x,()),y.1,())) (λ_ _=>True) (λ_ _=> .end (Cp _) (.ret trivial)) (λk b hk _=> .go (Cm.2 hk) (.ip ⟨Ck k,Cm.2 hk⟩ (.get (tn hk) λz _ hz=> .srv ok vc (hy.2 z hz) λt _ _ _=> .ret ⟨_,by rw[Ap (by have:=hy.1;unfold maxLen;omega) hk],trivial⟩))) 2 trivial) λ_ _=> .ret trivial
theorem ZP(x:oZ)(ok:Dd 1048576 x)(id:Int)(o:Op):Tt (λy=>Kp x y.1/\(y.2.1=0->y.1.servers.length=5/\0<=id/\id<5)) (GJ x id o):=by
 obtain⟨v,v1,_⟩:=Dg x ok;unfold GJ;rw[(D4 x ok).1,an,v1,an,CQ];have bad: ∀n:Int,n≠0->Tt (λy:oZ×Int×Unit=>Kp x y.1/\(y.2.1=0->y.1.servers.length=5/\0<=id/\id<5)) (some (x,n,())):=λn hn=> .ret ⟨.self ok,λh=>absurd h hn⟩;refine .br (λe=> ?_) λ_=>bad 1 (by decide);subst e;have vc:=Dl ok v1;rw[DC,an,CQ];refine .br (λh=> ?_) λ_=>bad 1 (by decide);have h:=CS.1 h;have hid:0<=id/\id<5:=by omega
 rw[N6,an,CQ];refine .br (λ_=> .srv ok vc hid λs s1 s2 s3=> ?_) λ_=>bad 1 (by decide);rw[CQ];refine .br (λ_=> ?_) λ_=>bad 2 (by decide);obtain⟨b,b1,_⟩:=Jv s id s2;rw[b1,an,CQ];refine .br (λ_=> .bind (aaA s.log _ _ (CW s2.2.1)) λy hy=> ?_) λ_=>bad 3 (by decide);have good: ∀n:Int,Tt (λy:oZ×Int×Unit=>Kp x y.1/\(y.2.1=0->y.1.servers.length=5/\0<=id/\id<5)) (some (x,n,())):=λn=> .ret ⟨.self ok,λ_=>⟨vc.len,hid⟩⟩
 extract_lets+lift j17 j18
 have h17:Tt (λy=>Kp x y.1/\(y.2.1=0->y.1.servers.length=5/\0<=id/\id<5)) j17:=by
  unfold j17;refine .at vc.len hid λs' e' hs'=> ?_;show Tt _ ((x.servers[id.toNat]?).bind _);rw[e',an];have hs:=ok.1.2 s' hs';have hs3:=hs.2.1;obtain rfl:s'=s:=by rw[s1] at e';exact (Option.some.inj e').symm
  have hl:=(U9 s2 s3).2.2;refine .ip rfl ?_;have e1: ∀X Y:Option (oZ×Int×Unit),iteP (s'.log.length<s'.log.length) X Y=Y:=λX Y=>by rw[AJ,if_neg (dg _)]
  rw[e1]
  have hl2: (s'.log.take s'.log.length++([(⟨s'.epoch,o⟩:pZ)]:List pZ)).length<=17:=by rw[bI,cH,cm];omega
  refine .ip (by omega) (.ip (by show 0<=id/\id< (x.servers.length:Int);rw[vc.len];exact hid) (.ip rfl (.ret ⟨(Kp.self ok).set (s:=⟨s'.up,s'.intact,s'.version,s'.epoch,s'.config,s'.first,s'.log.take s'.log.length++ [⟨s'.epoch,o⟩],s'.commit,s'.learned⟩) ⟨hs.1,aU hl2 (by omega),hs.2.2⟩ _,λ_=>⟨by show (x.servers.set _ _).length=5;rw[Cu];exact vc.len,hid⟩⟩)))
 have h18:Tt (λy=>Kp x y.1/\(y.2.1=0->y.1.servers.length=5/\0<=id/\id<5)) j18:=by unfold j18;refine .bind (U6 s.log (CW s2.2.1)) λm hm=> .bind (V9 m.1 o (by omega) (by omega)) λz _=> ?_;rw[CQ];refine .br (λ_=> .bind (Q:=T1) (by unfold GS;exact .ret trivial) λw _=> ?_) λ_=>good 11;exact .br (λ_=> .bind (abI x ok id) λ_ _=> .br (λ_=>good 6) λ_=> .br (λ_=>good 5) λ_=>h17) λ_=> .br (λ_=>good 5) λ_=>h17
 refine .br (λh=> .ip (of_decide_eq_true h) (.get ?_ λe _ _=> ?_)) λ_=> .br (λ_=>good 0) λ_=>h18
 ·have h:=of_decide_eq_true h;omega
 ·rw[CQ];exact .br (λ_=> .br (λ_=>good 0) λ_=>h18) λ_=>good 11
theorem acj(x:oZ)(ok:Dd 1048576 x)(id m:Int):Tt (λy=>Kp x y.1/\(y.2.1=true->0<=m/\m<5)) (Ii x id m):=by
 obtain⟨b,b1,_,b2⟩:=Po x ok id;have bad:Tt (λy:oZ×Bool×Unit=>Kp x y.1/\(y.2.1=true->0<=m/\m<5)) (some (x,false,())):=.ret ⟨.self ok,nofun⟩;unfold Ii;rw[(D4 x ok).1,an,b1,an,CQ];refine .br (λe=> ?_) λ_=>bad;obtain⟨hv,h0,h5,hp⟩:=b2 e;have vc:=Dl ok hv;refine .srv ok vc ⟨h0,h5⟩ λs s1 s2 s3=> .bind (NE _ (C5 s2.1)) λy hy=> ?_;rw[(C9 y.1 m (by have:=hy.1;unfold maxLen;omega)).1,an,CQ];refine .br (λhm=> ?_) λ_=>bad;have hm:=hy.2 m (of_decide_eq_true hm);refine .bind (Yz ok vc ⟨h0,h5⟩ hm) λz _=> ?_;rw[CQ];refine .br (λ_=> .srv ok vc ⟨h0,h5⟩ λt t1 t2 t3=> .srv ok vc ⟨h0,h5⟩ λu _ u2 _=> ?_) λ_=>bad;obtain⟨n,n1,_⟩:=N7 u.config m (C5 u2.1);rw[n1,an];have five: ∀ (i:Nat) (s:o4),(x.servers.set i s).length=5:=λi s=>by rw[Cu];exact vc.len
 refine .br (λ_=> ?_) λ_=> ?_
 ·rw[Zy t.log t2.2.1 (Kg t2 t3).2.2.2.2.2.1,an];refine .ip (by show 0<=m/\m< (x.servers.length:Int);rw[vc.len];exact hm) (.at vc.len hm λw _ hw=> ?_);have hw:=ok.1.2 w hw;refine .get (by rw[five];omega) λw' _ hw'=> .ret ⟨.srvs (.self ok) (by rw[Cu,Cu]) λs hs=> ?_,λ_=>hm⟩;have all:=(P2 ok.1 (s:=⟨w.up,w.intact,w.version,w.epoch,w.config,((cutAt t.log:Nat):Int),w.log,w.commit,w.learned⟩) hw m.toNat)
  have hw':=all.2 w' hw';exact (P2 all (s:=⟨w'.up,w'.intact,w'.version,w'.epoch,w'.config,w'.first,t.log.drop (cutAt t.log),w'.commit,w'.learned⟩) ⟨hw'.1,by show List.length _<=_;rw[cf];have:=t2.2.1;omega,hw'.2.2⟩ m.toNat).2 s hs
 ·rw[Qg t2.2.1,an];exact .at vc.len hm λw _ hw=> .ret ⟨(Kp.self ok).set (s:=⟨w.up,w.intact,w.version,w.epoch,w.config,w.first,t.log,w.commit,w.learned⟩) ⟨(ok.1.2 w hw).1,t2.2.1,(ok.1.2 w hw).2.2⟩ _,λ_=>hm⟩
theorem WW{l:List o4}(h:l.length=5/\ ∀s∈l,Dz 1048576 s){s:o4}(hs:Dz 1048576 s)(i:Nat): (l.set i s).length=5/\ ∀t∈l.set i s,Dz 1048576 t:=⟨by rw[Cu];exact h.1,λt ht=>(cL ht).elim (h.2 t) λe=>e ▸ hs⟩
abbrev fz:Int×Unit×Unit×Unit×Int×Int×Int×Int×Int×Unit×Unit:=(0,(),(),(),0,0,0,0,0,(),())
abbrev fc(x:oZ):Int×Unit×Unit×Unit×Int×Int×Int×Int×Int×Unit×Unit:=(x.now,(),(),(),x.master.activated,x.masterUp,x.lease.epoch,x.lease.holder,x.lease.ends,(),())
theorem WZ(x:oZ)(ok:Dd 1048576 x)(id:Int):Tt (λy=>Kp x y.1) (Gx x id):=by
 obtain⟨b,b1,_,b2⟩:=Po x ok id;unfold Gx;rw[(D4 x ok).1,an,b1,an,CQ];refine .br (λe=> ?_) λ_=> .ret (.self ok);obtain⟨hv,h0,h5,hp⟩:=b2 e;have vc:=Dl ok hv;refine .srv ok vc ⟨h0,h5⟩ λs s1 s2 s3=> .bind (NE _ (C5 s2.1)) λy hy=> ?_;have hl:y.1.length<=maxLen:=by have:=hy.1;unfold maxLen;omega
 refine .bind (.count (B:=H1) (E:=λe=> ∃ (c:oZ) (a:Bool),Kp x c/\e=((id,(),(),(),a,()),(fz,fc c,()),y.1,c.servers,c.sides,c.master.configs,c.places,())) y.1.length (λk (b:oZ×Bool)=>((id,(),(),(),b.2,(k:Int),()),(fz,fc b.1,()),y.1,b.1.servers,b.1.sides,b.1.master.configs,b.1.places,())) (λ_ b=>Kp x b.1) (λb hb=> .end (Cp _) (.ret ⟨b.1,b.2,hb,rfl⟩)) (λk b hk hb=> .go (Cm.2 hk) (.ip ⟨Ck k,Cm.2 hk⟩ (.get (tn hk) λz _ hz=> .bind (acj b.1 hb.1 id z) λw hw=> .br (λ_=> .ret ⟨(w.1,w.2.1),by rw[Ap hl hk],hb.trans hw.1⟩) λ_=> .ret ⟨(w.1,false),by rw[Ap hl hk],hb.trans hw.1⟩))) (x,true) (.self ok)) ?_
 rintro _ ⟨c,a,hc,rfl⟩
 refine .bind (.count (B:=Hs) (E:=λe=> ∃ (c:oZ) (a:Bool),Kp x c/\e=(((),(),a,()),(fz,fc c,()),c.servers,c.sides,c.master.configs,c.places,())) y.1.length (λk (b:List o4)=>((id,(),(),(),a,(k:Int),()),(fz,fc c,()),y.1,b,c.sides,c.master.configs,c.places,())) (λ_ b=>b.length=5/\ ∀s∈b,Dz 1048576 s) (λb hb=> .end (Cp _) (.ret ⟨⟨c.now,b,c.sides,c.master,c.masterUp,c.lease,c.places⟩,a,hc.srvs (by rw[hb.1,hc.2,vc.len]) hb.2,rfl⟩)) (λk b hk hb=> .go (Cm.2 hk) (.br (λ_=> .ip ⟨Ck k,Cm.2 hk⟩ (.get (tn hk) λz _ hz=> .at hb.1 ⟨h0,h5⟩ λp _ _=> .at hb.1 (hy.2 z hz) λq _ hq=> .ret ⟨b.set z.toNat ⟨q.up,q.intact,q.version,q.epoch,q.config,q.first,q.log,((p.log.length:Nat):Int),q.learned⟩,by rw[Ap hl hk],WW hb (s:=⟨q.up,q.intact,q.version,q.epoch,q.config,q.first,q.log,((p.log.length:Nat):Int),q.learned⟩) (hb.2 q hq) _⟩)) λ_=> .ret ⟨⟨c.now,b,c.sides,c.master,c.masterUp,c.lease,c.places⟩,a,hc.srvs (by rw[hb.1,hc.2,vc.len]) hb.2,rfl⟩)) c.servers ⟨hc.2.trans vc.len,hc.1.1.2⟩) ?_
 rintro _ ⟨d,a',hd,rfl⟩
 exact .ret hd
theorem ZR(x:oZ)(ok:Dd 1048576 x)(id:Int)(o:Op):Tt (λy=>Kp x y.1) (L9 x id o):=by
 unfold L9;refine .bind (ZP x ok id o) λy hy=> ?_;rw[CQ];refine .br (λe=> ?_) λ_=> .ret hy.1;obtain⟨h5,hid⟩:=hy.2 (eq_of_beq e)
 have same: ∀ {α:Type} {Q:α->Prop} {l:List o4} {k:o4->o4->Option α},l.length=5->(∀s∈l,Dz 1048576 s)->(∀s,Dz 1048576 s->Tt Q (k s s))->Tt Q (iteP (0<=id/\id< (l.length:Int)) ((l[id.toNat]?).bind λa=>(l[id.toNat]?).bind λb=>k a b) none):=λh5 hs h=> .at h5 hid λs e1 e2=>by rw[e1,an];exact h s (hs s e2)
 have yO: ∀s:o4,(s.log.drop 0).take s.log.length=s.log:=λs=>by rw[ct,Cq]
 refine same h5 hy.1.1.1.2 λs hs=> .ip (by omega) ?_;rw[yO];refine .bind (aaA _ _ _ (CW hs.2.1)) λi _=> .at h5 hid λt _ _=> .br (λ_=> .bind (WZ y.1 hy.1.1 id) λz hz=> ?_) λ_=>same h5 hy.1.1.1.2 λs hs=> .ip (by omega) ?_
 ·rw[CQ];refine .br (λ_=>same (hz.2.trans h5) hz.1.1.2 λs hs=> .ip (by omega) ?_) λ_=> .ret (hy.1.trans hz);rw[yO];exact .bind (Xw _ _ (CW hs.2.1)) λ_ _=> .ret (hy.1.trans hz)
 ·rw[yO];exact .bind (Xw _ _ (CW hs.2.1)) λ_ _=> .ret hy.1
end
section
theorem Lt(x:oZ)(ok:Dd 1048576 x):Tt (λy=>y.1=true->VC x) (CP x):=by obtain⟨v,v1,_⟩:=Dg x ok;exact⟨(v,()),v1,λe=>Dl ok (by rw[v1,show v=true from e])⟩
theorem W3(x:oZ)(ok:Dd 1048576 x)(e:Int): ∃c b,EY x.master e=some (c,b,())/\D5 maxLen c/\(VC x->c.replicas.length<=5/\c.witnesses.length<=5/\(∀z∈c.replicas,0<=z/\z<5)/\(∀z∈c.witnesses,0<=z/\z<5)/\(b=true->CV c=some (true,())/\0<=c.primary/\c.primary<5)/\Jf c.replicas):=by
 obtain⟨c,b,h1,_,h2⟩:=KX x.master e ok.2.2.1;refine⟨c,b,h1,h2,λvc=> ?_⟩;obtain⟨c',b',g1,_,g2,_,g3,g4⟩:=H8 x.master e ok.2.2.1 vc.ml;rw[h1] at g1;obtain⟨rfl,rfl⟩:c=c'/\b=b':=by simpa using g1
 cases b with
 |false=>rw[g4 rfl];exact⟨bL _,bL _,nofun,nofun,nofun,λk hk=>by simp at hk⟩
 |true=>obtain⟨a1,a2,a3,_⟩:=Gh g2 (g3 rfl).1;exact⟨a1.len,a2.len,KJ a1,KJ a2,λ_=>⟨(g3 rfl).1,KJ a1 _ a3⟩,a1⟩
theorem V8(x:oZ)(ok:Dd 1048576 x): ∃c b,C1 x.master=some (c,b,())/\D5 maxLen c/\(VC x->c.replicas.length<=5/\c.witnesses.length<=5/\(∀z∈c.replicas,0<=z/\z<5)/\(∀z∈c.witnesses,0<=z/\z<5)/\(b=true->CV c=some (true,())/\0<=c.primary/\c.primary<5)/\Jf c.replicas):=by obtain⟨c,b,h1,h2⟩:=W3 x ok x.master.activated;exact⟨c,b,by unfold C1;rw[h1];rfl,h2⟩
theorem V4(s:o4)(e:Int)(h:Dz 1048576 s):Tt (λy=>Dz 1048576 y.1) (FE s e):=by unfold FE;rw[(MJ s h).1,an,DC,an,CQ];exact .br (λ_=> .br (λ_=> .ret h) λ_=> .br (λ_=> .ret h) λ_=> .ret h) λ_=> .ret h
theorem aco(x:oZ)(ok:Dd 1048576 x)(id e:Int):Tt (λy=>Kp x y.1) (Eu x id e):=by
 obtain⟨c,b,c1,c2,c3⟩:=V8 x ok;unfold Eu;rw[(D4 x ok).1,an,c1,an];refine .bind (Lt x ok) λv hv=> ?_;rw[CQ];refine .br (λh=> ?_) λ_=> .ret (.self ok);have vc:=hv h;rw[CQ];refine .br (λ_=> ?_) λ_=> .ret (.self ok);rw[DC,an,CQ];refine .br (λ_=> .bind (NE c c2) λm hm=> ?_) λ_=> .ret (.self ok);have hl:m.1.length<=maxLen:=by have:=hm.1;unfold maxLen;omega
 refine .bind (.count (B:=Et) (E:=λe=> ∃S:List o4,(S.length=5/\ ∀s∈S,Dz 1048576 s)/\e=(((),(),()),(fz,fc x,()),S,x.sides,x.master.configs,x.places,())) m.1.length (λk (S:List o4)=>((id,e,(),(),(),(),(k:Int),()),(fx x,fz,fc x,()),m.1,S,x.sides,x.master.configs,x.places,())) (λ_ S=>S.length=5/\ ∀s∈S,Dz 1048576 s) (λS hS=> .end (Cp _) (.ret ⟨S,hS,rfl⟩)) (λk S hk hS=> .go (Cm.2 hk) (.ip ⟨Ck k,Cm.2 hk⟩ (.get (tn hk) λz hz' hz=> .srv ok vc (hm.2 z hz) λs _ _ _=> .br (λ_=> .ip ⟨Ck k,Cm.2 hk⟩ (.get (tn hk) λz2 _ hz2=> .bind (V5 ok vc id z2) λ_ _=> .br (λ_=> .ip ⟨Ck k,Cm.2 hk⟩ (.get (tn hk) λz3 _ hz3=> .ip ⟨Ck k,Cm.2 hk⟩ (.get (tn hk) λz4 _ hz4=> .srv ok vc (hm.2 z4 hz4) λt _ t2 _=> .bind (V4 t e t2) λu hu=> .at hS.1 (hm.2 z3 hz3) λ_ _ _=> .ret ⟨S.set z3.toNat u.1,by rw[Ap hl hk],WW hS hu _⟩))) λ_=> .ret ⟨S,by rw[Ap hl hk],hS⟩)) λ_=> .ret ⟨S,by rw[Ap hl hk],hS⟩))) x.servers ⟨vc.len,ok.1.2⟩) ?_
 rintro _ ⟨S,hS,rfl⟩
 exact .ret ((Kp.self ok).srvs (by rw[hS.1,vc.len]) hS.2)
section
variable {x:oZ} (ok:Dd 1048576 x) (vc:VC x) (id:Int)
include ok vc
theorem ZG:Tt (λy=>y.1.length<=5/\ ∀z∈y.1,0<=z/\z<5) (EX x id):=by
 obtain⟨c,d,c1,c2,c3⟩:=V8 x ok;obtain⟨r5,_,inr,_⟩:=c3 vc;have rm:c.replicas.length<=maxLen:=by unfold maxLen;omega
 unfold EX;rw[c1,an];refine .bind (.count (B:=E9) (E:=λe=>e.2.2.1.length<=5/\ ∀z∈e.2.2.1,0<=z/\z<5) c.replicas.length (λk (b:List Int)=>((id,(),(),(),d,(k:Int),()),(fx x,(c.epoch,c.primary,(),(),()),()),b,c.replicas,c.witnesses,())) (λk b=>b.length<=k/\ ∀z∈b,0<=z/\z<5) (λb hb=> .end (Cp _) (.ret ⟨aU hb.1 r5,hb.2⟩)) (λk b hk hb=> ?_) [] ⟨aw _,nofun⟩) λy hy=> .ret hy;have ex:b.length<=5/\ ∀z∈b,0<=z/\z<5:=⟨by omega,hb.2⟩
 have st:b.length<=k+1/\ ∀z∈b,0<=z/\z<5:=⟨by omega,hb.2⟩
 refine .go (Cm.2 hk) (.br (λ_=> .bind (Lt x ok) λ_ _=> .br (λ_=> ?_) λ_=> .ret ex) λ_=> .ret ex);rw[DC,an];refine .br (λ_=> .ip ⟨Ck k,Cm.2 hk⟩ (.get (tn hk) λz _ hz=> .srv ok vc (inr z hz) λs _ _ _=> .br (λ_=> .br (λ_=> .ip ⟨Ck k,Cm.2 hk⟩ (.get (tn hk) λz2 _ hz2=> .bind (V5 ok vc id z2) λ_ _=> .br (λ_=> .ip ⟨Ck k,Cm.2 hk⟩ (.get (tn hk) λz3 _ hz3=> .ip ?_ (.ret ⟨b++ [z3],by rw[Ap rm hk],?_⟩))) λ_=> .ret ⟨b,by rw[Ap rm hk],st⟩)) λ_=> .ret ⟨b,by rw[Ap rm hk],st⟩) λ_=> .ret ⟨b,by rw[Ap rm hk],st⟩)) λ_=> .ret ex
 ·show (b++ [z3]).length*8<=2 ^ 40;rw[bI,cm];omega
 ·exact⟨by rw[bI,cm];omega,λy hy=>(bz.1 hy).elim (hb.2 y) λh=>by rw[aI.1 h];exact inr z3 hz3⟩
theorem ab8:Tt (λy=>y.1= -1\/0<=y.1/\y.1<5) (EW x id):=by
 unfold EW;refine .bind (ZG ok vc id) λl hl=> ?_;have lm:l.1.length<=maxLen:=by have:=hl.1;unfold maxLen;omega
 refine .bind (.count (B:=E8) (E:=λe=>e.1.1= -1\/0<=e.1.1/\e.1.1<5) l.1.length (λk (b:Int)=>(((),b,(),(k:Int),()),(fx x,()),l.1,())) (λ_ b=>b= -1\/0<=b/\b<5) (λb hb=> .end (Cp _) (.ret hb)) (λk b hk hb=> ?_) (-1) (.inl rfl)) λy hy=> .ret hy;refine .go (Cm.2 hk) (.br (λ_=> .ip ⟨Ck k,Cm.2 hk⟩ (.get (tn hk) λz _ hz=> .ret ⟨z,by rw[Ap lm hk],.inr (hl.2 z hz)⟩)) λhn=> .ip ⟨Ck k,Cm.2 hk⟩ (.get (tn hk) λz _ hz=> .srv ok vc (hl.2 z hz) λs _ _ _=> .srv ok vc (a:=b) ?_ λt _ _ _=> .br (λ_=> .ip ⟨Ck k,Cm.2 hk⟩ (.get (tn hk) λz2 _ hz2=> .ret ⟨z2,by rw[Ap lm hk],.inr (hl.2 z2 hz2)⟩)) λ_=> .ret ⟨b,by rw[Ap lm hk],hb⟩));have hn: ¬b<0:=of_decide_eq_false hn;omega
omit ok vc in
theorem XI(f:Int)(l:List pZ)(hl:l.length<=maxLen):Tt (λy=>y.1=true->0<=f/\l.length<=3) (LY f l):=by obtain⟨b,b1,b2⟩:=OD hl;unfold LY;rw[b1,an];refine .br (λ_=> .br (λh=> ?_) λ_=> .ret nofun) λ_=> .ret nofun;have h: (l.length:Int)<=3:=of_decide_eq_true h;rw[DC,an];refine .br (λw=> ?_) λ_=> .ret nofun;have w:=CS.1 w;exact .br (λ_=> .ret λ_=>⟨w.1,by omega⟩) λ_=> .ret λ_=>⟨w.1,by omega⟩
omit ok vc in
theorem acb(a:List pZ)(f:Int)(t:List pZ)(ha:a.length<=1048576)(ht:t.length<=1048576):Tt (λy=>y.1.length<=19) (HA a f t):=by
 obtain⟨b,b1,b2⟩:=OD (CW ha);unfold HA;rw[b1,an,CQ];refine .br (λe=> ?_) λ_=> .ret (bL _);have h16:=b2 e;refine .bind (XI f t (CW ht)) λg hg=> ?_;rw[CQ];refine .br (λe=> ?_) λ_=> .ret (bL _);obtain⟨f0,t3⟩:=hg e;refine .br (λ_=> .ret (bL _)) λhn=> ?_;have hn: ¬f>(a.length:Int):=of_decide_eq_false hn;obtain⟨n,n1,n2,n3,_⟩:=Qf ((a.drop f.toNat).take ((a.length:Int).toNat-f.toNat)) t (aU (by rw[cH,cf];omega) (CW ha));refine .ip (by omega) ?_;rw[n1,an,uj (n:=(a.length:Int)-f) (by omega) (by omega)];refine .br (λ_=> .ret (bL _)) λ_=> ?_;rw[Qg ha,an]
 have hl: (a++((t.drop (n:Int).toNat).take ((t.length:Int).toNat-(n:Int).toNat))).length<=19:=by rw[bI,cH,cf];omega
 refine .ip (by omega) (.ip (aU (bn 56 hl) (by omega)) ?_);obtain⟨d,d1,_⟩:=OD (l:=a++((t.drop (n:Int).toNat).take ((t.length:Int).toNat-(n:Int).toNat))) (by unfold maxLen;omega);rw[show DU _=_ from d1,an,CQ];exact .br (λ_=> .ret hl) λ_=> .ret (bL _)
omit ok vc in
theorem ab7(s:o4)(id:Int)(h:Dz 1048576 s)(hf:0<=s.first/\s.first<=16/\s.log.length<=16):Tt (λy=>y.1.length<=1048576) (II s id):=by obtain⟨n,n1,_⟩:=N7 s.config id (C5 h.1);unfold II;rw[n1,an,Qg h.2.2,an];have eX:Tt (λy:List pZ×Unit=>y.1.length<=1048576) ((Dx s).bind λy3=>br (decide ((y3.1.length:Int)>(s.learned.length:Int))) (some (y3.1,())) (some (s.learned,()))):=.bind (PS s h hf) λy hy=> .br (λ_=> .ret (by show y.1.length<=_;omega)) λ_=> .ret h.2.2;exact .br (λ_=>eX) λ_=> .br (λ_=>eX) λ_=> .ret h.2.2
theorem ab3{c:mD}{w:o4}(hw:Dz 1048576 w)(j:Int)(d:Bool)(b:List pZ×Bool)(hb:b.1.length<=19):Tt (λe=> ∃r:List pZ×Bool,r.1.length<=19/\e=((id,(),(),r.2,(),d,j,()),(fx x,(c.epoch,c.primary,(),(),()),()),r.1,c.replicas,c.witnesses,())) (Jo ((id,(),(),b.2,(),d,j,(),0,()),(fx x,(c.epoch,c.primary,(),(),()),ZW w,()),b.1,c.replicas,c.witnesses,())):=by
 refine .count (B:=ET) (E:=λe=> ∃r:List pZ×Bool,r.1.length<=19/\e=((id,(),(),r.2,(),d,j,()),(fx x,(c.epoch,c.primary,(),(),()),()),r.1,c.replicas,c.witnesses,())) 5 (λk (b:List pZ×Bool)=>((id,(),(),b.2,(),d,j,(),(k:Int),()),(fx x,(c.epoch,c.primary,(),(),()),ZW w,()),b.1,c.replicas,c.witnesses,())) (λ_ b=>b.1.length<=19) (λb hb=> .end (Cp _) (.ret ⟨b,hb,rfl⟩)) (λk b hk hb=> ?_) b hb;have hkk:0<=(k:Int)/\(k:Int)<5:=⟨Ck k,Cm.2 hk⟩
 have sw:=Ap (n:=5) (by decide) hk;refine .go hkk.2 (.srv ok vc hkk λs _ _ _=> ?_);dsimp only;rw[sw,CQ];refine .br (λ_=> .bind (V5 ok vc id k) λy _=> ?_) λ_=> .ret ⟨b,rfl,hb⟩;rw[CQ];refine .br (λ_=> .srv ok vc hkk λt _ t2 t3=> .bind (ab7 t k t2 (U9 t2 t3)) λy hy=> .bind (acb y.1 w.first w.log hy hw.2.1) λz hz=> .br (λ_=> ?_) λ_=> .ret ⟨b,rfl,hb⟩) λ_=> .ret ⟨b,rfl,hb⟩;rw[CQ];exact .br (λ_=> .br (λ_=> .ret ⟨(z.1,true),rfl,hz⟩) λ_=> .ret ⟨b,rfl,hb⟩) λ_=> .ret ⟨(z.1,true),rfl,hz⟩
theorem ZO:Tt (λy=>y.1.length<=19) (Ez x id):=by
 obtain⟨c,d,c1,c2,c3⟩:=V8 x ok;obtain⟨_,r5,_,inw,_⟩:=c3 vc;have rm:c.witnesses.length<=maxLen:=by unfold maxLen;omega
 unfold Ez;rw[c1,an];refine .bind (.count (B:=Ep) (E:=λe=>e.2.2.1.length<=19) c.witnesses.length (λk (b:List pZ×Bool)=>((id,(),(),b.2,(),d,(k:Int),()),(fx x,(c.epoch,c.primary,(),(),()),()),b.1,c.replicas,c.witnesses,())) (λ_ b=>b.1.length<=19) (λb hb=> .end (Cp _) (.ret hb)) (λk b hk hb=> ?_) ([],false) (bL _)) λy hy=> .ret hy;refine .go (Cm.2 hk) (.br (λ_=> .bind (Lt x ok) λ_ _=> .br (λ_=> ?_) λ_=> .ret hb) λ_=> .ret hb);rw[DC,an];refine .br (λ_=> .ip ⟨Ck k,Cm.2 hk⟩ (.get (tn hk) λz _ hz=> .srv ok vc (inw z hz) λs _ s2 _=> ?_)) λ_=> .ret hb;have sw:=Ap rm hk;rw[CQ];refine .br (λ_=> ?_) λ_=> .ret ⟨b,by rw[sw],hb⟩;rw[CQ];refine .br (λ_=> .ip ⟨Ck k,Cm.2 hk⟩ (.get (tn hk) λz2 _ _=> .bind (V5 ok vc id z2) λy _=> ?_)) λ_=> .ret ⟨b,by rw[sw],hb⟩;rw[CQ];refine .br (λ_=> .bind (ab3 ok vc id (c:=c) s2 k d b hb) ?_) λ_=> .ret ⟨b,by rw[sw],hb⟩
 rintro _ ⟨r,hr,rfl⟩
 exact .ret ⟨r,by rw[<-sw],hr⟩
theorem aas:Tt (λy=>y.1.length<=1048576) (EI x id):=by unfold EI;refine .bind (Lt x ok) λv _=> ?_;rw[CQ];refine .br (λ_=> ?_) λ_=> .ret (bL _);rw[DC,an,CQ];refine .br (λ_=> .br (λ_=> .ret (bL _)) λ_=> .bind (ab8 ok vc id) λn hn=> .br (λh=> ?_) λ_=> .bind (ZO ok vc id) λy hy=> .ret (by show y.1.length<=_;omega)) λ_=> .ret (bL _);have h:n.1≥0:=of_decide_eq_true h;refine .srv ok vc (by omega) λs _ s2 _=> ?_;rw[Qg s2.2.1];exact .ret s2.2.1
end
theorem R7(l:List pZ)(hl:l.length<=maxLen):Tt T1 (Dy l):=by unfold Dy;refine .bind (.count (B:=Fw) (E:=λ_=>True) l.length (λk (_:Unit)=>((l,(k:Int),()),(),())) (λ_ _=>True) (λ_ _=> .end (Cp _) (.ret trivial)) (λk _ hk _=> .go (Cm.2 hk) (.ip (Ck k) (.get (tn hk) λe _ _=> .bind (Q:=T1) (by unfold GS;exact .ret trivial) λ_ _=> .br (λ_=> .ret trivial) λ_=> .ret ⟨(),by rw[Ap hl hk],trivial⟩))) () trivial) λy _=> ?_;cases y<;>exact .ret trivial
theorem Vl(s:o4)(c:mD)(id:Int)(l:List pZ)(hs:Dz 1048576 s)(hc:D5 1048576 c)(hl:l.length<=1048576):Tt (λy=>Dz 1048576 y.1) (D7 s c id l):=by
 obtain⟨n,n1,_⟩:=N7 c id (C5 hc);obtain⟨b,b1,_⟩:=OD (CW hl);obtain⟨e,e1,_⟩:=IJ l (CW hl);unfold D7;simp only[n1,b1,e1,(MJ s hs).1,(KP c hc).1,Qg hl,DC,an,CQ,Se l hl];have hk:cutAt l<=l.length:=Nat.sub_le _ _
 have hl2: ((l.drop (cutAt l)).take ((l.length:Int).toNat-cutAt l)).length<=1048576:=by rw[cH,cf];omega
 refine .br (λ_=> .ret hs) λ_=> .br (λ_=> .br (λ_=> .br (λ_=> .br (λ_=> .ret hs) λ_=> .br (λ_=> .bind (R7 l (CW hl)) λ_ _=> .br (λ_=> .ret hs) λ_=> ?_) λ_=> ?_) λ_=> .ret hs) λ_=> .ret hs) λ_=> .ret hs
 all_goals
  exact .br (λ_=> .ip (by omega) (.bind (Q:=λy=>y.1.length<=1048576) ⟨_,Qg hl2,hl2⟩ λy hy=> .ret ⟨hc,hy,bL _⟩)) λ_=> .ret ⟨hc,hl,bL _⟩
theorem R9(m:jw)(h:KI 1048576 m)(e:Int):Tt (λy=>KI 1048576 y.1/\y.1.configs.length=m.configs.length) (DV m e):=by obtain⟨b,b1,_⟩:=masterLog m (ED h);unfold DV;rw[(NU m h).1,an,b1,an,CQ];refine .br (λ_=> ?_) λ_=> .ret ⟨h,rfl⟩;rw[CQ];exact .br (λ_=> .br (λ_=> .ret ⟨h,rfl⟩) λ_=> .ret ⟨h,rfl⟩) λ_=> .ret ⟨h,rfl⟩
theorem Pg(x:oZ)(ok:Dd 1048576 x):Tt (λy=>Kp x y.1) (FT x):=by
 obtain⟨c,b,c1,c2,c3⟩:=W3 x ok (x.master.configs.length:Int);unfold FT FB;rw[(D4 x ok).1,an,c1,an,an];refine .bind (Lt x ok) λv hv=> ?_;rw[CQ];refine .br (λh=> ?_) λ_=> .ret (.self ok);have vc:=hv h;rw[CQ];refine .br (λhb=> .br (λ_=> .ret (.self ok)) λ_=> .br (λ_=> .ret (.self ok)) λ_=> ?_) λ_=> .ret (.self ok);obtain⟨r5,w5,_,_,hp,_⟩:=c3 vc;have hp:=(hp hb).2;have hc:D5 1048576 c:=⟨by omega,by omega⟩
 have s5:=GO (CW ok.2.1) vc.sides;refine .srv ok vc hp λs _ _ _=> ?_;rw[CQ];refine .br (λ_=> .ip hp.1 (.get (by show c.primary.toNat<x.sides.length;omega) λsd _ _=> ?_)) λ_=> .ret (.self ok);rw[CQ];refine .br (λ_=> ?_) λ_=> .ret (.self ok);obtain⟨o,o1,_⟩:=MO x.lease x.now;rw[o1,an,CQ];refine .br (λ_=> .bind (aco x ok c.primary c.epoch) λy hy=> .bind (aas ok vc c.primary) λl hl=> ?_) λ_=> .ret (.self ok);rw[CQ];refine .br (λ_=> .bind (NE c c2) λm hm=> ?_) λ_=> .ret hy;have ml:m.1.length<=maxLen:=by have:=hm.1;unfold maxLen;omega
 have hyS:y.1.servers.length=5/\ ∀s∈y.1.servers,Dz 1048576 s:=⟨hy.2.trans vc.len,hy.1.1.2⟩
 refine .bind (.count (B:=F1) (E:=Sum.elim (λe=> ∃n:Int,e=(((),(),n,(),(),(),(),()),(fx x,fc y.1,(fc y.1,(c.epoch,c.primary,(),(),()),())),l.1,m.1,y.1.servers,y.1.sides,y.1.master.configs,y.1.places,c.replicas,c.witnesses,())) λe=>e.2=((fx x,fz,fc y.1,(c.epoch,c.primary,(),(),()),()),l.1,m.1,y.1.servers,y.1.sides,y.1.master.configs,y.1.places,c.replicas,c.witnesses,())) m.1.length (λk (_:Unit)=>(((),(),(),(),(),(),(k:Int),()),(fx x,fz,fc y.1,(c.epoch,c.primary,(),(),()),()),l.1,m.1,y.1.servers,y.1.sides,y.1.master.configs,y.1.places,c.replicas,c.witnesses,())) (λ_ _=>True) (λ_ _=> .end (Cp _) (.ret rfl)) (λk _ hk _=> ?_) () trivial) λe he=> ?_
 ·refine .go (Cm.2 hk) (.ip ⟨Ck k,Cm.2 hk⟩ (.get (tn hk) λz _ hz=> .srv ok vc (hm.2 z hz) λs _ _ _=> ?_));rw[CQ];refine .br (λ_=> .ip ⟨Ck k,Cm.2 hk⟩ (.get (tn hk) λz2 _ hz2=> .ip (hm.2 z2 hz2).1 (.get (by have:=hm.2 z2 hz2;show z2.toNat<x.sides.length;omega) λw _ _=> ?_))) λ_=> .ret ⟨_,rfl⟩;rw[CQ];exact .br (λ_=> .ret ⟨(),by rw[Ap ml hk],trivial⟩) λ_=> .ret ⟨_,rfl⟩
 cases e with
 |inl e=>obtain⟨n,rfl⟩:=he;exact .ret hy
 |inr e=>
  show Tt _ ((Jb (((),(),(),(),(),(),0,()),e.2)).bind _);rw[show e.2=_ from he];refine .bind (.count (B:=EN) (E:=Sum.elim (λe=> ∃n:Int,e=(((),(),n,(),(),(),(),()),(fx x,fc y.1,(fc y.1,(c.epoch,c.primary,(),(),()),())),l.1,m.1,y.1.servers,y.1.sides,y.1.master.configs,y.1.places,c.replicas,c.witnesses,())) λe=>e.2=((fx x,fz,fc y.1,(c.epoch,c.primary,(),(),()),()),l.1,m.1,y.1.servers,y.1.sides,y.1.master.configs,y.1.places,c.replicas,c.witnesses,())) m.1.length (λk (_:Unit)=>(((),(),(),(),(),(),(k:Int),()),(fx x,fz,fc y.1,(c.epoch,c.primary,(),(),()),()),l.1,m.1,y.1.servers,y.1.sides,y.1.master.configs,y.1.places,c.replicas,c.witnesses,())) (λ_ _=>True) (λ_ _=> .end (Cp _) (.ret rfl)) (λk _ hk _=> .go (Cm.2 hk) (.ip ⟨Ck k,Cm.2 hk⟩ (.get (tn hk) λz _ hz=> .srv ok vc (hm.2 z hz) λs _ _ _=> .br (λ_=> .bind (R7 l.1 (CW hl)) λ_ _=> .br (λ_=> .ret ⟨_,rfl⟩) λ_=> .ret ⟨(),by rw[Ap ml hk],trivial⟩) λ_=> .ret ⟨(),by rw[Ap ml hk],trivial⟩))) () trivial) λe he=> ?_;cases e with
  |inl e=>obtain⟨n,rfl⟩:=he;exact .ret hy
  |inr e=>
   show Tt _ ((KV (((),(),(),(),(),(),0,()),e.2)).bind _);rw[show e.2=_ from he];refine .bind (.count (B:=F2) (E:=λe=> ∃S:List o4,(S.length=5/\ ∀s∈S,Dz 1048576 s)/\e=(((),(),(),(),()),(fx x,fz,fc y.1,(c.epoch,c.primary,(),(),()),()),S,y.1.sides,y.1.master.configs,y.1.places,c.replicas,c.witnesses,())) m.1.length (λk (S:List o4)=>(((),(),(),(),(),(),(k:Int),()),(fx x,fz,fc y.1,(c.epoch,c.primary,(),(),()),()),l.1,m.1,S,y.1.sides,y.1.master.configs,y.1.places,c.replicas,c.witnesses,())) (λ_ S=>S.length=5/\ ∀s∈S,Dz 1048576 s) (λS hS=> .end (Cp _) (.ret ⟨S,hS,rfl⟩)) (λk S hk hS=> ?_) y.1.servers hyS) ?_
   ·refine .go (Cm.2 hk) (.ip ⟨Ck k,Cm.2 hk⟩ (.get (tn hk) λz _ hz=> .ip ⟨Ck k,Cm.2 hk⟩ (.get (tn hk) λz2 _ hz2=> .at hS.1 (hm.2 z2 hz2) λs e' hs=> .ip ⟨Ck k,Cm.2 hk⟩ (.get (tn hk) λz3 _ _=> ?_))));dsimp only;simp only[e',an,ct,Cq,aM];refine .ip (aw _) (.ip (aw _) (.ip (aw _) (.ip (aw _) (.bind (Vl s c z3 l.1 (hS.2 s hs) hc hl) λu hu=> .at hS.1 (hm.2 z hz) λ_ _ _=> .ret ⟨S.set z.toNat u.1,by rw[Ap ml hk],WW hS hu _⟩))))
   ·rintro _ ⟨S,hS,rfl⟩
    refine .bind (R9 x.master ok.2.2.1 c.epoch) λw hw=> .ret ?_;exact⟨⟨⟨by show S.length<=_;rw[hS.1];decide,hS.2⟩,hy.1.2.1,hw.1,hy.1.2.2.2⟩,by show S.length=_;rw[hS.1,vc.len]⟩
end
section
theorem Rz(m:jw)(h:KI 1048576 m)(c:mD)(hc:D5 1048576 c):Tt (λy=>KI 1048576 y.1/\y.1.configs.length<=m.configs.length+1) (Fj m c):=by
 have self:KI 1048576 m/\m.configs.length<=m.configs.length+1:=⟨h,cA _⟩
 obtain⟨b,b1,_⟩:=masterLog m (ED h);obtain⟨d,d1,_⟩:=F8 c (C5 hc);unfold Fj;rw[(NU m h).1,an,b1,an,CQ];refine .br (λe=> ?_) λ_=> .ret self;subst e;have hl:=Up h b1;rw[d1,an,CQ];refine .br (λ_=> ?_) λ_=> .ret self;rw[CQ];refine .br (λ_=> ?_) λ_=> .ret self;rw[(KP c hc).1,an];have h2: (m.configs++ [c]).length<=21:=by rw[bI,cm];omega
 exact .ip (aU (bn 64 h2) (by omega)) (.ret ⟨⟨aU h2 (by omega),λd hd=>(bz.1 hd).elim (h.2 d) λe=>by rw[aI.1 e];exact hc⟩,by show (m.configs++ [c]).length<=_;rw[bI];exact aw _⟩)
theorem Q1(x:oZ)(ok:Dd 1048576 x)(c:mD)(hc:D5 1048576 c):Tt (λy=>Kp x y.1) (FC x c):=by unfold FC;rw[(D4 x ok).1,an];refine .bind (Lt x ok) λv _=> ?_;rw[CQ];refine .br (λ_=> .br (λ_=> .ret (.self ok)) λ_=> .bind (Rz x.master ok.2.2.1 c hc) λm hm=> ?_) λ_=> .ret (.self ok);rw[CQ];exact .br (λ_=> .ret ⟨⟨ok.1,ok.2.1,hm.1,ok.2.2.2⟩,rfl⟩) λ_=> .ret (.self ok)
theorem aby(x:oZ)(ok:Dd 1048576 x)(n:Int):Tt (λy=>Kp x y.1) (Ih x n):=by unfold Ih;rw[(D4 x ok).1,an];refine .bind (Lt x ok) λv _=> ?_;rw[CQ];refine .br (λ_=> ?_) λ_=> .ret (.self ok);rw[DC,an,CQ];exact .br (λ_=> .ret ⟨ok,rfl⟩) λ_=> .ret (.self ok)
theorem aaB(x:oZ)(ok:Dd 1048576 x)(id:Int):Tt (λy=>y.1=true->VC x/\0<=id/\id<5) (GA x id):=by obtain⟨b,b1,_,b2⟩:=Sg x id ok;exact⟨_,b1,λe=>⟨Dl ok (b2 e).1,(b2 e).2⟩⟩
theorem ZL(x:oZ)(ok:Dd 1048576 x)(id:Int):Tt (λy=>Kp x y.1) (HK x id):=by unfold HK;rw[(D4 x ok).1,an];refine .bind (aaB x ok id) λv hv=> ?_;rw[CQ];refine .br (λe=> ?_) λ_=> .ret (.self ok);obtain⟨vc,hid⟩:=hv e;refine .srv ok vc hid λs _ _ _=> .br (λ_=> .ret (.self ok)) λ_=> .srv ok vc hid λt _ _ _=> ?_;rw[CQ];exact .br (λ_=> .at vc.len hid λu _ hu=> .ret ((Kp.self ok).set (s:=⟨u.up,u.intact,2,u.epoch,u.config,u.first,u.log,u.commit,u.learned⟩) (ok.1.2 u hu) _)) λ_=> .ret (.self ok)
theorem Wd(x:oZ)(ok:Dd 1048576 x)(id:Int):Tt (λy=>Kp x y.1) (GK x id):=by
 unfold GK;rw[(D4 x ok).1,an];refine .bind (aaB x ok id) λv hv=> ?_;rw[CQ];refine .br (λe=> ?_) λ_=> .ret (.self ok);obtain⟨vc,hid⟩:=hv e;refine .srv ok vc hid λs _ _ _=> .br (λ_=> .ret (.self ok)) λ_=> .srv ok vc hid λt _ _ _=> ?_;rw[CQ];refine .br (λ_=> .srv ok vc hid λs _ s2 _=> .bind (Q:=T1) ?_ λ_ _=> .br (λ_=> .ret (.self ok)) λ_=> .bind (.count (B:=GC) (E:=Sum.elim (λe=> ∃n:Int,e=((id,(),n,(),()),(fc x,fc x,()),x.servers,x.sides,x.master.configs,x.places,())) λe=>e=((id,(),(),(),()),(fz,fc x,()),x.servers,x.sides,x.master.configs,x.places,())) x.servers.length (λk (_:Unit)=>((id,(),(),(),(),(k:Int),()),(fx x,fz,fc x,ZW s,()),x.servers,x.sides,x.master.configs,x.places,())) (λ_ _=>True) (λ_ _=> .end (Cp _) (.ret rfl)) (λk _ hk _=> ?_) () trivial) λe he=> ?_) λ_=> .ret (.self ok)
 ·unfold Hh;exact .bind (R7 _ (CW s2.2.2)) λ_ _=> .ret trivial
 ·have sw:=Ap (CW ok.1.1) hk;refine .go (Cm.2 hk) ?_;rw[show HW _=_ from Jm s.config (C5 s2.1),an,CQ];refine .br (λ_=> .ret rfl) λ_=> .ip (Ck k) (.get (tn hk) λt _ ht=> ?_);have ht:=ok.1.2 t ht;rw[show Fa _ _=_ from (Ew t.config s.config (C5 ht.1)).1,an];refine .br (λ_=> .ip (Ck k) (.get (tn hk) λu _ hu=> .bind (Q:=T1) ?_ λ_ _=> .br (λ_=> .ret ⟨_,rfl⟩) λ_=> .ret ⟨(),by rw[sw],trivial⟩)) λ_=> .ret ⟨(),by rw[sw],trivial⟩;unfold Hh;exact .bind (R7 _ (CW (ok.1.2 u hu).2.1)) λ_ _=> .ret trivial
 cases e with
 |inl e=>obtain⟨n,rfl⟩:=he;exact .ret (.self ok)
 |inr e=>obtain rfl:=he;exact .at vc.len hid λu _ hu=> .ret ((Kp.self ok).set (s:=⟨u.up,u.intact,1,u.epoch,u.config,u.first,u.log,u.commit,u.learned⟩) (ok.1.2 u hu) _)
theorem ZA(x:oZ)(ok:Dd 1048576 x):Tt T1 (DE x):=by
 obtain⟨c,b,c1,c2,c3⟩:=V8 x ok;unfold DE;rw[c1,an];refine .bind (Lt x ok) λv hv=> ?_;rw[CQ];refine .br (λh=> ?_) λ_=> .ret trivial;have vc:=hv h;rw[CQ];refine .br (λhb=> ?_) λ_=> .ret trivial;obtain⟨_,_,_,_,hp,_⟩:=c3 vc;have hp:=(hp hb).2;refine .srv ok vc hp λs _ s2 _=> ?_;obtain⟨d,d1,_⟩:=Jv s c.primary s2;rw[d1,an,CQ];refine .br (λ_=> .srv ok vc hp λt _ _ _=> ?_) λ_=> .ret trivial;rw[CQ];refine .br (λ_=> .bind (NE c c2) λm hm=> .bind (.count (B:=Eo) (E:=λ_=>True) m.1.length (λk (_:Unit)=>(((),(),(),(k:Int),()),(fx x,(c.epoch,c.primary,(),(),()),()),m.1,c.replicas,c.witnesses,())) (λ_ _=>True) (λ_ _=> .end (Cp _) (.ret trivial)) (λk _ hk _=> .go (Cm.2 hk) (.ip ⟨Ck k,Cm.2 hk⟩ (.get (tn hk) λz _ hz=> .bind (Yz ok vc hp (hm.2 z hz)) λy _=> ?_))) () trivial) λe _=> ?_) λ_=> .ret trivial
 ·rw[CQ];exact .br (λ_=> .ret ⟨(),by rw[Ap (by have:=hm.1;unfold maxLen;omega) hk],trivial⟩) λ_=> .ret trivial
 ·cases e<;>exact .ret trivial
theorem W8(x:oZ)(ok:Dd 1048576 x):Tt T1 (E3 x):=by unfold E3;exact .bind (ZA x ok) λ_ _=> .ret trivial
section
variable {l:List tc} (hl:l.length<=maxLen) (hv:Dt l=some (true,()))
include hl hv
theorem abV(m:List Int)(hm:Jf m):Tt (λy=>y.1.length<=5) (Ku l m):=by have h5:=L0 hl hv;have ml:=hm.len;unfold Ku;refine .bind (.count (B:=H7) (E:=λe=>e.2.2.1.length<=5) m.length (λk (b:List Int)=>((l,m,(),(k:Int),()),(),b,())) (λk b=>b.length<=k/\SS b) (λb hb=> .end (Cp _) (.ret (aU hb.1 ml))) (λk b hk hb=> ?_) [] ⟨aw _,List.Pairwise.nil⟩) λy hy=> .ret hy;refine .go (Cm.2 hk) ?_;dsimp only;rw[hv,an,(LB hm).1,an];refine .br (λ_=> .br (λ_=> .ip (Ck k) (.get (tn hk) λz _ hz=> .ip (KJ hm z hz).1 (.get (by have:=KJ hm z hz;omega) λp _ _=> ?_))) (λh=>by cases h)) (λh=>by cases h);obtain⟨r,r1,r2,_,r4,_⟩:=Zt b p.rack (by omega) hb.2;rw[r1,an];exact .ret ⟨r,by rw[Ap (by unfold maxLen;omega) hk],by omega,r2⟩
theorem acm(i:Int):Tt T1 (Kt l i):=by have h5:=L0 hl hv;unfold Kt;rw[hv,an,DC,an];refine .br (λ_=> .br (λh=> ?_) λ_=> .ret trivial) λ_=> .ret trivial;have h:=CS.1 h;exact .ip h.1 (.get (by omega) λ_ _ _=> .ip h.1 (.get (by omega) λ_ _ _=> .ret trivial))
theorem ZQ(r:List Int)(hr:r.length<=5){a b:Int}(ha:0<=a/\a<5)(hb:0<=b/\b<5):Tt T1 (Ky l r a b):=by
 have h5:=L0 hl hv;have rm:r.length<=maxLen:=by unfold maxLen;omega
 unfold Ky;refine .ip ha.1 (.get (by omega) λp _ _=> ?_);rw[(C9 r p.rack rm).1,an];refine .ip hb.1 (.get (by omega) λq _ _=> ?_);rw[(C9 r q.rack rm).1,an,CQ];exact .br (λ_=> .ip ha.1 (.get (by omega) λ_ _ _=> .ip hb.1 (.get (by omega) λ_ _ _=> .ret trivial))) λ_=> .ret trivial
theorem ZH(m d:List Int)(hm:Jf m)(hd:d.length<=maxLen):Tt (λy=>y.1= -1\/(0<=y.1/\y.1<5/\y.1∉m)) (Hp l m d):=by
 have ml:m.length<=maxLen:=by have:=hm.len;unfold maxLen;omega
 unfold Hp;refine .bind (abV hl hv m hm) λr hr=> .bind (.count (B:=GQ) (E:=λe=>e.1.1= -1\/(0<=e.1.1/\e.1.1<5/\e.1.1∉m)) 5 (λk (b:Int)=>((l,m,d,b,(),(k:Int),()),(),r.1,())) (λ_ b=>b= -1\/(0<=b/\b<5/\b∉m)) (λb hb=> .end (Cp _) (.ret hb)) (λk b hk hb=> ?_) (-1) (.inl rfl)) λy hy=> .ret hy;have hkk:0<=(k:Int)/\(k:Int)<5:=⟨Ck k,Cm.2 hk⟩
 refine .go hkk.2 ?_;dsimp only;rw[(LB hm).1,an,Ap (n:=5) (by decide) hk];refine .br (λ_=> .bind (acm hl hv k) λy _=> ?_) (λh=>by cases h);rw[CQ,(C9 m k ml).1,(C9 d k hd).1];refine .br (λ_=> .br (λ_=> .ret ⟨b,rfl,hb⟩) λhn=> .br (λ_=> .ret ⟨b,rfl,hb⟩) λ_=> ?_) λ_=> .ret ⟨b,rfl,hb⟩;have hn: (k:Int)∉m:=of_decide_eq_false hn;refine .br (λ_=> .ret ⟨(k:Int),rfl,.inr ⟨hkk.1,hkk.2,hn⟩⟩) λh0=> ?_;have h0: ¬b<0:=of_decide_eq_false h0;exact .bind (ZQ hl hv r.1 hr hkk (by omega)) λ_ _=> .br (λ_=> .ret ⟨(k:Int),rfl,.inr ⟨hkk.1,hkk.2,hn⟩⟩) λ_=> .ret ⟨b,rfl,hb⟩
omit hv in
theorem aci(m a:List Int)(hm:Jf m)(ha:Jf a)(want:Int):Tt (λy=>Jf y.1) (GV l m a want):=by
 have am:a.length<=maxLen:=by have:=ha.len;unfold maxLen;omega
 obtain⟨v,v1,_⟩:=Iy l hl;have nil:Jf [] :=λk hk=>by simp at hk
 unfold GV;rw[Pp m a hm am,Pe _ a Na am,an,an,v1,an,CQ,(LB hm).1,(LB ha).1];refine .br (λe=> .br (λh=>by cases h) λ_=> .br (λh=>by cases h) λ_=> ?_) λ_=> .ret nil;subst e;rw[DC,an,CQ];refine .br (λ_=> ?_) λ_=> .ret nil;have dl:=(Na.filter λx=> !decide (x∈a)).len;have dm: (([0,1,2,3,4]:List Int).filter λx=> !decide (x∈a)).length<=maxLen:=by unfold maxLen;omega
 generalize ([0,1,2,3,4]:List Int).filter (λx=> !decide (x∈a))=dead at dm;refine .bind (.loop (B:=Fg) (E:=Sum.elim (λe=>Jf e.2.2.1) λe=>Jf e.2.2.1) (λs=> ∃out:List Int,s=((l,want,(),(),()),(),out,dead,())/\Jf out) (λs=>(want-s.2.2.1.length).toNat) ?_ ⟨_,rfl,hm.filter _⟩) λy hy=> ?_
 ·rintro _ ⟨out,rfl,ho⟩
  have ol:=ho.len;refine .br (λc=> ?_) λ_=> .ret ho;have c: (out.length:Int)<want:=of_decide_eq_true c;refine .bind (ZH hl v1 out dead ho dm) λn hn=> .br (λ_=> .ret ho) λh=> ?_;have h: ¬n.1<0:=of_decide_eq_false h
  obtain⟨n0,n5,nm⟩:0<=n.1/\n.1<5/\n.1∉out:=by
   rcases hn with h'|h'
   ·omega
   ·exact h'
  obtain⟨r,r1,r2,r3,_,r5⟩:=Zt out n.1 (by omega) ho.pair;rw[show G2 _ _=_ from r1,an];refine .ret ⟨⟨r,rfl,NQ r2 λy hy=>((r3 y).1 hy).elim (λe=>by rw[e];exact⟨n0,n5⟩) (KJ ho y)⟩,?_⟩;show (want-(r.length:Int)).toNat< (want-(out.length:Int)).toNat;have:=r5 nm;omega
 ·cases y with
  |inl y=>exact .ret hy
  |inr y=>exact .ret hy
end
theorem abv(x:oZ)(ok:Dd 1048576 x)(want wit:Int):Tt (λy=>D5 1048576 y.1) (Fb x want wit):=by
 have zero:D5 1048576 ⟨0,0,[],[]⟩:=⟨bL _,bL _⟩
 obtain⟨v,v1,_⟩:=Dg x ok;unfold Fb;rw[v1,an,CQ];refine .br (λe=> ?_) λ_=> .ret zero;subst e;have vc:=Dl ok v1;rw[DC,an,CQ];refine .br (λ_=> ?_) λ_=> .ret zero;rw[DC,an,CQ];refine .br (λ_=> .br (λ_=> .ret zero) λ_=> ?_) λ_=> .ret zero;obtain⟨c,b,c1,c2,c3⟩:=V8 x ok;obtain⟨r5,w5,inr,_,_,rasc⟩:=c3 vc;have rm:c.replicas.length<=maxLen:=by unfold maxLen;omega
 rw[Yg x ok v1,an,c1,an];have up:=R6 (Di x) (n:=5) (by omega);generalize La (Di x) 5=u at up;have um:u.length<=maxLen:=by have:=up.len;unfold maxLen;omega
 refine .bind (.count (B:=EO) (E:=λe=> ∃have':List Int,Jf have'/\e=((want,wit,(),(),(),(),(),()),(fx x,(0,0,(),(),()),(c.epoch,c.primary,(),(),()),()),u,have',c.replicas,c.witnesses,())) c.replicas.length (λk (b:List Int)=>((want,wit,(),(),(),(),(),(k:Int),()),(fx x,(0,0,(),(),()),(c.epoch,c.primary,(),(),()),()),u,b,c.replicas,c.witnesses,())) (λk b=>b.Sublist (c.replicas.take k)) (λb hb=> .end (Cp _) (.ret ⟨b,?_,rfl⟩)) (λk b hk hb=> ?_) [] (List.nil_sublist _)) ?_
 ·rw[Cq] at hb;exact NQ (rasc.pair.sublist hb) λy hy=>inr y (hb.subset hy)
 ·have sw:=Ap rm hk;have st:b.Sublist (c.replicas.take (k+1)):=hb.trans (List.take_sublist_take_left (cA k));refine .go (Cm.2 hk) (.ip ⟨Ck k,Cm.2 hk⟩ (.get (tn hk) λz _ hz=> ?_));rw[show DD _ _=_ from (C9 u z um).1,an];refine .br (λ_=> .ip ⟨Ck k,Cm.2 hk⟩ (.get (tn hk) λz2 _ hz2=> .srv ok vc (inr z2 hz2) λs _ _ _=> .br (λ_=> .ip ⟨Ck k,Cm.2 hk⟩ (.get (tn hk) λz3 e3 _=> ?_)) λ_=> .ret ⟨b,by rw[sw],st⟩)) λ_=> .ret ⟨b,by rw[sw],st⟩;have e3:c.replicas[k]? =some z3:=e3
  have h2: (b++ [z3]).Sublist (c.replicas.take (k+1)):=by rw[Cr,e3];exact hb.append (List.Sublist.refl _)
  have h3:=h2.length_le;rw[cH] at h3;exact .ip (by show (b++ [z3]).length*8<=2 ^ 40;omega) (.ret ⟨b++ [z3],by rw[sw],h2⟩)
 ·rintro _ ⟨hv,ha,rfl⟩
  refine .bind (aci (CW ok.2.2.2) hv u ha up want) λp hp=> .br (λ_=> .ret zero) λh0=> ?_;have pl:=hp.len
  have p0:0<p.1.length:=by
   rcases bh p.1.length with h|h
   ·rw[h] at h0;cases h0
   ·exact h
  refine .ip ⟨cJ _,Cm.2 p0⟩ (.get p0 λq _ _=> ?_);rw[show DD _ _=_ from (C9 p.1 c.primary (by unfold maxLen;omega)).1,an];have eX: ∀w:List Int,w.length<=1-> ∀ (e p':Int) (d:Bool),Tt (λy:mD×Bool×Unit=>D5 1048576 y.1) (some (⟨e,p',p.1,w⟩,d,())):=λw hw _ _ _=> .ret ⟨by show p.1.length<=_;omega,by show w.length<=_;omega⟩
  extract_lets j43
  have h43: ∀p',Tt (λy=>D5 1048576 y.1) (j43 p'):=λp'=>by unfold j43;refine .br (λ_=> ?_) λ_=>eX [] (by decide) _ _ _;rw[show Ec _ _=_ from Pe _ u Na um,an];refine .bind (ZH (CW ok.2.2.2) vc.places p.1 _ hp ?_) λ_ _=> .br (λ_=>eX [_] (aw 1) _ _ _) λ_=>eX [] (by decide) _ _ _;have:=(Na.filter λx=> !decide (x∈u)).len;exact aU this (by unfold maxLen;omega)
  refine .br (λ_=> ?_) λ_=>h43 _;rw[show HW _=_ from Jm c c2,an];exact .br (λ_=>h43 _) λ_=>h43 _
theorem Zv(x:oZ)(ok:Dd 1048576 x)(id t:Int):Tt (λy=>Kp x y.1) (FD x id t):=by obtain⟨n,n1,n2⟩:=To x ok id;unfold FD;rw[(D4 x ok).1,an,n1,an,CQ];refine .br (λe=> ?_) λ_=> .ret (.self ok);obtain⟨hv,h0,h5⟩:=n2 (eq_of_beq e);have vc:=Dl ok hv;have s5:=GO (CW ok.2.1) vc.sides;refine .srv ok vc ⟨h0,h5⟩ λs _ s2 _=> ?_;obtain⟨b,b1,_⟩:=Jv s id s2;rw[b1,an,CQ];refine .br (λ_=> .br (λ_=> .ret (.self ok)) λ_=> .ip h0 (.get (by omega) λ_ _ _=> ?_)) λ_=> .ret (.self ok);rw[CQ];refine .br (λ_=> ?_) λ_=> .ret (.self ok);rw[CQ];refine .br (λ_=> ?_) λ_=> .ret (.self ok);obtain⟨l,d,g1,_⟩:=Si x.lease s.config.epoch id x.now t;rw[g1,an,CQ];exact .br (λ_=> .ret ⟨ok,rfl⟩) λ_=> .ret (.self ok)
theorem aal(x:oZ)(ok:Dd 1048576 x)(want term:Int):Tt (λy=>Kp x y.1) (E5 x want term):=by unfold E5;rw[(D4 x ok).1,an];refine .bind (Lt x ok) λv _=> ?_;rw[CQ];refine .br (λ_=> ?_) λ_=> .ret (.self ok);rw[DC,an,CQ];refine .br (λ_=> .bind (W8 x ok) λ_ _=> .br (λ_=> .ret (.self ok)) λ_=> .bind (abv x ok want 0) λn hn=> ?_) λ_=> .ret (.self ok);rw[CQ];refine .br (λ_=> .bind (Q1 x ok n.1 hn) λy hy=> ?_) λ_=> .ret (.self ok);rw[CQ];refine .br (λ_=> ?_) λ_=> .ret (.self ok);obtain⟨t,t1,_⟩:=Tn x.lease;rw[t1,an];refine .bind (aby y.1 hy.1 _) λz hz=> ?_;rw[CQ];refine .br (λ_=> .bind (Pg z.1 hz.1) λa ha=> ?_) λ_=> .ret (.self ok);rw[CQ];exact .br (λ_=> .bind (Zv a.1 ha.1 _ _) λr hr=> .ret (hy.trans (hz.trans (ha.trans hr)))) λ_=> .ret (hy.trans (hz.trans ha))
theorem acE(x:oZ)(ok:Dd 1048576 x)(to:Int):Tt (λy=>y.1=0->VC x) (K1 x to):=by obtain⟨c,b,c1,c2,c3⟩:=V8 x ok;unfold K1;rw[c1,an];refine .bind (Lt x ok) λv hv=> ?_;rw[CQ];refine .br (λh=> ?_) λ_=> .ret nofun;have vc:=hv h;have s5:=GO (CW ok.2.1) vc.sides;rw[CQ];refine .br (λhb=> ?_) λ_=> .ret nofun;obtain⟨r5,_,_,_,hp,_⟩:=c3 vc;have hp:=(hp hb).2;rw[(C9 c.replicas to (by unfold maxLen;omega)).1,an,CQ];refine .br (λ_=> .br (λ_=> .ret nofun) λ_=> ?_) λ_=> .ret nofun;rw[CQ];refine .br (λ_=> .br (λ_=> .ret nofun) λ_=> .br (λ_=> .ret nofun) λ_=> .bind (W8 x ok) λ_ _=> ?_) λ_=> .ret nofun;rw[CQ];refine .br (λ_=> .ip hp.1 (.get (by show c.primary.toNat<x.sides.length;omega) λ_ _ _=> ?_)) λ_=> .ret nofun;rw[CQ];refine .br (λ_=> .br (λ_=> ?_) λ_=> .ret λ_=>vc) λ_=> .ret nofun;rw[CQ];exact .br (λ_=> .ret λ_=>vc) λ_=> .ret nofun
theorem aau(x:oZ)(ok:Dd 1048576 x)(to:Int):Tt (λy=>Kp x y.1) (HJ x to):=by
 obtain⟨c,b,c1,c2,c3⟩:=V8 x ok;unfold HJ;rw[(D4 x ok).1,an];refine .bind (acE x ok to) λn hn=> ?_;rw[CQ];refine .br (λh=> ?_) λ_=> .ret (.self ok);obtain⟨r5,w5,_⟩:=c3 (hn (eq_of_beq h));rw[c1,an];refine .bind (WZ x ok c.primary) λy hy=> ?_;have hy':Kp x ⟨y.1.now,y.1.servers,y.1.sides,y.1.master,y.1.masterUp,⟨0,0,0⟩,y.1.places⟩:=⟨hy.1,hy.2⟩
 exact .bind (Q1 _ hy'.1 ⟨_,to,c.replicas,c.witnesses⟩ ⟨by show c.replicas.length<=_;omega,by show c.witnesses.length<=_;omega⟩) λz hz=> .bind (Pg z.1 hz.1) λw hw=> .ret (hy'.trans (hz.trans hw))
end
section
theorem Tt.byte{α:Type}{Q:α->Prop}{b:ByteArray}{i:Nat}{k:UInt8->Option α}(hi:i<b.size)(h: ∀x,Tt Q (k x)):Tt Q ((b[i]?).bind k):=by rw[getElem?_pos b i hi];exact h _
theorem S5(b:Int): (zY ((([b]:List Int).drop 0).take ([b]:List Int).length)).size=1:=rfl
theorem Hy(n:Int)(h:n.natAbs<=1000):Tt (λy=>y.1.size<=1001) (Fi n):=by
 unfold Fi;refine .br (λ_=> .ret (by decide)) λ_=> .bind (.loop (B:=KK) (E:=λe=>e.1.1.size<=1000) (λs=>s.1.2.1.size+s.1.1.natAbs<=1000) (λs=>s.1.1.natAbs) ?_ (by simpa using h)) λy hy=> .br (λ_=> .ip ?_ (.ret ?_)) λ_=> .ret (aU hy (by omega))
 ·rintro⟨⟨n,acc,neg,_⟩,_,_⟩ hs
  have hs:acc.size+n.natAbs<=1000:=hs;refine .br (λh0=> ?_) λ_=> .ret (by show acc.size<=1000;omega);have h0:n≠0:=λe=>by rw[e] at h0;cases h0
  have ha: (Int.tdiv n 10).natAbs=n.natAbs / 10:=Int.natAbs_tdiv n 10;have hw:IntKind.wrap .i64 (Int.tdiv n 10)=Int.tdiv n 10:=uj (by omega) (by omega);dsimp only;rw[hw];refine .br (λ_=> .ip ⟨Nat.one_pos,aw _⟩ (.ip (by rw[S5];omega) (.ret ⟨?_,?_⟩))) λ_=> .ip ⟨Nat.one_pos,aw _⟩ (.ip (by rw[S5];omega) (.ret ⟨?_,?_⟩))
  all_goals first
   | (show (_++acc).size+(Int.tdiv n 10).natAbs<=1000;rw[ByteArray.size_append,S5];omega)
   | (show (Int.tdiv n 10).natAbs<n.natAbs;omega)
 ·show (⟨⟨[45]⟩⟩:ByteArray).size+y.1.1.size<=2 ^ 40;have : (⟨⟨[45]⟩⟩:ByteArray).size=1:=rfl;omega
 ·show ((⟨⟨[45]⟩⟩:ByteArray)++y.1.1).size<=1001;have : (⟨⟨[45]⟩⟩:ByteArray).size=1:=rfl;rw[ByteArray.size_append];omega
theorem abT{o:Op}(h:opB o=true): (0<=o.client/\o.client<=2)/\(1<=o.seq/\o.seq<=99)/\(0<=o.object/\o.object<=2)/\(0<=o.value/\o.value<=9)/\(o.kind≠1->0<=o.old/\o.old<=9):=by
 obtain⟨h1,h2,h4⟩:=abU h;have h3:=Xu (show DM o=some (true,()) by rw[N6,h]);refine⟨CS.1 h1,CS.1 h2,h3,CS.1 h4,λhk=> ?_⟩;have h0:DM o=some (true,()):=by rw[N6,h]
 unfold DM at h0;simp only[DC,an,h1,h2,h4,CS.2 h3,cS,Ar,beq_eq_false_iff_ne.2 hk] at h0;cases hk2: (o.kind==2) with
 |false=>rw[hk2] at h0;cases h0
 |true=>rw[hk2] at h0;simp only[Bg,ae,ap,and_true] at h0;exact CS.1 h0
theorem XH(o:Op):Tt (λy=>y.1.size<=10000) (Ma o):=by
 unfold Ma;rw[N6,an,CQ];refine .br (λh=> ?_) λ_=> .ret (by decide);obtain⟨n1,n2,n3,n4,n5⟩:=abT h;have e1: (⟨⟨[46]⟩⟩:ByteArray).size=1:=rfl;have e2: (⟨⟨[32]⟩⟩:ByteArray).size=1:=rfl;have e3: (⟨⟨[119,114,105,116,101,32]⟩⟩:ByteArray).size=6:=rfl;have e4: (⟨⟨[115,119,97,112,32]⟩⟩:ByteArray).size=5:=rfl;refine .bind (Hy _ (by omega)) λa ha=> .ip (by omega) (.bind (Hy _ (by omega)) λb hb=> .ip (by rw[ByteArray.size_append];omega) (.ip (by simp only[ByteArray.size_append];omega) (.br (λ_=> .ip (by simp only[ByteArray.size_append];omega) (.bind (Hy _ (by omega)) λc hc=> .ip (by simp only[ByteArray.size_append];omega) (.ip (by simp only[ByteArray.size_append];omega) (.bind (Hy _ (by omega)) λd hd=> .ip (by simp only[ByteArray.size_append];omega) (.ret ?_))))) λhk=> ?_)))
 ·show ByteArray.size _<=_;simp only[ByteArray.size_append];omega
 ·have n5:=n5 λe=>by rw[e] at hk;cases hk
  refine .ip (by simp only[ByteArray.size_append];omega) (.bind (Hy _ (by omega)) λc hc=> .ip (by simp only[ByteArray.size_append];omega) (.ip (by simp only[ByteArray.size_append];omega) (.bind (Hy _ (by omega)) λd hd=> .ip (by simp only[ByteArray.size_append];omega) (.ip (by simp only[ByteArray.size_append];omega) (.bind (Hy _ (by omega)) λe he=> .ip (by simp only[ByteArray.size_append];omega) (.ret ?_))))));show ByteArray.size _<=_;simp only[ByteArray.size_append];omega
theorem Wg(l:List pZ)(hl:l.length<=maxLen):Tt (λy=>y.1.size<=1000000) (KZ l):=by
 obtain⟨b,b1,b2⟩:=OD hl;unfold KZ;rw[b1,an,CQ];refine .br (λe=> ?_) λ_=> .ret (by decide);have h16:=b2 e;subst e;have hlog:=((Nm l hl).1 b1).2;refine .br (λ_=> .ret (by decide)) λ_=> .bind (.count (B:=KL) (E:=λe=>e.1.1.size<=1000000) l.length (λk (b:ByteArray)=>((l,b,(k:Int),()),(),())) (λk b=>b.size<=k*20000) (λb hb=> .end (Cp _) (.ret (by show b.size<=_;omega))) (λk b hk hb=> ?_) ByteArray.empty (bL _)) λy hy=> .ret hy;have sw:=Ap hl hk;have e1: (⟨⟨[58]⟩⟩:ByteArray).size=1:=rfl;have e2: (⟨⟨[59]⟩⟩:ByteArray).size=1:=rfl;have hb:b.size<=k*20000:=hb;have hk2:k*20000<=16*20000:=bn _ (by omega);refine .go (Cm.2 hk) (.br (λ_=> .ip (by rw[e2];show b.size+1<=_;omega) (.ip (Ck k) (.get (tn hk) λe he _=> .bind (Hy _ ?_) λy hy=> ?_))) λ_=> .ip (Ck k) (.get (tn hk) λe he _=> .bind (Hy _ ?_) λy hy=> ?_))
 case refine_1|refine_3=>have:=hlog k hk;unfold XW at this;rw[show l[k]? =some e from he] at this;simp only[aj] at this;have:=CS.1 this.1;omega
 all_goals
  dsimp only;rw[sw];refine .ip (by first |omega| (simp only[ByteArray.size_append];omega)) (.ip (by simp only[ByteArray.size_append];omega) (.ip (Ck k) (.get (tn hk) λe2 _ _=> .bind (XH e2.op) λz hz=> .ip (by simp only[ByteArray.size_append];omega) (.ret ⟨_,rfl,?_⟩))));simp only[ByteArray.size_append];omega
theorem XD(b:ByteArray)(hb:b.size<=1000000):Tt T1 (L8 b):=by unfold L8;exact .bind (.count (B:=LC) (E:=λ_=>True) b.size (λk (n:Int)=>((b,n,(k:Int),()),(),())) (λ_ _=>True) (λ_ _=> .end (Cp _) (.ret trivial)) (λk n hk _=> .go (Cm.2 hk) (.ip (Ck k) (.byte hk λx=> .ret ⟨_,by rw[Ap (n:=b.size) (by unfold maxLen;omega) hk],trivial⟩))) 5 trivial) λ_ _=> .ret trivial
theorem Yp(l:List pZ)(hl:l.length<=maxLen):Tt (λy=>y.1.length<=l.length+1/\y.1.length<=17) (JP l):=by
 obtain⟨b,b1,b2⟩:=OD hl;unfold JP;rw[b1,an,CQ];refine .br (λe=> ?_) λ_=> .ret ⟨bL _,bL _⟩;have h16:=b2 e;refine .ip (by simp) (.bind (.count (B:=JH) (E:=λe=>e.2.2.1.length<=l.length+1/\e.2.2.1.length<=17) l.length (λk (b:Int×List Int)=>((l,(),b.1,(k:Int),()),(),b.2,())) (λk b=>b.2.length=k+1) (λb hb=> .end (Cp _) (.ret (by show b.2.length<=_/\b.2.length<=_;omega))) (λk b hk hb=> ?_) (11,[11]) rfl) λy hy=> .ret hy);have sw:=Ap hl hk;refine .go (Cm.2 hk) ?_;dsimp only;rw[sw];refine .ip ⟨Ck k,by omega,Int.ofNat_le.2 hk⟩ (.bind (Wg _ (aU (by rw[cH,cf];omega) hl)) λy hy=> .bind (XD y.1 hy) λz _=> .ip ?_ (.ret ⟨(_,_),rfl,?_⟩))
 ·rw[bI,cm,hb];omega
 ·rw[bI,cm,hb]
theorem W5(l:List pZ)(k:Int)(hl:l.length<=maxLen):Tt (λy=>y.1≠ -1->0<=k/\k<=(l.length:Int)) (Ks l k):=by unfold Ks;refine .bind (Yp l hl) λy hy=> ?_;rw[uj (n:=(y.1.length:Int)-1) (by omega) (by omega),DC,an,CQ];refine .br (λh=> ?_) λ_=> .ret λh=>absurd rfl h;have h:=CS.1 h;exact .ip (by omega) (.get (by omega) λ_ _ _=> .ret λ_=>by omega)
theorem abZ(x:oZ)(ok:Dd 1048576 x)(a b:Int):Tt (λy=>y.1=true->VC x/\(0<=a/\a<5)/\(0<=b/\b<5)) (K6 x a b):=by
 unfold K6;refine .bind (Lt x ok) λv hv=> ?_;rw[CQ];refine .br (λh=> ?_) λ_=> .ret nofun;have vc:=hv h;have h5:=GO (CW ok.2.1) vc.sides
 have side:Tt (λy:Bool×Unit=>y.1=true->(0<=a/\a<5)/\(0<=b/\b<5)) (EG x.sides a b):=by unfold EG;simp only[vc.sides,DC,an,Bg];refine .br (λha=> .br (λhb=> ?_) λ_=> .ret nofun) λ_=> .ret nofun;have ha:=CS.1 ha;have hb:=CS.1 hb;exact .ip ha.1 (.get (by omega) λ_ _ _=> .ip hb.1 (.get (by omega) λ_ _ _=> .ret λ_=>by omega))
 refine .bind side λy hy=> ?_;rw[CQ];refine .br (λh=> ?_) λ_=> .ret nofun;obtain⟨ha,hb⟩:=hy h;refine .br (λ_=> .ret nofun) λ_=> .srv ok vc ha λs _ s2 _=> ?_;obtain⟨n,n1,_⟩:=N7 s.config a (C5 s2.1);obtain⟨m,m1,_⟩:=N7 s.config b (C5 s2.1);rw[n1,an,m1];have good: ∀d:Bool,Tt (λy:Bool×Unit=>y.1=true->VC x/\(0<=a/\a<5)/\(0<=b/\b<5)) (some (d,())):=λd=> .ret λ_=>⟨vc,ha,hb⟩
 exact .br (λ_=> .srv ok vc hb λ_ _ _ _=> .br (λ_=> .br (λ_=> .br (λ_=>good _) λ_=>good _) λ_=> .br (λ_=> .br (λ_=>good _) λ_=>good _) λ_=>good _) λ_=>good _) λ_=>good _
theorem ace(x:oZ)(ok:Dd 1048576 x)(a b:Int):Tt (λy=>0<=y.1->VC x/\(0<=a/\a<5)/\(0<=b/\b<5)/\ ∃s l,x.servers[a.toNat]? =some s/\Dx s=some (l,())/\l.length<=16/\y.1<=(l.length:Int)) (IZ x a b):=by
 unfold IZ;refine .bind (abZ x ok a b) λv hv=> ?_;rw[CQ];refine .br (λh=> ?_) λ_=> .ret λh=>absurd h (by decide);obtain⟨vc,ha,hb⟩:=hv h;refine .srv ok vc ha λs s1 s2 s3=> ?_;obtain⟨⟨l,_⟩,l1,l2⟩:=PS s s2 (U9 s2 s3);have l2:l.length<=16:=l2;rw[l1,an];refine .srv ok vc hb λt _ t2 _=> .srv ok vc hb λu _ u2 _=> .bind (Q:=T1) ?_ λd _=> .bind (Q:=λy=>y.1=true->(t.learned.length:Int)<=(l.length:Int)) ?_ λp hp=> ?_
 ·unfold Ji;exact .bind (W5 _ _ (CW u2.2.2)) λ_ _=> .ret trivial
 ·unfold JU;refine .br (λhd=> .bind (W5 l _ (by unfold maxLen;omega)) λy hy=> .ret λe=> ?_) λ_=> .ret nofun;have hd:d.1≥0:=of_decide_eq_true hd;have e:=eq_of_beq e;exact (hy (by omega)).2
 ·have tl:=t2.2.2;rw[CQ];refine .br (λe=> .ret λ_=>⟨vc,ha,hb,s,l,s1,l1,l2,?_⟩) λ_=> .ret λ_=>⟨vc,ha,hb,s,l,s1,l1,l2,?_⟩
  ·have:=hp e;show IntKind.wrap .i64 ((l.length:Int)-(t.learned.length:Int))<=_;rw[uj (by omega) (by omega)];omega
  ·show IntKind.wrap .i64 ((l.length:Int)-0)<=_;rw[uj (by omega) (by omega)];omega
theorem abD(x:oZ)(ok:Dd 1048576 x)(a b n:Int):Tt (λy=>Kp x y.1) (I0 x a b n):=by
 unfold I0;rw[(D4 x ok).1,an];refine .bind (ace x ok a b) λy hy=> .br (λ_=> .ret (.self ok)) λh=> ?_;have h: ¬y.1<0:=of_decide_eq_false h;obtain⟨vc,ha,hb,s,l,s1,l1,l2,le⟩:=hy (by omega);rw[DC,an,CQ];refine .br (λw=> .ip ha.1 ?_) λ_=> .ret (.self ok);have w:=CS.1 w;rw[s1,an,l1,an];dsimp only;have hm: (if n<y.1 then n else y.1)<=y.1/\0<=(if n<y.1 then n else y.1):=by split<;>omega
 generalize (if n<y.1 then n else y.1)=m at hm;rw[uj (n:=(l.length:Int)-y.1) (by omega) (by omega),uj (n:=(l.length:Int)-y.1+m) (by omega) (by omega)]
 have hl: ((l.drop (0+(0:Int).toNat)).take (((l.length:Int)-y.1+m).toNat-(0:Int).toNat)).length<=1048576:=by rw[cH,cf];omega
 refine .ip (by omega) (.ip (by omega) ?_);rw[Qg hl,an];exact .at vc.len hb λu _ hu=> .ret ((Kp.self ok).set (s:=⟨u.up,u.intact,u.version,u.epoch,u.config,u.first,u.log,u.commit,(l.drop (0+(0:Int).toNat)).take (((l.length:Int)-y.1+m).toNat-(0:Int).toNat)⟩) ⟨(ok.1.2 u hu).1,(ok.1.2 u hu).2.1,hl⟩ _)
theorem YH{x y:oZ}{n:Int}{r:Option (oZ×Int×Unit)}(h:r=some (y,n,())/\Dd 1048576 y/\y.servers.length=x.servers.length):Tt (λz=>Kp x z.1) r:=⟨_,h.1,h.2⟩
theorem acq(x:oZ)(ok:Dd 1048576 x)(e:ve):Tt (λy=>Kp x y.1) (Nj x e):=by obtain⟨_,_,c1⟩:=abF x ok e.server;obtain⟨_,_,c2⟩:=Zw x ok e.server;obtain⟨_,_,c3⟩:=acf x ok e.server;obtain⟨_,_,c4⟩:=acg x ok e.server e.n;obtain⟨_,_,c5⟩:=Zn x ok e.n;unfold Nj;refine .br (λ_=> .bind (Zv x ok _ _) λy hy=> .ret hy) λ_=> .br (λ_=> .bind (abv x ok _ _) λn hn=> ?_) λ_=> .br (λ_=> .bind (Pg x ok) λy hy=> .ret hy) λ_=> .br (λ_=> .bind (YH c1) λy hy=> .ret hy) λ_=> .br (λ_=> .bind (YH c2) λy hy=> .ret hy) λ_=> .br (λ_=> .bind (YH c3) λy hy=> .ret hy) λ_=> .br (λ_=> .bind (YH c4) λy hy=> .ret hy) λ_=> .br (λ_=> .bind (YH c5) λy hy=> .ret hy) λ_=> .br (λ_=> .bind (aby x ok _) λy hy=> .ret hy) λ_=> .br (λ_=> .bind (abD x ok _ _ _) λy hy=> .br (λ_=> .ret hy) λ_=> .ret hy) λ_=> .br (λ_=> .bind (ZL x ok _) λy hy=> .ret hy) λ_=> .br (λ_=> .bind (Wd x ok _) λy hy=> .ret hy) λ_=> .br (λ_=> .bind (aau x ok _) λy hy=> .ret hy) λ_=> .bind (aal x ok _ _) λy hy=> .ret hy;rw[CQ];refine .br (λ_=> .bind (Q1 x ok _ hn) λy hy=> .ret hy) λ_=> ?_;rw[(D4 x ok).1];exact .ret (.self ok)
theorem acr(k:Int):Tt T1 (Nk k):=by
 unfold Nk
 repeat first |exact .ret trivial|refine .br (λ_=> ?_) λ_=> ?_
theorem ZM(e:ve):Tt T1 (Ig e):=by
 unfold Ig;simp only[DC,an,N6];refine .br (λ_=> .ret trivial) λ_=> .br (λ_=> .ret trivial) λ_=> .br (λ_=> .ret trivial) λ_=> .br (λ_=> .ret trivial) λ_=> .bind (acr _) λ_ _=> ?_
 repeat first |exact .ret trivial|refine .br (λ_=> ?_) λ_=> ?_
theorem X9(x:oZ)(ok:Dd 1048576 x)(e:ve):Tt (λy=>Kp x y.1) (Md x e):=by unfold Md;rw[(D4 x ok).1];refine .bind (Lt x ok) λ_ _=> .br (λ_=> .ret (Kp.self ok)) λ_=> .bind (ZM e) λ_ _=> .br (λ_=> .ret (Kp.self ok)) λ_=> .br (λ_=> .bind (ZR x ok _ _) λy hy=> .ret hy) λ_=> .br (λ_=> ?_) λ_=> .bind (acq x ok e) λy hy=> .ret hy;exact .bind (Q:=λy=>Kp x y.1) ⟨_,rfl,Kp.self ok⟩ λy hy=> .bind (WA x ok _ _) λ_ _=> .ret hy
theorem WT(x:oZ)(ok:Dd 1048576 x)(l:List ve)(hl:l.length<=1048576):Tt (λy=>Kp x y.1/\y.2.1.length<=l.length) (K2 x l):=by
 have lm:=CW hl;unfold K2;rw[(D4 x ok).1,an];refine .bind (.count (B:=KN) (E:=λe=> ∃ (c:oZ) (r:List vi),Kp x c/\r.length<=l.length/\e=(((),(),(),()),(fz,fc c,()),r,c.servers,c.sides,c.master.configs,c.places,())) l.length (λk (b:oZ×List vi)=>((l,(),(),(),(k:Int),()),(fz,fc b.1,()),b.2,b.1.servers,b.1.sides,b.1.master.configs,b.1.places,())) (λk b=>Kp x b.1/\b.2.length<=k) (λb hb=> .end (Cp _) (.ret ⟨b.1,b.2,hb.1,hb.2,rfl⟩)) (λk b hk hb=> .go (Cm.2 hk) (.br (λ_=> .ip (Ck k) (.get (tn hk) λe _ _=> .bind (X9 b.1 hb.1.1 e) λy hy=> .ip ?_ (.ret ⟨(y.1,b.2++ [y.2.1]),by rw[Ap lm hk],hb.1.trans hy,?_⟩))) λ_=> .ret ⟨b.1,b.2,hb.1,by omega,rfl⟩)) (x,[]) ⟨.self ok,aw _⟩) ?_
 ·show (b.2++ [y.2.1]).length*32<=2 ^ 40;rw[bI,cm];omega
 ·rw[bI,cm];omega
 ·rintro _ ⟨c,r,hc,hr,rfl⟩
  exact .ret ⟨hc,hr⟩
end
section
section
variable [dp]
theorem Tt.dn{α β:Type}{Q:α->Prop}{Q':β->Prop}{r:Option (List o0×α)}{k:List o0×α->Option β}(h:Dn Q r)(hk: ∀c a,D6 c->Q a->Tt Q' (k ([c],a))):Tt Q' (r.bind k):=by obtain⟨c,a,rfl,h1,h2⟩:=h;exact hk c a h1 h2
theorem Dn.tt{α β:Type}{Q:α->Prop}{Q':β->Prop}{r:Option α}{k:α->Option (List o0×β)}(h:Tt Q r)(hk: ∀a,Q a->Dn Q' (k a)):Dn Q' (r.bind k):=by obtain⟨a,rfl,h⟩:=h;exact hk a h
theorem Yq{α:Type}{Q:α->Prop}{r:Option (List o0×α)}(h:Tt (λy=> ∃c,y.1= [c] /\D6 c/\Q y.2) r):Dn Q r:=by obtain⟨⟨_,a⟩,rfl,c,rfl,h1,h2⟩:=h;exact⟨c,a,rfl,h1,h2⟩
theorem ZE{c:o0}(h:D6 c):Dn (λy:List Int×Unit=>Jf y.1) (K7 [c]):=by
 refine Yq ?_;unfold K7;refine .bind (.count (B:=NT) (E:=λe=> ∃c,e.2.2.1= [c] /\D6 c/\Jf e.2.2.2.1) 5 (λk (b:o0×List Int)=>(((),(),(k:Int),()),(),[b.1],b.2,())) (λk b=>D6 b.1/\b.2.length<=k/\SS b.2/\ ∀y∈b.2,0<=y/\y< (k:Int)) (λb hb=> .end (Cp _) (.ret ⟨b.1,rfl,hb.1,NQ hb.2.2.1 hb.2.2.2⟩)) (λk b hk hb=> ?_) (c,[]) ⟨h,aw _,List.Pairwise.nil,nofun⟩) λy hy=> .ret hy;obtain⟨h1,h2,h3,h4⟩:=hb;have sw:=Ap (n:=5) (by decide) hk;have stay: ∀y∈b.2,0<=y/\y< ((k+1:Nat):Int):=λy hy=>by have:=h4 y hy;omega
 refine .go (show (k:Int)<5 by omega) (.dn (HC h1 2) λc1 _ hc _=> .ip rfl (.br (λ_=> .ip (by show (b.2++ [(k:Int)]).length*8<=2 ^ 40;rw[bI,cm];omega) (.ret ⟨(c1,b.2++ [(k:Int)]),by rw[sw],hc,by rw[bI,cm];omega,?_,λy hy=> ?_⟩)) λ_=> .ret ⟨(c1,b.2),by rw[sw],hc,Cx h2,h3,stay⟩))
 ·exact Cy.2 ⟨h3,CG _ _,λy hy z hz=>by rw[aI.1 hz];exact (h4 y hy).2⟩
 ·rcases bz.1 hy with hy|hy
  ·exact stay y hy
  ·rw[aI.1 hy];omega
omit [dp] in
theorem Zs{l:List tc}(h5:l.length=5)(h: ∀p∈l,(0<=p.rack/\p.rack<=9)/\(0<=p.capacity/\p.capacity<=9)/\0<=p.load/\p.load<=99):Dt l=some (true,()):=by
 have lm:l.length<=maxLen:=by unfold maxLen;omega
 have eX:Tt (λy:Bool×Unit=>y.1=true) (Dt l):=by
  unfold Dt;refine .bind (.count (B:=GP) (E:=Sum.elim (λ_=>False) λe=>e.1.1=l) l.length (λk (_:Unit)=>((l,(k:Int),()),(),())) (λ_ _=>True) (λ_ _=> .end (Cp _) (.ret rfl)) (λk _ hk _=> .go (Cm.2 hk) (.ip (Ck k) (.get (tn hk) λp _ hp=> ?_))) () trivial) λy hy=> ?_
  ·obtain⟨h1,_⟩:=h p hp;rw[DC,CS.2 h1,an];refine .br (λh=>by cases h) λ_=> .ip (Ck k) (.get (tn hk) λq _ hq=> ?_);obtain⟨_,h2,_⟩:=h q hq;rw[DC,CS.2 h2,an];refine .br (λh=>by cases h) λ_=> .ip (Ck k) (.get (tn hk) λr _ hr=> ?_);obtain⟨_,_,h3⟩:=h r hr;rw[DC,CS.2 h3,an];exact .br (λh=>by cases h) λ_=> .ret ⟨(),by rw[Ap lm hk],trivial⟩
  ·cases y with
   |inl y=>exact hy.elim
   |inr y=>refine .ret ?_;show ((y.1.1.length:Int)==5)=true;rw[show y.1.1=l from hy,h5];rfl
 obtain⟨⟨b,_⟩,e,rfl⟩:=eX;exact e
theorem Xv{c:o0}(h:D6 c):Dn (λy:List tc×Unit=>y.1.length=5/\Dt y.1=some (true,())) (Kz [c]):=by
 refine Yq ?_;unfold Kz;refine .bind (.count (B:=LD) (E:=λe=> ∃c,e.2.2.1= [c] /\D6 c/\e.2.2.2.1.length=5/\Dt e.2.2.2.1=some (true,())) 5 (λk (b:o0×List tc)=>(((),(),(k:Int),()),(),[b.1],b.2,())) (λk b=>D6 b.1/\b.2.length=k/\ ∀p∈b.2,(0<=p.rack/\p.rack<=9)/\(0<=p.capacity/\p.capacity<=9)/\0<=p.load/\p.load<=99) (λb hb=> .end (Cp _) (.ret ⟨b.1,rfl,hb.1,hb.2.1,Zs hb.2.1 hb.2.2⟩)) (λk b hk hb=> ?_) (c,[]) ⟨h,rfl,nofun⟩) λy hy=> .ret hy;obtain⟨h1,h2,h3⟩:=hb;refine .go (show (k:Int)<5 by omega) (.dn (Jp h1 (n:=4) (by omega)) λc1 x g1 hx=> .ip rfl (.dn (Jp g1 (n:=4) (by omega)) λc2 y g2 hy=> .ip rfl (.dn (Jp g2 (n:=4) (by omega)) λc3 z g3 hz=> .ip rfl (.ip ?_ (.ret ⟨(c3,b.2++ [⟨x.1,1+y.1,z.1⟩]),?_,g3,by rw[bI,cm,h2],λp hp=> ?_⟩)))))
 ·rw[bI,cm,show List.length _=k from h2];omega
 ·dsimp only;rw[Ap (n:=5) (by decide) hk,uj (n:=1+y.1) (by omega) (by omega)]
 ·rcases bz.1 hp with hp|hp
  ·exact h3 p hp
  ·rw[aI.1 hp];show (0<=x.1/\x.1<=9)/\(0<=1+y.1/\1+y.1<=9)/\0<=z.1/\z.1<=99;omega
omit [dp] in
theorem Xt(v:Int):Tt (λy=>Dz 1048576 y.1) (JC v):=by
 unfold JC;rw[DC,an];have ok: ∀v:Int,Dz 1048576 ⟨true,true,v,0,⟨0,0,[],[]⟩,0,[],0,[]⟩:=λ_=>⟨⟨bL _,bL _⟩,bL _,bL _⟩
 exact .br (λ_=> .ret (ok _)) λ_=> .ret (ok _)
omit [dp] in
theorem abQ(l:List tc)(hl:l.length<=1048576):Tt (λy=>Dd 1048576 y.1/\(Dt l=some (true,())->y.1.servers.length=5)) (JT l):=by
 obtain⟨v,v1,_⟩:=Iy l (CW hl);unfold JT;rw[v1,an,CQ];refine .br (λe=> .ip (by decide) (.ip ?_ (.bind (.count (B:=JI) (E:=λe=> ∃S:List o4,S.length=5/\(∀s∈S,Dz 1048576 s)/\e=(((),(),()),(fz,(0,(),(),(),0,3,0,0,0,(),()),()),S,List.replicate (5:Int).toNat (0:Int),[] ++l,())) 5 (λk (S:List o4)=>(((),(),(k:Int),()),(fz,(0,(),(),(),0,3,0,0,0,(),()),()),S,List.replicate (5:Int).toNat (0:Int),[] ++l,())) (λk S=>S.length=k/\ ∀s∈S,Dz 1048576 s) (λS hS=> .end (Cp _) (.ret ⟨S,hS.1,hS.2,rfl⟩)) (λk S hk hS=> .go (show (k:Int)<5 by omega) (.bind (Xt 1) λs hs=> .ip ?_ (.ret ⟨S++ [s.1],by rw[Ap (n:=5) (by decide) hk],by rw[bI,cm,hS.1],λt ht=> ?_⟩))) [] ⟨rfl,nofun⟩) ?_))) λ_=> .ret ⟨⟨⟨bL _,nofun⟩,bL _,⟨bL _,nofun⟩,bL _⟩,λe=>by simp_all⟩
 ·rw[bC];omega
 ·rw[bI,cm,show List.length _=k from hS.1];omega
 ·exact (bz.1 ht).elim (hS.2 t) λe=>by rw[aI.1 e];exact hs
 ·rintro _ ⟨S,h5,hS,rfl⟩
  exact .ret ⟨⟨⟨by show S.length<=_;omega,hS⟩,by show (List.replicate (5:Int).toNat (0:Int)).length<=_;decide,⟨bL _,nofun⟩,hl⟩,λ_=>h5⟩
omit [dp] in
theorem WY{e p:Int}{R W:List Int}(he:1<=e/\e<=20)(hR:Jf R)(hW:Jf W)(hp:p∈R)(hd: ∀y∈R,y∉W):CV ⟨e,p,R,W⟩=some (true,()):=by have hr:=hR.len;have hw:=hW.len;unfold CV;simp only[DC,CS.2 he,an,Bg,(LB hR).1,(LB hW).1,(C9 R p (by unfold maxLen;omega)).1,decide_eq_true hp,Pp R W hR (by unfold maxLen;omega)];rw[List.filter_eq_nil_iff.2 λy hy h=>hd y hy (of_decide_eq_true h)];rfl
theorem abE{c:o0}(h:D6 c)(e:Int):Dn (λy:mD×Unit=>y.1.epoch=e/\y.1.replicas.length<=5/\y.1.witnesses.length<=5/\(1<=e/\e<=20->CV y.1=some (true,()))) (Js [c] e):=by
 unfold Js;refine .bind (Jp h (n:=5) (by omega)) λc1 p h1 hp=> .iteP rfl (.bind (ZE h1) λc2 l h2 hl=> .iteP rfl ?_);obtain⟨r,r1,r2,r3,_⟩:=Zt l.1 p.1 (by have:=hl.len;omega) hl.pair;rw[show G2 _ _=_ from r1,an]
 have eX: ∀R:List Int,Jf R->p.1∈R->Dn (λy:mD×Unit=>y.1.epoch=e/\y.1.replicas.length<=5/\y.1.witnesses.length<=5/\(1<=e/\e<=20->CV y.1=some (true,()))) ((EP [c2] 2).bind λy5=>iteP (y5.1.length=([c2]:List o0).length) (br y5.2.1 ((K7 y5.1).bind λy6=>iteP (y6.1.length=y5.1.length) ((Ec y6.2.1 R).bind λy7=>br (decide ((y7.1.length:Int)>0)) (iteP (0<=(0:Int)/\(0:Int)<=(1:Int)/\(1:Int)<=((y7.1.length:Nat):Int)) (iteP ((0+(0:Int).toNat)=0/\((1:Int).toNat-(0:Int).toNat)<=y7.1.length) (some (y6.1,(⟨e,p.1,R,(y7.1.take ((1:Int).toNat-(0:Int).toNat))⟩:mD),())) (iteP ((0+(0:Int).toNat)+((1:Int).toNat-(0:Int).toNat)<=y7.1.length) (some (y6.1,(⟨e,p.1,R,((y7.1.drop (0+(0:Int).toNat)).take ((1:Int).toNat-(0:Int).toNat))⟩:mD),())) none)) none) (some (y6.1,(⟨e,p.1,R,([]:List Int)⟩:mD),()))) none) (some (y5.1,(⟨e,p.1,R,([]:List Int)⟩:mD),()))) none):=λR hR hpR=>by
  have nil:Jf [] :=λk hk=>by simp at hk
  have rl:=hR.len;refine .bind (HC h2 2) λc3 _ h3 _=> .iteP rfl (.br (λ_=> .bind (ZE h3) λc4 w h4 hw=> .iteP rfl ?_) λ_=> .ret h3 ⟨rfl,rl,bL _,λhe=>WY he hR nil hpR λ_ _=>nofun⟩);rw[show Ec _ _=_ from Pe w.1 R hw (by unfold maxLen;omega),an];have hf:=hw.filter λx=> !decide (x∈R)
  have hn: ∀y∈R,y∉w.1.filter λx=> !decide (x∈R):=λy hy h=>by have:=(CI.1 h).2;simp[hy] at this
  have fl:=hf.len;generalize w.1.filter (λx=> !decide (x∈R))=f at hf hn fl;refine .br (λhpos=> ?_) λ_=> .ret h4 ⟨rfl,rl,bL _,λhe=>WY he hR nil hpR λ_ _=>nofun⟩;have hpos: (f.length:Int)>0:=of_decide_eq_true hpos;refine .iteP (by show (0:Int)<=0/\(0:Int)<=1/\(1:Int)<=(f.length:Int);omega) (.iteP (by show 0=0/\1<=f.length;omega) (.ret h4 ⟨rfl,rl,?_,λhe=>WY he hR ?_ hpR λy hy h=>hn y hy (bP h)⟩))
  ·show (f.take _).length<=5;rw[cH];omega
  ·exact NQ (hf.pair.sublist (List.take_sublist _ _)) λy hy=>KJ hf y (bP hy)
 have ra:Jf r:=NQ r2 λy hy=>((r3 y).1 hy).elim (λe=>by rw[e];exact hp) (KJ hl y);refine .br (λ_=>eX [p.1] (NQ (CG _ _) λy hy=>by rw[aI.1 hy];exact hp) (aI.2 rfl)) λ_=>eX r ra ((r3 _).2 (.inl rfl))
omit [dp] in
theorem abO{M:jw}(h:KI 1048576 M)(hl:M.configs.length<=1000){c:mD}(hc:D5 1048576 c):KI 1048576 ⟨M.configs++ [c],M.activated⟩:=⟨by show (M.configs++ [c]).length<=_;rw[bI,cm];omega,λd hd=>(bz.1 hd).elim (h.2 d) λe=>by rw[aI.1 e];exact hc⟩
theorem ab5{c:o0}(h:D6 c):Dn (λy:List Int×Unit=>y.1.length<=6) (Pi [c]):=by
 unfold Pi;refine .bind (ZE h) λc1 l h1 hl=> .iteP rfl (.bind (HC h1 _) λc2 _ h2 _=> .iteP rfl (.br (λ_=> .bind (FH h2 (by simp)) λc3 x h3 _=> .iteP rfl ?_) λ_=> .ret h2 ?_))
 ·have:=hl.len;refine .iteP ?_ (.ret h3 ?_)
  ·show (l.1++ [x.1]).length*8<=2 ^ 40;rw[bI,cm];omega
  ·show (l.1++ [x.1]).length<=6;rw[bI,cm];omega
 ·exact aU hl.len (by omega)
theorem Yj{c:o0}(h:D6 c):Dn (λy:mD×Unit=>D5 1048576 y.1) (Pk [c]):=by
 unfold Pk;refine .bind (EE h _) λc1 e h1 _=> .iteP rfl (.bind (abE h1 _) λc2 g h2 hg=> .iteP rfl (.bind (EE h2 _) λc3 x h3 _=> .iteP rfl ?_));obtain⟨_,g1,g2,_⟩:=hg;have ok:D5 1048576 g.1:=⟨by omega,by omega⟩
 refine .br (λ_=> .bind (FH h3 (by simp)) λc4 _ h4 _=> .iteP rfl (.ret h4 ok)) λ_=> .br (λ_=> .bind (EE h3 _) λc4 _ h4 _=> .iteP rfl (.ret h4 ok)) λ_=> .br (λ_=> .bind (ab5 h3) λc4 l h4 hl=> .iteP rfl (.ret h4 ⟨by show l.1.length<=_;omega,ok.2⟩)) λ_=> .br (λ_=> .bind (ab5 h3) λc4 l h4 hl=> .iteP rfl (.ret h4 ⟨ok.1,by show l.1.length<=_;omega⟩)) λ_=> .ret h3 ok
theorem acD{c:o0}(h:D6 c):Dn (λy:jw×Unit=>KI 1048576 y.1/\y.1.configs.length<=10) (Ow [c]):=by
 unfold Ow;refine .bind (Jp h (n:=5) (by omega)) λc1 n h1 hn=> .iteP rfl (Yq (.bind (.loop (B:=NR) (E:=λe=> ∃c,e.2.2.1= [c] /\D6 c/\KI 1048576 ⟨e.2.2.2.1,e.2.1.2.1.2.1⟩/\e.2.2.2.1.length<=10) (λs=> ∃ (c:o0) (M:jw) (k:Int),s=(((),(),(),k,()),(((),0,()),((),M.activated,()),()),[c],M.configs,())/\D6 c/\KI 1048576 M/\0<=k/\M.configs.length+k.toNat<=10) (λs=>s.1.2.2.2.1.toNat) ?_ ⟨c1,⟨[],0⟩,n.1,rfl,h1,⟨bL _,nofun⟩,hn.1,by show 0+n.1.toNat<=10;omega⟩) λy hy=> .ret hy))
 rintro _ ⟨c,M,k,rfl,hc,hM,h0,hl⟩
 refine .br (λhk=> ?_) λ_=> .ret ⟨c,rfl,hc,hM,by show M.configs.length<=10;omega⟩;have hk:k>0:=of_decide_eq_true hk;have hw:IntKind.wrap .i64 (k-1)=k-1:=uj (by omega) (by omega);refine .dn (abE hc _) λc2 g h2 hg=> .ip rfl (.bind (Rz M hM g.1 ⟨by omega,by omega⟩) λm hm=> .dn (HC h2 _) λc3 _ h3 _=> .ip rfl (.br (λ_=> .bind (R9 m.1 hm.1 _) λa ha=> .ret ⟨⟨c3,a.1,k-1,by dsimp only;rw[hw],h3,ha.1,by omega,by omega⟩,?_⟩) λ_=> .ret ⟨⟨c3,m.1,k-1,by dsimp only;rw[hw],h3,hm.1,by omega,by omega⟩,?_⟩))
 all_goals
  show (IntKind.wrap .i64 (k-1)).toNat<k.toNat;rw[hw];omega
theorem acw{c:o0}(h:D6 c):Dn (λy:jw×Unit=>KI 1048576 y.1) (Ov [c]):=by unfold Ov;refine .bind (acD h) λc1 m h1 hm=> .iteP rfl (.bind (EE h1 _) λc2 _ h2 _=> .iteP rfl (.br (λ_=> .bind (FH h2 (by simp)) λc3 _ h3 _=> .iteP rfl (.ret h3 hm.1)) λ_=> .br (λ_=> .bind (Yj h2) λc3 g h3 hg=> .iteP rfl (.iteP ?_ (.ret h3 (abO hm.1 (by omega) hg)))) λ_=> .ret h2 hm.1));show (m.1.configs++ [g.1]).length*64<=2 ^ 40;rw[bI,cm];omega
omit [dp] in
theorem Zo(c:mD)(h:D5 maxLen c)(hv:CV c=some (true,())):Tt (λy=>0<y.1.length/\y.1.length<=10) (DN c):=by unfold DN;rw[hv,an];refine .br (λh=>by cases h) λ_=> ?_;obtain⟨a1,a2,a3,_⟩:=Gh h hv;have l1:=a1.len;have l2:=a2.len;obtain⟨r,r1,_,r4,r5⟩:=WU c.replicas c.witnesses (by omega) (by omega);rw[r1];exact .ret ⟨List.length_pos_of_mem ((r4 c.primary).2 (.inl a3)),by show r.length<=10;omega⟩
omit [dp] in
theorem acA(l:List pZ)(e:Int)(hl:l.length<=1048576):Tt (λy=>y.1.length<=1048576) (Oz l e):=by
 unfold Oz;refine .bind (.count (B:=NS) (E:=λy=> ∃k:Nat,k<=l.length/\y=((l,(k:Int),()),(),())) l.length (λk (_:Unit)=>((l,e,(k:Int),()),(),())) (λ_ _=>True) (λ_ _=> .end (Cp _) (.ret ⟨l.length,aw _,rfl⟩)) (λk _ hk _=> .go (Cm.2 hk) (.ip (Ck k) (.get (tn hk) λ_ _ _=> .br (λ_=> .ret ⟨(),by rw[Ap (CW hl) hk],trivial⟩) λ_=> .ret ⟨k,Nat.le_of_lt hk,rfl⟩))) () trivial) ?_
 rintro _ ⟨k,hk,rfl⟩
 have h2: ((l.drop (0:Int).toNat).take ((k:Int).toNat-(0:Int).toNat)).length<=1048576:=by rw[cH,cf];omega
 exact .ip ⟨cJ _,Ck k,Int.ofNat_le.2 hk⟩ (.bind (Q:=λy=>y.1.length<=1048576) ⟨_,Qg h2,h2⟩ λy hy=> .ret hy)
theorem aan{c:o0}(h:D6 c):Dn (λy:o4×Int×Unit=>Dz 1048576 y.1) (K5 [c]):=by
 unfold K5;refine .bind (EE h _) λc1 _ h1 _=> .iteP rfl (.tt (Xt _) λs hs=> .bind (Jp h1 (n:=3) (by omega)) λc2 e h2 he=> .iteP rfl (.bind (abE h2 _) λc3 g h3 hg=> .iteP rfl ?_));have hw:IntKind.wrap .i64 (1+e.1)=1+e.1:=uj (by omega) (by omega);obtain⟨g0,g1,g2,g3⟩:=hg;have g3:=g3 (by rw[hw];omega);have okc:D5 1048576 g.1:=⟨by omega,by omega⟩
 refine .tt (Zo g.1 (C5 okc) g3) λm hm=> .bind (Jp h3 (n:=(m.1.length:Int)) (by omega)) λc4 i h4 hi=> .iteP rfl (.iteP hi (.get (by show i.1.toNat<m.1.length;omega) λz _=> .bind (HC h4 _) λc5 _ h5 _=> .iteP rfl ?_))
 have fin: ∀ (c6:o0) (t:o4),D6 c6->Dz 1048576 t-> ∀up:Bool,Dn (λy:o4×Int×Unit=>Dz 1048576 y.1) ((EP [c6] 4).bind λy46=>iteP (y46.1.length=([c6]:List o0).length) (br y46.2.1 ((CT y46.1 3).bind λy47=>iteP (y47.1.length=y46.1.length) ((FE (⟨up,t.intact,t.version,t.epoch,t.config,t.first,t.log,t.commit,t.learned⟩:o4) (IntKind.wrap .i64 (4+y47.2.1))).bind λy48=>some (y47.1,y48.1,z,())) none) (some (y46.1,(⟨up,t.intact,t.version,t.epoch,t.config,t.first,t.log,t.commit,t.learned⟩:o4),z,()))) none):=λc6 t h6 ht up=>.bind (HC h6 _) λc7 _ h7 _=> .iteP rfl (.br (λ_=> .bind (EE h7 _) λc8 _ h8 _=> .iteP rfl (.tt (V4 ⟨up,t.intact,t.version,t.epoch,t.config,t.first,t.log,t.commit,t.learned⟩ _ ht) λu hu=> .ret h8 hu)) λ_=> .ret h7 ht)
 rw[CQ];refine .br (λ_=> .bind (HC h5 _) λc6 _ h6 _=> .iteP rfl (.br (λ_=>fin c6 s.1 h6 hs _) λ_=>fin c6 s.1 h6 hs _)) λ_=> .bind (YS h5) λc6 l h6 hl=> .iteP rfl (.tt (acA l.1 _ (by omega)) λl2 hl2=> .tt (Vl s.1 g.1 z l2.1 hs okc hl2) λt ht=> .bind (HC h6 _) λc7 _ h7 _=> .iteP rfl (.br (λ_=>fin c7 t.1 h7 ht _) λ_=>fin c7 t.1 h7 ht _))
theorem Ya{c:o0}(h:D6 c):Dn (λy:o4×Int×Unit=>Dz 1048576 y.1) (Oy [c]):=by unfold Oy;refine .bind (aan h) λc1 s h1 hs=> .iteP rfl (.bind (EE h1 _) λc2 _ h2 _=> .iteP rfl ?_);refine .br (λ_=> .bind (FH h2 (by simp)) λc3 _ h3 _=> .iteP rfl (.ret h3 hs)) λ_=> .br (λ_=> .bind (FH h2 (by simp)) λc3 _ h3 _=> .iteP rfl (.ret h3 hs)) λ_=> .br (λ_=> .bind (Yj h2) λc3 g h3 hg=> .iteP rfl (.ret h3 ⟨hg,hs.2⟩)) λ_=> .br (λ_=> .bind (FH h2 (by simp)) λc3 _ h3 _=> .iteP rfl (.ret h3 hs)) λ_=> .br (λ_=> .bind (FH h2 (by simp)) λc3 _ h3 _=> .iteP rfl (.ret h3 hs)) λ_=> .br (λ_=> .bind (EE h2 _) λc3 _ h3 _=> .iteP rfl (.ret h3 hs)) λ_=> .br (λ_=> .bind (XV h2) λc3 l h3 hl=> .iteP rfl (.ret h3 ⟨hs.1,by show l.1.length<=_;omega,hs.2.2⟩)) λ_=> .ret h2 hs
theorem ZC{c:o0}(h:D6 c):Dn (λy:List Int×Unit=>y.1.length<=5) (OA [c]):=by
 unfold OA;refine .bind (ZD h) λc1 l h1 hl=> .iteP rfl (.bind (EE h1 _) λc2 _ h2 _=> .iteP rfl (.br (λ_=> ?_) λ_=> .br (λ_=> .bind (FH h2 (by simp)) λc3 x h3 _=> .iteP rfl (.iteP ?_ (.get ?_ λ_ _=> .ret h3 ?_))) λ_=> .ret h2 (Nat.le_of_eq hl)))
 ·have hl:l.1.length=5:=hl;refine .iteP (by show (0:Int)<=1/\(1:Int)<=(l.1.length:Int)/\(l.1.length:Int)<=(l.1.length:Int);omega) ?_;rw[AJ,if_neg (by intro h;exact absurd h.1 (by decide))];refine .iteP (by show 0+(1:Int).toNat+((l.1.length:Int).toNat-(1:Int).toNat)<=l.1.length;omega) (.ret h2 ?_);show ((l.1.drop (0+(1:Int).toNat)).take ((l.1.length:Int).toNat-(1:Int).toNat)).length<=5;rw[cH,cf];omega
 ·have hl:l.1.length=5:=hl;show (0:Int)<=1/\(1:Int)< (l.1.length:Int);omega
 ·have hl:l.1.length=5:=hl;show (1:Int).toNat<l.1.length;omega
 ·show (l.1.set _ _).length<=5;rw[Cu];exact Nat.le_of_eq hl
theorem X3{c:o0}(h:D6 c):Dn (λy:List tc×Unit=>y.1.length<=5) (Qn [c]):=by
 unfold Qn;refine .bind (Xv h) λc1 l h1 hl=> .iteP rfl (.bind (EE h1 _) λc2 _ h2 _=> .iteP rfl ?_);have hl:l.1.length=5:=hl.1;refine .br (λ_=> ?_) λ_=> .br (λ_=> .bind (FH h2 (by simp)) λc3 x h3 _=> .iteP rfl (.iteP (by show (0:Int)<=0/\(0:Int)< (l.1.length:Int);omega) (.get (by show (0:Int).toNat<l.1.length;omega) λ_ _=> .ret h3 ?_))) λ_=> .br (λ_=> .bind (FH h2 (by simp)) λc3 x h3 _=> .iteP rfl (.iteP (by show (0:Int)<=1/\(1:Int)< (l.1.length:Int);omega) (.get (by show (1:Int).toNat<l.1.length;omega) λ_ _=> .ret h3 ?_))) λ_=> .ret h2 (Nat.le_of_eq hl)
 ·refine .iteP (by show (0:Int)<=1/\(1:Int)<=(l.1.length:Int)/\(l.1.length:Int)<=(l.1.length:Int);omega) ?_;rw[AJ,if_neg (by intro h;exact absurd h.1 (by decide))];refine .iteP (by show 0+(1:Int).toNat+((l.1.length:Int).toNat-(1:Int).toNat)<=l.1.length;omega) (.ret h2 ?_);show ((l.1.drop (0+(1:Int).toNat)).take ((l.1.length:Int).toNat-(1:Int).toNat)).length<=5;rw[cH,cf];omega
 ·show (l.1.set _ _).length<=5;rw[Cu];omega
 ·show (l.1.set _ _).length<=5;rw[Cu];omega
theorem Yl{c:o0}(h:D6 c):Dn (λy:oZ×Unit=>Dd 1048576 y.1/\y.1.servers.length=5) (JX [c]):=by unfold JX;refine .bind (Xv h) λc1 l h1 hl=> .iteP rfl (.tt (abQ l.1 (by have:=hl.1;omega)) λx hx=> .bind (XG h1 (by omega) (by omega)) λc2 e h2 he=> .iteP rfl (.tt (WT x.1 hx.1 e.1 (by omega)) λy hy=> .ret h2 ⟨hy.1.1,hy.1.2.trans (hx.2 hl.2)⟩))
theorem Sd{c:o0}(h:D6 c):Dn (λy:oZ×Unit=>Dd 1048576 y.1/\y.1.servers.length=5) (Nh [c]):=by unfold Nh;refine .bind (Yl h) λc1 x h1 hx=> .iteP rfl (.bind (EE h1 _) λc2 _ h2 _=> .iteP rfl ?_);obtain⟨⟨x1,x2,x3,x4⟩,x5⟩:=hx;refine .br (λ_=> .bind (FH h2 (by simp)) λc3 _ h3 _=> .iteP rfl (.ret h3 ⟨⟨x1,x2,x3,x4⟩,x5⟩)) λ_=> .br (λ_=> .bind (ZC h2) λc3 l h3 hl=> .iteP rfl (.ret h3 ⟨⟨x1,by show l.1.length<=_;omega,x3,x4⟩,x5⟩)) λ_=> .br (λ_=> .bind (acw h2) λc3 m h3 hm=> .iteP rfl (.ret h3 ⟨⟨x1,x2,hm,x4⟩,x5⟩)) λ_=> .br (λ_=> .bind (FH h2 (by simp)) λc3 _ h3 _=> .iteP rfl (.ret h3 ⟨⟨x1,x2,x3,x4⟩,x5⟩)) λ_=> .br (λ_=> .bind (YR h2) λc3 _ h3 _=> .iteP rfl (.ret h3 ⟨⟨x1,x2,x3,x4⟩,x5⟩)) λ_=> .br (λ_=> .bind (X3 h2) λc3 l h3 hl=> .iteP rfl (.ret h3 ⟨⟨x1,x2,x3,by show l.1.length<=_;omega⟩,x5⟩)) λ_=> .br (λ_=> .bind (Ya h2) λc3 s h3 hs=> .iteP rfl (.bind (Jp h3 (n:=5) (by omega)) λc4 i h4 hi=> .iteP rfl (.iteP (by show 0<=i.1/\i.1< (x.1.servers.length:Int);rw[x5];exact hi) (.get (by show i.1.toNat<x.1.servers.length;omega) λ_ _=> .ret h4 ⟨⟨P2 x1 hs _,x2,x3,x4⟩,by show (x.1.servers.set _ _).length=5;rw[Cu];exact x5⟩)))) λ_=> .ret h2 ⟨⟨x1,x2,x3,x4⟩,x5⟩
omit [dp] in
end
end
section
theorem Tt.tru{r:Option (Bool×Unit)}(h:Tt (λy=>y.1=true) r):r=some (true,()):=by obtain⟨⟨b,_⟩,e,rfl⟩:=h;exact e
theorem Tt.is{α:Type}{Q:α->Prop}{r:Option α}{a:α}(h:Tt Q r)(e:r=some a):Q a:=by obtain⟨b,h1,h2⟩:=h;rw[e] at h1;cases h1;exact h2
theorem abG(l:List Int)(hl:l.length<=maxLen):HB l l=some (true,()):=by
 refine Tt.tru ?_;unfold HB;rw[CQ,beq_self_eq_true];refine .br (λ_=> .bind (.count (B:=Gg) (E:=Sum.elim (λ_=>False) λ_=>True) l.length (λk (_:Unit)=>((l,l,(l.length:Int),(k:Int),()),(),())) (λ_ _=>True) (λ_ _=> .end (Cp _) (.ret trivial)) (λk _ hk _=> .go (Cm.2 hk) (.ip (Ck k) (.get (tn hk) λx e _=> .ip (Ck k) (.get (tn hk) λy e2 _=> ?_)))) () trivial) λy hy=> ?_) (λh=>by cases h)
 ·obtain rfl:x=y:=Option.some.inj ((show l[k]? =some x from e).symm.trans (show l[k]? =some y from e2));rw[beq_self_eq_true];exact .br (λh=>by cases h) λ_=> .ret ⟨(),by rw[Ap hl hk],trivial⟩
 ·cases y with
  |inl y=>exact hy.elim
  |inr y=>exact .ret rfl
theorem Yt(l:List tc)(hl:l.length<=maxLen):Il l l=some (true,()):=by
 refine Tt.tru ?_;unfold Il;rw[CQ,beq_self_eq_true];refine .br (λ_=> .bind (.count (B:=IE) (E:=Sum.elim (λ_=>False) λ_=>True) l.length (λk (_:Unit)=>((l,l,(l.length:Int),(k:Int),()),(),())) (λ_ _=>True) (λ_ _=> .end (Cp _) (.ret trivial)) (λk _ hk _=> .go (Cm.2 hk) (.ip (Ck k) (.get (tn hk) λx e _=> .ip (Ck k) (.get (tn hk) λy e2 _=> ?_)))) () trivial) λy hy=> ?_) (λh=>by cases h)
 ·obtain rfl:x=y:=Option.some.inj ((show l[k]? =some x from e).symm.trans (show l[k]? =some y from e2));simp only[beq_self_eq_true,Bool.and_self];exact .br (λh=>by cases h) λ_=> .ret ⟨(),by rw[Ap hl hk],trivial⟩
 ·cases y with
  |inl y=>exact hy.elim
  |inr y=>exact .ret rfl
theorem ab9(s:o4)(h:Dz 1048576 s):FY s s=some (true,()):=by unfold FY;simp only[beq_self_eq_true,Bg,(Ew s.config s.config (C5 h.1)).2,Wf s.log s.log (CW h.2.1),Wf s.learned s.learned (CW h.2.2),decide_true,an]
theorem acC(m:jw)(h:KI 1048576 m):GF m m=some (true,()):=by
 have hl:=CW h.1;refine Tt.tru ?_;unfold GF Ea;rw[beq_self_eq_true,CQ,beq_self_eq_true];refine .br (λ_=> .bind (Q:=λy=>y.1=true) (.br (λ_=> .bind (.count (B:=DX) (E:=Sum.elim (λ_=>False) λ_=>True) m.configs.length (λk (_:Unit)=>((m.configs,(),m.configs,(m.configs.length:Int),(k:Int),()),(),())) (λ_ _=>True) (λ_ _=> .end (Cp _) (.ret trivial)) (λk _ hk _=> .go (Cm.2 hk) (.ip (Ck k) (.get (tn hk) λx e hx=> .ip (Ck k) (.get (tn hk) λy e2 _=> ?_)))) () trivial) λy hy=> ?_) (λh=>by cases h)) λy hy=> .ret hy) (λh=>by cases h)
 ·obtain rfl:x=y:=Option.some.inj ((show m.configs[k]? =some x from e).symm.trans (show m.configs[k]? =some y from e2));rw[(Ew x x (C5 (h.2 x hx))).2,decide_eq_true rfl,an];exact .br (λh=>by cases h) λ_=> .ret ⟨(),by rw[Ap hl hk],trivial⟩
 ·cases y with
  |inl y=>exact hy.elim
  |inr y=>exact .ret rfl
theorem acB(x:oZ)(ok:Dd 1048576 x):HE x x=some (true,()):=by
 have hl:=CW ok.1.1;refine Tt.tru ?_;unfold HE DR;simp only[beq_self_eq_true,Bool.and_self,Bg,abG x.sides (CW ok.2.1),acC x.master ok.2.2.1,Yt x.places (CW ok.2.2.2),an];rw[CQ];refine .bind (Q:=λy=>y.1=true) (.br (λ_=> .bind (.count (B:=DH) (E:=Sum.elim (λ_=>False) λ_=>True) x.servers.length (λk (_:Unit)=>((x.servers,(),x.servers,(x.servers.length:Int),(k:Int),()),(),())) (λ_ _=>True) (λ_ _=> .end (Cp _) (.ret trivial)) (λk _ hk _=> .go (Cm.2 hk) (.ip (Ck k) (.get (tn hk) λs e hs=> .ip (Ck k) (.get (tn hk) λt e2 _=> ?_)))) () trivial) λy hy=> ?_) (λh=>by cases h)) λy hy=> .br (λ_=> .ret rfl) λh=>by rw[h] at hy;cases hy
 ·obtain rfl:s=t:=Option.some.inj ((show x.servers[k]? =some s from e).symm.trans (show x.servers[k]? =some t from e2));rw[ab9 s (ok.1.2 s hs),an];exact .br (λh=>by cases h) λ_=> .ret ⟨(),by rw[Ap hl hk],trivial⟩
 ·cases y with
  |inl y=>exact hy.elim
  |inr y=>exact .ret rfl
end
section

end
section
theorem abB(x:oZ)(ok:Dd 1048576 x)(hv:CP x=some (true,())){id:Int}{S:List Int}(hS:EX x id=some (S,()))(h5:S.length<=5)(hr: ∀z∈S,0<=z/\z<5):Tt (λy=>(S= [] ->y.1= -1)/\(S≠ [] ->y.1∈S)) (EW x id):=by
 have vc:=Dl ok hv;have lm:S.length<=maxLen:=by unfold maxLen;omega
 unfold EW;rw[hS,an];refine .bind (.count (B:=E8) (E:=λe=>(S= [] ->e.1.1= -1)/\(S≠ [] ->e.1.1∈S)) S.length (λk (b:Int)=>(((),b,(),(k:Int),()),(fx x,()),(S,()))) (λk b=>(k=0/\b= -1)\/(0<k/\b∈S)) (λb hb=> .end (Cp _) (.ret ⟨λh=> ?_,λh=> ?_⟩)) (λk b hk hb=> ?_) (-1) (.inl ⟨rfl,rfl⟩)) λe h=> .ret h
 ·rcases hb with hb|hb
  ·exact hb.2
  ·rw[h] at hb;exact absurd hb.1 (dg _)
 ·rcases hb with hb|hb
  ·exact absurd (aY hb.1) h
  ·exact hb.2
 ·have c1: (k:Int)< (S.length:Int):=by omega
  have c2: (0:Int)<=(k:Int)/\(k:Int)< (S.length:Int):=by omega
  have hm:=Cn hk;have hz:=hr _ hm;have hg:S[k]? =some S[k] :=ao hk;generalize S[k] =z at hz hg hm;obtain⟨s,s1,s2,_⟩:=Hq ok vc hz;simp only[E8,fx,BB,AJ,if_pos c1,if_pos c2,Cj,hg,an,if_pos hz.1,s1,Ap lm hk];have new: ∃b',(((),z,(),((k+1:Nat):Int),()),(fx x,()),S,())=(((),b',(),((k+1:Nat):Int),()),(fx x,()),S,())/\((k+1=0/\b'= -1)\/(0<k+1/\b'∈S)):=⟨z,rfl,.inr ⟨Nat.succ_pos k,hm⟩⟩
  rcases hb with ⟨_,rfl⟩| ⟨_,hb⟩
  ·exact .ret new
  ·have hb2:=hr _ hb;obtain⟨t,t1,_⟩:=Hq ok vc hb2;simp only[if_neg (show ¬b<0 by omega),if_pos hb2.1,t1,an];split
   ·exact .ret new
   ·exact .ret ⟨b,rfl,.inr ⟨Nat.succ_pos k,hb⟩⟩
theorem SM(x:oZ)(ok:Dd 1048576 x): ∃c d,C1 x.master=some (c,d,())/\Dr x.master=some (c,d,())/\D5 maxLen c:=by obtain⟨c,d,d1,d2,d3⟩:=KX x.master x.master.activated ok.2.2.1;unfold C1 Dr;rw[d1,d2];exact⟨c,d,rfl,rfl,d3⟩
theorem acG(x:oZ)(ok:Dd 1048576 x)(id:Int)(h24:GA x id=some (false,()))(hh:Dk x id=some (false,())):
  EX x id=some ([],())/\FZ x id=some ([],())/\Ez x id=some ([],false,())/\GH x id=some ([],false,())/\EI x id=some ([],false,())/\Ho x id=some ([],false,())/\EW x id=some (-1,())/\GD x id=some (-1,()):=by
 obtain⟨v,v1,v2⟩:=Dg x ok;obtain⟨c,d,d1,d2,_⟩:=SM x ok
 have hw:v=false\/Ff id 0 4=false:=by
  unfold GA at h24;simp only[v1,DC,an] at h24;cases v with
  |false=>exact .inl rfl
  |true=>simp only[Bg,ae,ap,and_true] at h24;exact .inr h24
 have a1:EX x id=some ([],()):=by
  unfold EX;rw[d1,an]
  rw[show J7 ((id,(),(),(),d,0,()),(fx x,(c.epoch,c.primary,(),(),()),()),([],c.replicas,c.witnesses,()))=some (((),()),(),([],())) from kT (by
   simp only[E9,fx,BB,show (⟨x.now,x.servers,x.sides,(⟨x.master.configs,x.master.activated⟩:jw),x.masterUp,(⟨x.lease.epoch,x.lease.holder,x.lease.ends⟩:s7),x.places⟩:oZ)=x from rfl,v1,DC,an];split
   ·cases d with
    |false=>rfl
    |true=>
     rcases hw with rfl|hw
     ·rfl
     ·rw[hw];cases v<;>rfl
   ·rfl)]
  rfl
 have a3:Ez x id=some ([],false,()):=by
  unfold Ez;rw[d1,an]
  rw[show J8 ((id,(),(),false,(),d,0,()),(fx x,(c.epoch,c.primary,(),(),()),()),([],c.replicas,c.witnesses,()))=some (((),false,()),(),([],())) from kT (by
   simp only[Ep,fx,BB,show (⟨x.now,x.servers,x.sides,(⟨x.master.configs,x.master.activated⟩:jw),x.masterUp,(⟨x.lease.epoch,x.lease.holder,x.lease.ends⟩:s7),x.places⟩:oZ)=x from rfl,v1,DC,an];split
   ·cases d with
    |false=>rfl
    |true=>
     rcases hw with rfl|hw
     ·rfl
     ·rw[hw];cases v<;>rfl
   ·rfl)]
  rfl
 have a2:FZ x id=some ([],()):=by unfold FZ;rw[d2,an,hh,an];cases d<;>rfl
 refine⟨a1,a2,a3,?_,?_,?_,?_,?_⟩
 ·unfold GH;rw[d2,an,hh,an];cases d<;>rfl
 ·unfold EI;rw[v1,DC,an,an];rcases hw with rfl|hw
  ·rfl
  ·rw[hw];cases v<;>rfl
 ·unfold Ho;rw[hh];rfl
 ·unfold EW;rw[a1,an,show Ml (((),-1,(),0,()),(fx x,()),([],()))=some ((-1,()),(),()) from kT rfl];rfl
 ·unfold GD;rw[a2,an,show Mj (((),-1,(),(([]:List Int).length:Int),0,()),(fx x,()),([],()))=some ((-1,()),(),()) from kT rfl];rfl
theorem V7(x:oZ)(ok:Dd 1048576 x)(id:Int): ∃S n l b w f,EX x id=some (S,())/\FZ x id=some (S,())/\EW x id=some (n,())/\GD x id=some (n,())/\EI x id=some (l,b,())/\Ho x id=some (l,b,())/\Ez x id=some (w,f,())/\GH x id=some (w,f,())/\
  S.length<=5/\l.length<=1048576/\w.length<=1048576/\(S≠ [] ->b=true/\n∈S)/\(b=false->S= [] /\f=false):=by
 obtain⟨g,g1,g2,g3⟩:=Sg x id ok;cases g with
 |false=>obtain⟨a1,a2,a3,a4,a5,a6,a7,a8⟩:=acG x ok id g1 g2;exact⟨[],-1,[],false,[],false,a1,a2,a7,a8,a5,a6,a3,a4,bL _,bL _,bL _,λh=>absurd rfl h,λ_=>⟨rfl,rfl⟩⟩
 |true=>
  obtain⟨hv,hid⟩:=g3 rfl;obtain⟨S,s1,s2,s3,s4⟩:=Tp ok ok hv hv (.refl x) hid;obtain⟨n,n1,n2,n3⟩:=Sb ok ok hv hv (.refl x) hid;obtain⟨l,b,l1,l2,l3⟩:=Uu ok ok hv hv (.refl x) hid;obtain⟨w,f,w1,w2,w3⟩:=Ts ok ok hv hv (.refl x) hid;have hn:=(abB x ok hv s1 s3 s4).is n1
  have hb: (S≠ [] ->b=true)/\(b=false->f=false):=by
   unfold EI at l1;simp only[hv,DC,CS.2 (show 0<=id/\id<=4 by omega),n1,w1,an,CQ,Bg] at l1;cases h:x.master.activated==0 with
   |true=>rw[h] at l1;simp only[Bg,ae,ap] at l1;rw[<-l1.2.1];exact⟨λ_=>rfl,nofun⟩
   |false=>
    rw[h] at l1;simp only[Ar,BB] at l1;by_cases hn0:n≥0
    ·obtain⟨t,t1,t2,_⟩:=Hq ok (Dl ok hv) (by omega:0<=n/\n<5);rw[if_pos hn0,AJ,if_pos hn0,t1,an,(H2 _ t2.2.1).1,an] at l1;simp only[ae,ap] at l1;rw[<-l1.2.1];exact⟨λ_=>rfl,nofun⟩
    ·rw[if_neg hn0] at l1;simp only[ae,ap] at l1;refine⟨λh=> ?_,λh=>l1.2.1.trans h⟩;exact absurd (s4 _ (hn.2 h)).1 hn0
  refine⟨S,n,l,b,w,f,s1,s2,n1,n2,l1,l2,w1,w2,s3,l3,by omega,λh=>⟨hb.1 h,hn.2 h⟩,λh=>⟨?_,hb.2 h⟩⟩;exact Classical.byContradiction λh2=>by rw[hb.1 h2] at h;cases h
end
section
theorem aap(x:oZ)(ok:Dd 1048576 x){a b:Int}(ha: ¬ (0<=a/\a<5)):EG x.sides a b=some (false,())/\GR x.sides a b=some (false,()):=by
 obtain⟨v,s1,s2⟩:=L3 x.sides (CW ok.2.1)
 have wa:Ff a 0 4=false:=by
  cases h:Ff a 0 4 with
  |false=>rfl
  |true=>exact absurd (by have:=CS.1 h;omega) ha
 unfold EG GR;rw[s1,s2];simp only[DC,Hk,wa,an];cases v<;>exact⟨rfl,rfl⟩
theorem aam(x:oZ)(ok:Dd 1048576 x){id:Int}(e:Int)(hid: ¬ (0<=id/\id<5)):Eu x id e=some (x,())/\FA x id e=some (x,()):=by
 obtain⟨v,v1,v2⟩:=Dg x ok;obtain⟨c,d,d1,d2,d3⟩:=SM x ok;obtain⟨m,m1,m2,m3,m4,m5,_⟩:=LZ c d3;have mm:m.length<=maxLen:=by unfold maxLen;omega
 unfold Eu FA;simp only[(D4 x ok).1,(D4 x ok).2,d1,d2,v1,v2,DC,Hk,an,CQ];cases v with
 |false=>exact⟨rfl,rfl⟩
 |true=>
 have vc:=Dl ok v1;cases d with
 |false=>exact⟨rfl,rfl⟩
 |true=>
 cases Ff e 1 (x.master.configs.length:Int) with
 |false=>exact⟨rfl,rfl⟩
 |true=>
  obtain⟨_,_,k1,k2⟩:=LN (B1:=Et) (B2:=ES) m.length
   (λk (_:Unit)=>((id,e,(),(),(),(),(k:Int),()),(fx x,fz,fc x,()),(m,x.servers,x.sides,x.master.configs,x.places,())))
   (λk (_:Unit)=>((id,e,(),(),(),(),(m.length:Int),(k:Int),()),(fx x,fz,fc x,()),(m,x.servers,x.sides,x.master.configs,x.places,())))
   (λ_ _=>True)
   (λ_=>(((),(),()),(fz,fc x,()),(x.servers,x.sides,x.master.configs,x.places,())))
   (λ_=>(((),(),()),(fz,fc x,()),(x.servers,x.sides,x.master.configs,x.places,())))
   (λ_ _=>by simp only[Et,ES,BB];exact⟨if_neg (by omega),if_neg (by omega)⟩)
   (λk _ hk _=>by
     have c1: (k:Int)< (m.length:Int):=by omega
     have c2: (0:Int)<=(k:Int)/\(k:Int)< (m.length:Int):=by omega
     have hz:=m4 _ (Cn hk);have hg:m[k]? =some m[k] :=ao hk;generalize m[k] =z at hz hg;obtain⟨s,s1,s2,_⟩:=Hq ok vc hz;obtain⟨h1,h2⟩:=aap x ok (b:=z) hid;have c3:0<=z/\z< (x.servers.length:Int):=by rw[vc.len];exact hz
     refine⟨(),?_,?_,trivial⟩
     ·simp only[Et,fx,BB,AJ,if_pos c1,if_pos c2,Cj,hg,an,if_pos hz.1,s1,h1,Ap mm hk,Ar];cases s.up<;>rfl
     ·simp only[ES,fx,BB,AJ,if_pos c1,if_pos c2,Cj,hg,an,if_pos c3,s1,h2,Ap mm hk,Ar];cases s.up<;>rfl)
   () trivial
  simp only[Bg,m1,m2,an];rw[show Lo ((id,e,(),(),(),(),0,()),(fx x,fz,fc x,()),(m,x.servers,x.sides,x.master.configs,x.places,()))=_ from k1,show Ln ((id,e,(),(),(),(),(m.length:Int),0,()),(fx x,fz,fc x,()),(m,x.servers,x.sides,x.master.configs,x.places,()))=_ from k2];exact⟨rfl,rfl⟩
theorem acn(x:oZ)(ok:Dd 1048576 x)(id e:Int): ∃y,Eu x id e=some (y,())/\FA x id e=some (y,())/\Dd 1048576 y/\(CP x=some (true,())->CP y=some (true,())/\Yd x y/\ ∃S,y=Hn x S):=by
 by_cases hid:0<=id/\id<5
 ·obtain⟨v,v1,v2⟩:=Dg x ok;cases v with
  |true=>obtain⟨S,a1,a2,a3,a4,a5,_⟩:=RB x ok v1 (e:=e) hid;exact⟨_,a1,a2,a3,λ_=>⟨a4,a5,S,rfl⟩⟩
  |false=>
   obtain⟨c,d,d1,d2,_⟩:=SM x ok;refine⟨x,?_,?_,ok,λh=>by rw[v1] at h;cases h⟩
   ·unfold Eu;simp only[(D4 x ok).1,d1,v1,an,CQ];rfl
   ·unfold FA;simp only[(D4 x ok).2,d2,v2,an,CQ];rfl
 ·obtain⟨a1,a2⟩:=aam x ok e hid;exact⟨x,a1,a2,ok,λh=>⟨h,.refl x,x.servers,rfl⟩⟩
structure Co (x y:oZ):Prop where
 sides:y.sides=x.sides
 master:y.master=x.master
 srv: ∀ (j:Nat) s,x.servers[j]? =some s-> ∃t,y.servers[j]? =some t/\t.up=s.up/\t.version=s.version/\t.epoch=s.epoch/\t.config=s.config
theorem Co.trans{x y z:oZ}(h:Co x y)(k:Co y z):Co x z:=⟨k.1.trans h.1,k.2.trans h.2,λj s hs=>by obtain⟨t,t1,t2,t3,t4,t5⟩:=h.srv j s hs;obtain⟨u,u1,u2,u3,u4,u5⟩:=k.srv j t t1;exact⟨u,u1,u2.trans t2,u3.trans t3,u4.trans t4,u5.trans t5⟩⟩
theorem Co.set{x y:oZ}(h:Co x y){i:Nat}{s t:o4}(hs:y.servers[i]? =some s)(h1:t.up=s.up)(h2:t.version=s.version)(h3:t.epoch=s.epoch)(h4:t.config=s.config):Co x ⟨y.now,y.servers.set i t,y.sides,y.master,y.masterUp,y.lease,y.places⟩:=
 h.trans ⟨rfl,rfl,λj u hu=>by
  by_cases hj:i=j
  ·subst hj;rw[hs] at hu;obtain rfl:=Option.some.inj hu;exact⟨t,CM (BI hs),h1,h2,h3,h4⟩
  ·exact⟨u,(CD hj).trans hu,rfl,rfl,rfl,rfl⟩⟩
def Hr(x:oZ)(a b:Int):Prop:=∀p q,x.servers[a.toNat]? =some p->x.servers[b.toNat]? =some q->q.epoch=p.epoch/\q.config=p.config
theorem Co.hr{x y:oZ}(h:Co x y){a b:Int}(hh:Hr y a b):Hr x a b:=λp q hp hq=>by obtain⟨p',p1,_,_,p2,p3⟩:=h.srv _ _ hp;obtain⟨q',q1,_,_,q2,q3⟩:=h.srv _ _ hq;obtain⟨e1,e2⟩:=hh p' q' p1 q1;exact⟨q2.symm.trans (e1.trans p2),q3.symm.trans (e2.trans p3)⟩
end
section
theorem Ui:DU [] =some (true,()):=(Nm [] (by unfold maxLen;decide)).2 ⟨by decide,λk h=>absurd h (CJ k)⟩
theorem Yh{α:Type}{P:Prop}{b:Bool}{x y z:Option α}(h:br b x y=z)(h1:b=true->x=z->P)(h2:b=false->y=z->P):P:=by
 cases b with
 |true=>exact h1 rfl h
 |false=>exact h2 rfl h
end
section
def Ev{α:Type}(Q:α->Prop)(r:Option α):Prop:=∀a,r=some a->Q a
section
variable {α β σ ε:Type} {Q:α->Prop} {Q':β->Prop}
theorem Ev.ret{a:α}(h:Q a):Ev Q (some a):=λ_ e=>Option.some.inj e ▸ h
theorem Ev.no:Ev Q none:=nofun
theorem Ev.bd{r:Option α}{k:α->Option β}(hk: ∀a,r=some a->Ev Q' (k a)):Ev Q' (r.bind k):=λb e=>by
 cases r with
 |none=>cases e
 |some a=>exact hk a rfl b e
theorem Ev.bind{r:Option α}{k:α->Option β}(h:Ev Q r)(hk: ∀a,Q a->Ev Q' (k a)):Ev Q' (r.bind k):=.bd λa e=>hk a (h a e)
theorem Ev.br{b:Bool}{x y:Option α}(h1:b=true->Ev Q x)(h2:b=false->Ev Q y):Ev Q (Go.Proofs.YtkghndikalnipaaGreat.En.br b x y):=by
 cases b with
 |true=>exact h1 rfl
 |false=>exact h2 rfl
theorem Ev.brn{b:Bool}{x y:Option α}(h1:b=true->Ev Q y)(h2:b=false->Ev Q x):Ev Q (Go.Proofs.YtkghndikalnipaaGreat.En.br (!b) x y):=by
 cases b with
 |true=>exact h1 rfl
 |false=>exact h2 rfl
theorem Ev.ip{p:Prop}{d:Decidable p}{x:Option α}(h:p->Ev Q x):Ev Q (@iteP _ p d x none):=by
 by_cases hp:p
 ·rw[AL hp];exact h hp
 ·rw[AK hp];exact .no
theorem Ev.mono{Q2:α->Prop}{r:Option α}(h:Ev Q r)(hq: ∀a,Q a->Q2 a):Ev Q2 r:=λa e=>hq a (h a e)
theorem Ev.loop{B:σ->Option (σ⊕ε)}{E:ε->Prop}(I:σ->Prop)(h: ∀s,I s->Ev (Sum.elim I E) (B s)){s:σ}(hs:I s):Ev E (mu B s):=by
 intro e he;obtain⟨n,hn⟩:=jl.1 he;clear he
 induction n generalizing s with
 |zero=>cases hn
 |succ n ih=>
  unfold kz at hn;cases hB:B s with
  |none=>rw[hB] at hn;cases hn
  |some r=>
   rw[hB] at hn;have hr:=h s hs r hB;cases r with
   |inl s'=>exact ih hr hn
   |inr e'=>exact Option.some.inj hn ▸ hr
theorem Ev.count{B:σ->Option (σ⊕ε)}{E:ε->Prop}(m:Nat->β->σ)(J:Nat->β->Prop)(h: ∀k b,J k b->Ev (Sum.elim (λs=> ∃b',s=m (k+1) b'/\J (k+1) b') E) (B (m k b))){b:β}(hb:J 0 b):Ev E (mu B (m 0 b)):=
 Ev.loop (λs=> ∃k b,s=m k b/\J k b) (λs hs=>by
  obtain⟨k,b,rfl,hJ⟩:=hs;refine (h k b hJ).mono λr hr=> ?_;cases r with
  |inl s=>obtain⟨b',e,hJ'⟩:=hr;exact⟨k+1,b',e,hJ'⟩
  |inr e=>exact hr) ⟨0,b,rfl,hb⟩
end
theorem Ug(l:List pZ):Ev (λy=>y.1=l) (EF l):=by unfold EF;exact .ip λ_=> .ret (bC l)
theorem aca(a:List pZ)(n:Int)(t:List pZ):Ev (λy=>y.2.1=true->DU y.1=some (true,())/\ ∀e∈y.1,e∈a\/e∈t) (HA a n t):=by unfold HA;refine .bd λ_ _=> .brn (λ_=> .bd λ_ _=> .brn (λ_=> .br (λ_=> .ret nofun) λ_=> .ip λ_=> .bd λy3 _=> .br (λ_=> .ret nofun) λ_=> .bind (Ug a) λy4 h4=> .ip λ_=> .ip λ_=> .bd λy5 h5=> .brn (λe5=> .ret λ_=>⟨by rw[h5];exact congrArg some (Prod.ext e5 rfl),λe he=> ?_⟩) λ_=> .ret nofun) λ_=> .ret nofun) λ_=> .ret nofun;rw[h4] at he;exact (bz.1 he).imp id λh=>bB (bP h)
theorem abx(s:o4):Ev (λy=> ∀e∈y.1,e∈s.log) (Dx s):=by unfold Dx;refine .bd λ_ _=> .brn (λ_=> .br (λ_=> .ret nofun) λ_=> .ip λ_=> .bind (Ug _) λy h=> .ret λe he=> ?_) λ_=> .ret nofun;rw[h] at he;exact bB (bP he)
theorem ab6(s:o4)(id:Int):Ev (λy=> ∀e∈y.1,e∈s.learned\/e∈s.log) (II s id):=by unfold II;refine .bd λ_ _=> .bind (Ug _) λy2 h2=> ?_;have h2: ∀e∈y2.1,e∈s.learned\/e∈s.log:=λe he=> .inl (h2 ▸ he);exact .br (λ_=> .bind (abx s) λy hy=> .br (λ_=> .ret λe he=> .inr (hy e he)) λ_=> .ret h2) λ_=> .br (λ_=> .bind (abx s) λy hy=> .br (λ_=> .ret λe he=> .inr (hy e he)) λ_=> .ret h2) λ_=> .ret h2
end
section
theorem VG{l:List pZ}(hl:l.length<=maxLen)(h:DU l=some (true,())){e:Int}(he:Gz l=some (e,())): ∀x∈l,x.epoch<=e:=by
 obtain⟨_,h2⟩:=(Nm l hl).1 h
 have step: ∀k (hk:k+1<l.length),(l[k]'(by omega)).epoch<=(l[k+1]'hk).epoch:=by intro k hk;have h3:=h2 (k+1) hk;unfold XW at h3;rw[ao hk,show k+1-1=k from rfl,ao (by omega)] at h3;simp at h3;omega
 have chain: ∀d k (hk:k+d<l.length),(l[k]'(by omega)).epoch<=(l[k+d]'hk).epoch:=by
  intro d
  induction d with
  |zero=>intro k hk;exact cJ _
  |succ d ih=>intro k hk;exact Int.le_trans (ih k (by omega)) (step (k+d) hk)
 intro x hx;obtain⟨k,hk,rfl⟩:=aP hx;unfold Gz at he;unfold maxLen at hl;rw[show ((l.length:Int)==0)=false from beq_eq_false_iff_ne.2 (by omega),Ar,uj (by omega) (by omega),AL (by omega),ao (by omega),an] at he;rw[<-(Prod.mk.inj (Option.some.inj he)).1];have h4:=chain (l.length-1-k) k (by omega);have e1:k+(l.length-1-k)=((l.length:Int)-1).toNat:=by omega
 simp only[e1] at h4;exact h4
theorem aaD{l:List pZ}{n:Int}(h0:0<=n)(h: ∀x∈l,x.epoch<=n):Ev (λy=>y.1<=n) (Gz l):=by unfold Gz;exact .br (λ_=> .ret h0) λ_=> .ip λ_=> .bd λx hx=> .ret (h x (ax hx))
theorem ab1{s:o4}{id:Int}(ok:Dz 1048576 s)(hv:CU s id=some (true,())): ∀e∈s.log,e.epoch<=s.config.epoch:=by
 have hc:=C5 ok.1;obtain⟨_,_,_,_,_,f6,f7,_⟩:=Kg ok hv;obtain⟨e,e1,_⟩:=IJ s.log (CW ok.2.1);obtain⟨n,n1,_⟩:=N7 s.config id hc;have no: ∀ {P:Prop},some (false,())=some (true,())->P:=λh=>by cases h
 unfold CU at hv;simp only[DC,f6,f7,Jm s.config hc,n1,e1,an,CQ,Bg] at hv;refine Yh hv (λ_ hv=>Yh hv (λ_ hv=>Yh hv (λ_ hv=>Yh hv (λ_ hv=>Yh hv (λ_ hv=>Yh hv (λ_ hv=>Yh hv (λ_ hv=>Yh hv (λh0 _=> ?_) λ_ h=>no h) λ_ h=>no h) λ_ hv=>Yh hv (λ_ hv=>Yh hv (λ_ h=>no h) λ_ hv=>Yh hv (λ_ h=>no h) λhle _=> ?_) λ_ h=>no h) λ_ h=>no h) λ_ h=>no h) λ_ h=>no h) λ_ h=>no h) λ_ h=>no h
 ·have h0: (s.log.length:Int)=0:=eq_of_beq h0;rw[aY (by omega:s.log.length=0)];exact nofun
 ·have hle: ¬e>s.config.epoch:=of_decide_eq_false hle
  exactλx hx=>Int.le_trans (VG (CW ok.2.1) f6 e1 x hx) (by omega)
theorem SV.old2{m:jw}{s:o4}{k:Int}(h:SV m s k)(h0:0<=m.activated):s.config.epoch<=m.activated:=by
 rcases h.cfg with h| ⟨_,h⟩
 ·rw[h];exact h0
 ·exact h
theorem Ym{x:oZ}(ok:Dd 1048576 x)(hv:CP x=some (true,())){k:Nat}{s:o4}(hs:x.servers[k]? =some s): ∀e,e∈s.learned\/e∈s.log->e.epoch<=x.master.activated:=by
 have vc:=Dl ok hv;obtain⟨_,f2,_⟩:=LS (ED ok.2.2.1) vc.ml;have hlt:=BI hs;have sv:=Pf ok hv k hlt;rw[ao hlt] at hs;rw[Option.some.inj hs] at sv;have oks:Dz 1048576 s:=Option.some.inj hs ▸ ok.1.2 _ (Cn hlt);obtain⟨_,_,_,_,_,_,f7,_⟩:=Kg oks sv.val
 rintro e (he|he)
 ·obtain⟨n,n1,n2⟩:=sv.lrn;exact Int.le_trans (VG (CW oks.2.2) f7 n1 e he) n2
 ·exact Int.le_trans (ab1 oks sv.val e he) (sv.old2 f2)
def Lg(A:Int)(l:List pZ):Prop:=DU l=some (true,())/\ ∀e∈l,e.epoch<=A
section
variable {x:oZ} {A:Int} (hd: ∀ (k:Nat) s,x.servers[k]? =some s-> ∀e,e∈s.learned\/e∈s.log->e.epoch<=A)
include hd
theorem abK(s0: (Int×Unit×Unit×Bool×Unit×Bool×Int×Unit×Int×Unit)×((Int×List o4×List Int×List mD×Int×Int×Int×Int×Int×List tc×Unit)×(Int×Int×Unit×Unit×Unit)×(Bool×Bool×Int×Int×Int×Int×List Int×List Int×Int×List pZ×Int×List pZ×Unit)×Unit)×List pZ×List Int×List Int×Unit)
  (h1:s0.2.1.1=fx x) (hw: ∀e∈s0.2.1.2.2.1.2.2.2.2.2.2.2.2.2.1,e.epoch<=A) (h2:s0.1.2.2.2.1=true->Lg A s0.2.2.1):Ev (λe=>e.2.1.1=fx x/\(e.1.2.2.2.1=true->Lg A e.2.2.1)) (Jo s0):=by
 refine .loop (B:=ET) (λs=>s.2.1.1=fx x/\(∀e∈s.2.1.2.2.1.2.2.2.2.2.2.2.2.2.1,e.epoch<=A)/\(s.1.2.2.2.1=true->Lg A s.2.2.1)) (λs hs=> ?_) ⟨h1,hw,h2⟩;obtain⟨i1,i2,i3⟩:=hs;unfold ET;refine .br (λ_=> .ip λ_=> .bd λt ht=> ?_) λ_=> .ret ⟨i1,i3⟩
 extract_lets j66
 generalize hQ: (Sum.elim (λs: (Int×Unit×Unit×Bool×Unit×Bool×Int×Unit×Int×Unit)×((Int×List o4×List Int×List mD×Int×Int×Int×Int×Int×List tc×Unit)×(Int×Int×Unit×Unit×Unit)×(Bool×Bool×Int×Int×Int×Int×List Int×List Int×Int×List pZ×Int×List pZ×Unit)×Unit)×List pZ×List Int×List Int×Unit=>s.2.1.1=fx x/\(∀e∈s.2.1.2.2.1.2.2.2.2.2.2.2.2.2.1,e.epoch<=A)/\(s.1.2.2.2.1=true->Lg A s.2.2.1)) (λe: (Int×Unit×Unit×Bool×Unit×Bool×Int×Unit)×((Int×List o4×List Int×List mD×Int×Int×Int×Int×Int×List tc×Unit)×(Int×Int×Unit×Unit×Unit)×Unit)×List pZ×List Int×List Int×Unit=>e.2.1.1=fx x/\(e.1.2.2.2.1=true->Lg A e.2.2.1)))=Q;have keep:Ev Q (j66 s.2.2.1 s.1.2.2.2.1):=hQ ▸ .ret ⟨i1,i2,i3⟩;refine .brn (λ_=> .bd λ_ _=> .brn (λ_=> .ip λ_=> .bd λu hu=> .bind (ab6 u _) λy hy=> .bind (aca _ _ _) λz hz=> .br (λhz2=> ?_) λ_=>keep) λ_=>keep) λ_=>keep
 have hu2: ∀e,e∈u.learned\/e∈u.log->e.epoch<=A:=by rw[i1] at hu;exact hd _ u hu
 have new:Ev Q (j66 z.1 true):=hQ ▸ .ret ⟨i1,i2,λ_=>⟨(hz hz2).1,λe he=>((hz hz2).2 e he).elim (λh=>hu2 e (hy e h)) (i2 e)⟩⟩;exact .brn (λ_=> .br (λ_=>new) λ_=>keep) λ_=>new
theorem ZN(id:Int):Ev (λy=>y.2.1=true->Lg A y.1) (Ez x id):=by unfold Ez;refine .bd λy1 _=> .bind (.loop (B:=Ep) (E:=λe=>e.1.2.1=true->Lg A e.2.2.1) (λs=>s.2.1.1=fx x/\(s.1.2.2.2.1=true->Lg A s.2.2.1)) (λs hs=> ?_) ⟨rfl,nofun⟩) λe he=> .ret he;obtain⟨i1,i2⟩:=hs;unfold Ep;refine .br (λ_=> .br (λ_=> .bd λ_ _=> .br (λ_=> .bd λ_ _=> .br (λ_=> .ip λ_=> .bd λ_ _=> .ip λ_=> .bd λw hw=> .brn (λ_=> .brn (λ_=> .ip λ_=> .bd λ_ _=> .bd λ_ _=> .brn (λ_=> ?_) λ_=> .ret ⟨i1,i2⟩) λ_=> .ret ⟨i1,i2⟩) λ_=> .ret ⟨i1,i2⟩) λ_=> .ret i2) λ_=> .ret i2) λ_=> .ret i2) λ_=> .ret i2;rw[i1] at hw;exact .bind (abK hd _ i1 (λe he=>hd _ w hw e (.inr he)) i2) λe he=> .ret ⟨he.1,he.2⟩
end
theorem aar(x:oZ)(ok:Dd 1048576 x)(id:Int):Ev (λy=>y.2.1=true->Lg x.master.activated y.1) (EI x id):=by
 unfold EI;refine .bd λv hv=> .brn (λev=> .bd λ_ _=> .brn (λ_=> .br (λ_=> .ret λ_=>⟨Ui,nofun⟩) λ_=> .bd λn _=> .br (λ_=> .ip λ_=> .bd λs hs=> .bind (Ug _) λy hy=> .ret λ_=> ?_) λ_=> .bind (ZN (A:=x.master.activated) (λk s hs=> ?_) id) λy hy=> .ret hy) λ_=> .ret nofun) λ_=> .ret nofun
 all_goals have hv:CP x=some (true,()):=by rw[hv];exact congrArg some (Prod.ext ev rfl)
 ·show Lg _ y.1;rw[hy];have hlt:=BI hs;have sv:=Pf ok hv n.1.toNat hlt;rw[ao hlt] at hs;rw[Option.some.inj hs] at sv;have oks:Dz 1048576 s:=Option.some.inj hs ▸ ok.1.2 _ (Cn hlt);exact⟨(Kg oks sv.val).2.2.2.2.2.1,λe he=>Ym ok hv (k:=n.1.toNat) (by rw[ao hlt];exact hs) e (.inr he)⟩
 ·exact Ym ok hv hs
end
section
theorem Yk(c:mD):Ev (λy=>y.1=c) (Gj c):=by unfold Gj;exact .ip λ_=> .ip λ_=> .ret rfl
structure Ins (s t:o4) (c:mD) (l:List pZ) (n:Int):Prop where
 up:t.up=s.up
 intact:t.intact=true
 version:t.version=s.version
 epoch:t.epoch=c.epoch
 config:t.config=c
 first:t.first=if n=3 then ((cutAt l:Nat):Int) else 0
 log:t.log=if n=3 then l.drop (cutAt l) else l
 commit:t.commit=(l.length:Int)
 learned:t.learned= []
theorem YC{s:o4}{c:mD}{id n:Int}{l:List pZ}(hn:D8 c id=some (n,()))(h0:n≠0)(hl:DU l=some (true,()))(hlen:l.length<=1048576)(hv:1<=s.version/\s.version<=2)(he:0<=s.epoch/\s.epoch<=c.epoch)(hc:0<=c.epoch)(ha: ∀e∈l,e.epoch<=c.epoch)(hf:s.version=1->Dy l=some (false,())):Ev (λy=>Ins s y.1 c l n) (D7 s c id l):=by
 have e0: (n==0)=false:=beq_eq_false_iff_ne.2 h0;unfold D7;rw[hn,an];show Ev _ (br (n==0) _ _);rw[e0,Ar,hl,an];show Ev _ ((CY s.version 1 2).bind _);rw[DC,CS.2 hv,an];show Ev _ ((CY s.epoch 0 c.epoch).bind _);rw[DC,CS.2 he,an];refine .bind (aaD hc ha) λy9 h9=> .br (λh=>absurd (of_decide_eq_true h) (by omega)) λ_=> ?_
 extract_lets j18
 have hj:Ev (λy=>Ins s y.1 c l n) j18:=by
  unfold j18;refine .bind (Yk c) λy13 h13=> .bind (Ug l) λy14 h14=> .br (λh3=> ?_) λh3=> ?_
  ·have h3:n=3:=eq_of_beq h3;rw[Se l hlen];refine .ip λ_=> .bind (Ug _) λy15 h15=> .ret ⟨rfl,rfl,rfl,rfl,h13,by rw[if_pos h3],?_,rfl,rfl⟩;rw[if_pos h3];show y15.1=_;rw[h15,Cj,Cj];exact bT (by rw[cf];omega)
  ·have h3: ¬n=3:=ne_of_beq_false h3;exact .ret ⟨rfl,rfl,rfl,rfl,h13,by rw[if_neg h3],by rw[if_neg h3];exact h14,rfl,rfl⟩
 refine .br (λh1=> ?_) λ_=>hj;rw[hf (eq_of_beq h1),an];exact hj
structure Act0 (x y:oZ) (c:mD) (M:List Int) (l:List pZ):Prop where
 chosen:FB x.master=some (c,true,())
 members:DN c=some (M,())
 newer:x.master.activated≠c.epoch
 now:y.now=x.now
 sides:y.sides=x.sides
 up:y.masterUp=x.masterUp
 places:y.places=x.places
 lease:y.lease=⟨0,0,0⟩
 master:y.master=⟨x.master.configs,c.epoch⟩
 isLog:Lg x.master.activated l
 mem: ∀z∈M,∃s t n,x.servers[z.toNat]? =some s/\s.up=true/\x.sides[z.toNat]? =some 0/\D8 c z=some (n,())/\y.servers[z.toNat]? =some t/\Ins s t c l n
 rest: ∀ (j:Nat) s,x.servers[j]? =some s->(∀z∈M,z.toNat≠j)-> ∃ep,y.servers[j]? =some (Lu s ep)/\SV x.master (Lu s ep) (j:Int)
 len:y.servers.length=x.servers.length
structure acu (x y:oZ) (c:mD) (M:List Int) (l:List pZ):Prop extends Act0 x y c M l where
 source:EI x c.primary=some (l,true,())
 sealed: ∃w,Eu x c.primary c.epoch=some (w,())/\ ∀ (j:Nat) s,w.servers[j]? =some s->(∀z∈M,z.toNat≠j)->y.servers[j]? =some s
theorem ZI{s:o4}{id:Int}(hv:CU s id=some (true,())):1<=s.version/\s.version<=2:=by
 unfold CU at hv;rw[DC,an] at hv;cases h:Ff s.version 1 2 with
 |true=>exact CS.1 h
 |false=>rw[h] at hv;cases hv
theorem ZJ{l:List Int}(h:SS l){i j:Nat}{a b:Int}(hi:l[i]? =some a)(hj:l[j]? =some b)(hij:i<j):a<b:=by have hj':=BI hj;have hi':=BI hi;rw[ao hi'] at hi;rw[ao hj'] at hj;rw[<-Option.some.inj hi,<-Option.some.inj hj];exact Ct.1 h i j hi' hj' hij
theorem XA(x:oZ)(ok:Dd 1048576 x):Ev (λy=>y.2.1=0->CP x=some (true,())/\ ∃c M l,acu x y.1 c M l) (FT x):=by
 obtain⟨v,hv,_⟩:=Dg x ok;obtain⟨c,b,c1,_,c3⟩:=KX x.master (x.master.configs.length:Int) ok.2.2.1;unfold FT;have hch:FB x.master=some (c,b,()):=by unfold FB;rw[c1];rfl
 rw[(D4 x ok).1,an,hch,an,hv,an];refine .brn (λev=> ?_) λ_=> .ret nofun;have ev:v=true:=ev;subst ev;have vc:=Dl ok hv;obtain⟨_,f2,f3⟩:=LS (ED ok.2.2.1) vc.ml;have f20:=Up ok.2.2.1 vc.ml;refine .brn (λhb=> .br (λ_=> .ret nofun) λhne=> .br (λ_=> .ret nofun) λ_=> .ip λ_=> .bd λp _=> .brn (λ_=> .ip λ_=> .bd λ_ _=> .brn (λ_=> .bd λ_ _=> .brn (λ_=> ?_) λ_=> .ret nofun) λ_=> .ret nofun) λ_=> .ret nofun) λ_=> .ret nofun;have hb:b=true:=hb;subst hb;have hne:c.epoch≠x.master.activated:=ne_of_beq_false hne;obtain⟨c',b',q1,_,_,q4,q5,_⟩:=H8 x.master (x.master.configs.length:Int) ok.2.2.1 vc.ml;rw[c1] at q1;simp only[ae,ap,and_true] at q1;obtain⟨rfl,rfl⟩:=q1;obtain⟨cv,ce⟩:=q5 rfl;obtain⟨_,_,_,ce1,_⟩:=Gh c3 cv;obtain⟨w,w1,_,okw,wv⟩:=acn x ok c.primary c.epoch;obtain⟨hvw,se,W,hW⟩:=wv hv;have vcw:=Dl okw hvw;rw[w1,an];refine .bd λy8 h8=> .brn (λe8=> ?_) λ_=> .ret nofun;obtain⟨L,hasL,_⟩:=y8;have e8:hasL=true:=e8;subst e8;have lg:=aar x ok c.primary _ h8 rfl
 have Ll:L.length<=1048576:=by obtain⟨_,_,l',b',_,_,_,_,_,_,g,_,_,_,_,g2,_⟩:=V7 x ok c.primary;rw[h8] at g;simp only[ae,ap,and_true] at g;rw[g.1];exact g2
 obtain⟨M,m1,_,m3,m4,m5,m6⟩:=LZ c c3;have mm:M.length<=maxLen:=by unfold maxLen;omega
 rw[m1,an];have sw: ∀k,k<M.length->IntKind.wrap .i64 ((k:Int)+1)=((k+1:Nat):Int):=λk hk=>Ap mm hk
 refine .bind (.count (B:=F1) (E:=Sum.elim (λe=>e.1.2.2.1=10) λe=>e.2=((fx x,fz,fc w,(c.epoch,c.primary,(),(),()),()),L,M,w.servers,w.sides,w.master.configs,w.places,c.replicas,c.witnesses,())/\ ∀j z,j<M.length->M[j]? =some z-> ∃s,x.servers[z.toNat]? =some s/\s.up=true/\x.sides[z.toNat]? =some 0)
  (λk (_:Unit)=>(((),(),(),(),(),(),(k:Int),()),(fx x,fz,fc w,(c.epoch,c.primary,(),(),()),()),L,M,w.servers,w.sides,w.master.configs,w.places,c.replicas,c.witnesses,()))
  (λk _=>k<=M.length/\ ∀j z,j<k->M[j]? =some z-> ∃s,x.servers[z.toNat]? =some s/\s.up=true/\x.sides[z.toNat]? =some 0) (λk _ hJ=> ?_) (b:=()) ⟨bL _,λj z h=>absurd h (CJ j)⟩) λe he=> ?_
 ·refine .br (λh=> .ip λ_=> .bd λz hz=> .ip λ_=> .bd λs hs=> .brn (λhu=> .ip λ_=> .bd λz2 hz2=> .ip λ_=> .bd λsd hsd=> .brn (λe0=> ?_) λ_=> .ret rfl) λ_=> .ret rfl) λh=> .ret ⟨rfl,λj z hj=>hJ.2 j z ?_⟩
  ·have hk:k<M.length:=Cm.1 (of_decide_eq_true h);have hz:M[k]? =some z:=hz;obtain rfl:z2=z:=Option.some.inj ((show M[k]? =some z2 from hz2).symm.trans hz);refine .ret ⟨(),by rw[sw k hk],hk,λj z' hj hz'=> ?_⟩;by_cases hjk:j=k
   ·subst hjk;obtain rfl:=Option.some.inj (hz.symm.trans hz');exact⟨s,hs,hu,by rw[hsd,eq_of_beq e0]⟩
   ·exact hJ.2 j z' (by omega) hz'
  ·have : ¬ ((k:Int)< (M.length:Int)):=of_decide_eq_false h;omega
 cases e with
 |inl e=>exact .ret λh=>absurd ((show e.1.2.2.1=10 from he).symm.trans h) (by decide)
 |inr e=>
 obtain⟨he,hup⟩:=he;show Ev _ ((Jb (((),(),(),(),(),(),0,()),e.2)).bind _);rw[he]
 refine .bind (.count (B:=EN) (E:=Sum.elim (λe=>e.1.2.2.1=6) λe=>e.2=((fx x,fz,fc w,(c.epoch,c.primary,(),(),()),()),L,M,w.servers,w.sides,w.master.configs,w.places,c.replicas,c.witnesses,())/\ ∀j z,j<M.length->M[j]? =some z-> ∀s,x.servers[z.toNat]? =some s->s.version=1->Dy L=some (false,()))
  (λk (_:Unit)=>(((),(),(),(),(),(),(k:Int),()),(fx x,fz,fc w,(c.epoch,c.primary,(),(),()),()),L,M,w.servers,w.sides,w.master.configs,w.places,c.replicas,c.witnesses,()))
  (λk _=>k<=M.length/\ ∀j z,j<k->M[j]? =some z-> ∀s,x.servers[z.toNat]? =some s->s.version=1->Dy L=some (false,())) (λk _ hJ=> ?_) (b:=()) ⟨bL _,λj z h=>absurd h (CJ j)⟩) λe he=> ?_
 ·refine .br (λh=> .ip λ_=> .bd λz hz=> .ip λ_=> .bd λs hs=> ?_) λh=> .ret ⟨rfl,λj z hj=>hJ.2 j z ?_⟩
  ·have hk:k<M.length:=Cm.1 (of_decide_eq_true h);have hz:M[k]? =some z:=hz
   have next: (s.version=1->Dy L=some (false,()))->k+1<=M.length/\ ∀j z,j<k+1->M[j]? =some z-> ∀s,x.servers[z.toNat]? =some s->s.version=1->Dy L=some (false,()):=λhn=>⟨hk,λj z' hj hz' s' hs' hv'=>by
    by_cases hjk:j=k
    ·subst hjk;obtain rfl:=Option.some.inj (hz.symm.trans hz');obtain rfl:=Option.some.inj ((show x.servers[z.toNat]? =some s from hs).symm.trans hs');exact hn hv'
    ·exact hJ.2 j z' (by omega) hz' s' hs' hv'⟩
   refine .br (λh1=> .bd λnf hnf=> .br (λ_=> .ret rfl) λh0=> .ret ⟨(),by rw[sw k hk],next λ_=> ?_⟩) λh1=> .ret ⟨(),by rw[sw k hk],next λh=>absurd h (ne_of_beq_false h1)⟩;exact (show Dy L=some nf from hnf).trans (congrArg some (Prod.ext h0 rfl))
  ·have : ¬ ((k:Int)< (M.length:Int)):=of_decide_eq_false h;omega
 cases e with
 |inl e=>exact .ret λh=>absurd ((show e.1.2.2.1=6 from he).symm.trans h) (by decide)
 |inr e=>
 obtain⟨he,hnf⟩:=he;show Ev _ ((KV (((),(),(),(),(),(),0,()),e.2)).bind _);rw[he]
 refine .bind (.count (B:=F2) (E:=λe=> ∃S:List o4,S.length=w.servers.length/\(∀ (j:Nat) s,w.servers[j]? =some s->(∀i z,i<M.length->M[i]? =some z->z.toNat≠j)->S[j]? =some s)/\(∀i z,i<M.length->M[i]? =some z-> ∃s t n,w.servers[z.toNat]? =some s/\D8 c z=some (n,())/\S[z.toNat]? =some t/\Ins s t c L n)/\e=(((),(),(),(),()),(fx x,fz,fc w,(c.epoch,c.primary,(),(),()),()),S,w.sides,w.master.configs,w.places,c.replicas,c.witnesses,()))
  (λk (S:List o4)=>(((),(),(),(),(),(),(k:Int),()),(fx x,fz,fc w,(c.epoch,c.primary,(),(),()),()),L,M,S,w.sides,w.master.configs,w.places,c.replicas,c.witnesses,()))
  (λk S=>k<=M.length/\S.length=w.servers.length/\(∀ (j:Nat) s,w.servers[j]? =some s->(∀i z,i<k->M[i]? =some z->z.toNat≠j)->S[j]? =some s)/\ ∀i z,i<k->M[i]? =some z-> ∃s t n,w.servers[z.toNat]? =some s/\D8 c z=some (n,())/\S[z.toNat]? =some t/\Ins s t c L n) (λk S hJ=> ?_) (b:=w.servers) ⟨bL _,rfl,λ_ _ h _=>h,λi z h=>absurd h (CJ i)⟩) λe he=> ?_
 ·refine .br (λh=> .ip λ_=> .bd λz hz=> .ip λ_=> .bd λz1 hz1=> .ip λ_=> .bd λs hs=> .ip λ_=> .bd λz2 hz2=> .bd λs2 hs2=> .ip λ_=> .bd λs3 hs3=> .ip λ_=> .bd λs4 hs4=> .ip λ_=> .bd λs5 hs5=> .ip λ_=> ?_) λh=> .ret ⟨S,hJ.2.1,?_,?_,rfl⟩
  ·have hk:k<M.length:=Cm.1 (of_decide_eq_true h);have hz:M[k]? =some z:=hz;obtain rfl:z1=z:=Option.some.inj ((show M[k]? =some z1 from hz1).symm.trans hz);obtain rfl:z2=z1:=Option.some.inj ((show M[k]? =some z2 from hz2).symm.trans hz);have hs:S[z2.toNat]? =some s:=hs;obtain rfl:s2=s:=Option.some.inj ((show S[z2.toNat]? =some s2 from hs2).symm.trans hs);obtain rfl:s3=s2:=Option.some.inj ((show S[z2.toNat]? =some s3 from hs3).symm.trans hs);obtain rfl:s4=s3:=Option.some.inj ((show S[z2.toNat]? =some s4 from hs4).symm.trans hs);obtain rfl:s5=s4:=Option.some.inj ((show S[z2.toNat]? =some s5 from hs5).symm.trans hs);have hzM:=ax hz;have hzr:=m4 z2 hzM
   have hws:w.servers[z2.toNat]? =some s5:=by
    have hlt:z2.toNat<w.servers.length:=by rw[vcw.len];omega
    have h2:=hJ.2.2.1 _ _ (ao hlt) (λi z' hi hz' he=>by have:=ZJ m5 hz' hz hi;have:=m4 z' (ax hz');omega)
    rw[ao hlt,<-h2,hs]
   have hlt:=BI hws;have svw:=Pf okw hvw z2.toNat hlt;rw[show w.servers[z2.toNat] =s5 from by rw[ao hlt] at hws;exact Option.some.inj hws] at svw;have oks:=okw.1.2 s5 (ax hws);obtain⟨_,_,_,_,_,_,_,p1,_⟩:=Kg oks svw.val;have hep:=svw.ep;rw[se.master] at hep;obtain⟨n,n1,_,n3,_⟩:=Zx c z2 c3 cv;have hn0:n≠0:=λh=>n3.1 h ((m6 cv z2).1 hzM)
   have hI:=YC (s:=s5) n1 hn0 lg.1 Ll (ZI svw.val) ⟨p1,by omega⟩ (by omega) (λe he=>by have:=lg.2 e he;omega) (λh1=>by obtain⟨sx,sx1,_⟩:=Hq ok vc hzr;obtain⟨ep,g1⟩:=se.srv _ _ sx1;rw[hws] at g1;exact hnf k z2 hk hz sx sx1 (by rw[Option.some.inj g1] at h1;exact h1))
   show Ev _ ((D7 ⟨s5.up,s5.intact,s5.version,s5.epoch,⟨s5.config.epoch,s5.config.primary,(s5.config.replicas.drop 0).take s5.config.replicas.length,(s5.config.witnesses.drop 0).take s5.config.witnesses.length⟩,s5.first,(s5.log.drop 0).take s5.log.length,s5.commit,(s5.learned.drop 0).take s5.learned.length⟩ ⟨c.epoch,c.primary,c.replicas,c.witnesses⟩ z2 L).bind _);rw[ct,ct,ct,ct,Cq,Cq,Cq,Cq];refine .bind hI λy hy=> .ip λ_=> .bd λ_ _=> .ret ⟨S.set z2.toNat y.1,by rw[sw k hk],hk,by rw[Cu];exact hJ.2.1,λj t ht hno=> ?_,λi z' hi hz'=> ?_⟩
   ·rw[CD (hno k z2 (cI k) hz)];exact hJ.2.2.1 j t ht λi z' hi=>hno i z' (by omega)
   ·by_cases hik:i=k
    ·subst hik;obtain rfl:=Option.some.inj (hz.symm.trans hz');exact⟨s5,y.1,n,hws,n1,CM (BI hs),hy⟩
    ·obtain⟨a,t,n',a1,a2,a3,a4⟩:=hJ.2.2.2 i z' (by omega) hz';have:=ZJ m5 hz' hz (by omega);have:=m4 z' (ax hz');exact⟨a,t,n',a1,a2,by rw[CD (by omega)];exact a3,a4⟩
  ·have : ¬ ((k:Int)< (M.length:Int)):=of_decide_eq_false h
   exactλj s hs hno=>hJ.2.2.1 j s hs λi z hi hz=>hno i z (BI hz) hz
  ·have : ¬ ((k:Int)< (M.length:Int)):=of_decide_eq_false h
   exactλi z hi hz=>hJ.2.2.2 i z (by omega) hz
 obtain⟨S,g1,g2,g3,rfl⟩:=he
 have hac:DV x.master c.epoch=some (⟨x.master.configs,c.epoch⟩,true,()):=by unfold DV;rw[(NU x.master ok.2.2.1).1,an,vc.ml,an,ce,beq_self_eq_true,BB];rw[if_neg (by omega)];rfl
 show Ev _ ((DV x.master c.epoch).bind _);rw[hac,an];refine .ret λ_=>⟨rfl,c,M,L,⟨⟨hch,m1,λh=>hne h.symm,by rw[hW],se.sides,by rw[hW],by rw[hW],rfl,rfl,lg,λz hz=> ?_,λj s hs hno=> ?_,?_⟩,h8,⟨w,w1,λj s hs hno=>g2 j s hs λi z _ hz=>hno z (ax hz)⟩⟩⟩
 ·obtain⟨i,hi,rfl⟩:=aP hz;have hg:M[i]? =some M[i] :=ao hi;obtain⟨s,s1,s2,s3⟩:=hup i _ hi hg;obtain⟨s',t,n,t1,t2,t3,t4⟩:=g3 i _ hi hg;obtain⟨ep,u1⟩:=se.srv _ _ s1;rw[t1] at u1;have u1:=Option.some.inj u1;exact⟨s,t,n,s1,s2,s3,t2,t3,t4.up.trans (by rw[u1]),t4.intact,t4.version.trans (by rw[u1]),t4.epoch,t4.config,t4.first,t4.log,t4.commit,t4.learned⟩
 ·obtain⟨ep,u1⟩:=se.srv _ _ hs;refine⟨ep,g2 j _ u1 λi z _ hz=>hno z (ax hz),?_⟩;have hlt:=BI u1;have svw:=Pf okw hvw j hlt;rw[ao hlt] at u1;rw[Option.some.inj u1,se.master] at svw;exact svw
 ·show S.length=x.servers.length;rw[g1,vcw.len,vc.len]
end
section
theorem Wi{l:List pZ}(hl:l.length<=maxLen)(h:DU l=some (true,()))(n:Nat):DU (l.drop n)=some (true,()):=by
 obtain⟨h1,h2⟩:=(Nm l hl).1 h;refine (Nm _ (by rw[cf];omega)).2 ⟨by rw[cf];omega,λk hk=> ?_⟩;rw[cf] at hk;have h3:=h2 (n+k) (by omega);unfold XW at h3 ⊢;rw[bc];cases k with
 |zero=>rw[bF] at h3 ⊢;rw[ao (by omega)] at h3 ⊢;simp at h3 ⊢;exact⟨h3.1,h3.2.1⟩
 |succ k=>rw[bc,show n+(k+1)-1=n+k from by omega,ao (by omega),ao (by omega)] at*;simp at h3 ⊢;exact h3
theorem acF{m:jw}(hl:m.configs.length<=maxLen)(h: ∀k (hk:k<m.configs.length),CV m.configs[k] =some (true,())/\m.configs[k].epoch=(k:Int)+1)(ha:0<=m.activated/\m.activated<=(m.configs.length:Int)):C7 m=some (true,()):=by
 refine Tt.tru ?_;unfold C7;refine .bind (.count (B:=DK) (E:=Sum.elim (λ_=>False) λe=>e.2.1.1=(m.configs,m.activated,())) m.configs.length (λk (_:Unit)=>(((),(k:Int),()),((m.configs,m.activated,()),()),())) (λ_ _=>True) (λ_ _=> .end (Cp _) (.ret rfl)) (λk _ hk _=> .go (Cm.2 hk) (.ip (Ck k) ?_)) () trivial) λe he=> ?_
 ·have sw:=Ap hl hk;have hk2:=h k hk;have hg:m.configs[k]? =some m.configs[k] :=ao hk;generalize m.configs[k] =c at hg hk2;refine .get (tn hk) λc' hc' _=> ?_;obtain rfl:c'=c:=Option.some.inj ((show m.configs[k]? =some c' from hc').symm.trans hg);refine .bind (Q:=λy=>y.1=true) ⟨_,hk2.1,rfl⟩ λy hy=> .br (λh=>by rw[hy] at h;cases h) λ_=> .ip (Ck k) (.get (tn hk) λd hd _=> .br (λhn=> ?_) λ_=> .ret ⟨(),by rw[sw],trivial⟩);obtain rfl:d=c':=Option.some.inj ((show m.configs[k]? =some d from hd).symm.trans hg);have hn: (!(d.epoch==IntKind.wrap .i64 ((k:Int)+1)))=true:=hn;rw[sw,hk2.2] at hn;simp at hn
 ·cases e with
  |inl e=>exact he.elim
  |inr e=>show Tt _ ((CY e.2.1.1.2.1 0 (e.2.1.1.1.length:Int)).bind _);rw[show e.2.1.1=_ from he,DC,CS.2 ha];exact .ret rfl
theorem Uf{m:jw}(ok:KI 1048576 m)(hv:C7 m=some (true,())){a:Int}(hv':C7 ⟨m.configs,a⟩=some (true,()))(e:Int):EY ⟨m.configs,a⟩ e=EY m e:=by unfold EY;rw[hv,hv']
theorem Xy{x:oZ}(ok:Dd 1048576 x)(hn:0<=x.now/\x.now<=999)(h5:x.servers.length=5)(hs:FU x.sides=some (true,()))(hm:C7 x.master=some (true,()))(hu:0<=x.masterUp/\x.masterUp<=3)(hl:EM x.lease=some (true,()))(hp:Dt x.places=some (true,()))(he:x.lease.epoch<=x.master.activated)(hS: ∀k (hk:k<x.servers.length),SV x.master x.servers[k] (k:Int)):CP x=some (true,()):=by
 rcases Vb x ok with ⟨_,h1⟩| ⟨⟨k,hk,h0⟩,_⟩
 ·unfold CP;rw[h1];simp only[DC,CS.2 hn,h5,hs,hm,CS.2 hu,hl,hp,an,CQ,Bg,BB,if_neg (show ¬x.lease.epoch>x.master.activated by omega)];rfl
 ·exact absurd (hS k hk) h0
theorem ach{c:mD}(h:1<=c.epoch):c≠⟨0,0,[],[]⟩:=λe=>by rw[e] at h;exact absurd h (by decide)
theorem YB{s t:o4}{c:mD}{l:List pZ}{n z:Int}(okt:Dz 1048576 t)(h:Ins s t c l n)(hn:D8 c z=some (n,()))(h0:n≠0)(hl:DU l=some (true,()))(hlen:l.length<=maxLen)(hv:1<=s.version/\s.version<=2)(hc:1<=c.epoch/\c.epoch<=20)(ha: ∀e∈l,e.epoch<=c.epoch):CU t z=some (true,()):=by
 have h16:=((Nm l hlen).1 hl).1;have hcut:cutAt l<=l.length:=Nat.sub_le _ _
 have tlog:DU t.log=some (true,()):=by
  rw[h.log];split
  ·exact Wi hlen hl _
  ·exact hl
 have tlen:t.first+(t.log.length:Int)=(l.length:Int)/\0<=t.first/\t.first<=16:=by
  rw[h.first,h.log];split
  ·rw[cf];omega
  ·omega
 obtain⟨e,e1,_⟩:=IJ t.log (CW okt.2.1)
 have he:e<=c.epoch:=(aaD (by omega) (λx hx=>ha x (by
  rw[h.log] at hx;split at hx
  ·exact bB hx
  ·exact hx))) _ e1
 have hcv:=C5 okt.1;unfold CU;rw[uj (n:=t.first+(t.log.length:Int)) (by omega) (by omega),tlen.1,h.learned,Ui,tlog,h.version,h.epoch,h.commit,Jm t.config hcv,h.config,hn,h.intact,e1];simp only[DC,CS.2 hv,CS.2 (show 0<=c.epoch/\c.epoch<=20 by omega),CS.2 tlen.2,CS.2 (show 0<=(l.length:Int)/\(l.length:Int)<=16 by omega),CS.2 (show 0<=(l.length:Int)/\(l.length:Int)<=(l.length:Int) by omega),an,CQ,Bg,BB,if_neg (ach hc.1),if_neg (show ¬c.epoch<c.epoch by omega),if_neg (show ¬e>c.epoch by omega),show (n==0)=false from beq_eq_false_iff_ne.2 h0,Ar];by_cases h3:n=3
 ·have hf:t.first=((cutAt l:Nat):Int):=by rw[h.first,if_pos h3]
  have hg: (t.log.length:Int)=(l.length:Int)-((cutAt l:Nat):Int):=by omega
  rw[show (n==3)=true from beq_iff_eq.2 h3,Bg,if_pos (by rw[hg];unfold cutAt;omega),Fm];split
  ·rfl
  ·next hne=>
   rw[hf];have :cutAt l=0:=by unfold cutAt at*;omega
   rw[this];rfl
 ·have hf:t.first=0:=by rw[h.first,if_neg h3]
  rw[show (n==3)=false from beq_eq_false_iff_ne.2 h3,Ar,hf];rfl
theorem Act0.cfg{x y:oZ}{c:mD}{M:List Int}{l:List pZ}(ok:Dd 1048576 x)(hv:CP x=some (true,()))(h:Act0 x y c M l):D5 maxLen c/\CV c=some (true,())/\c.epoch=(x.master.configs.length:Int)/\x.master.activated<c.epoch/\C7 y.master=some (true,())/\EY y.master c.epoch=some (c,true,())/\(∀z∈M,0<=z/\z<5)/\(∀z,z∈M↔z∈c.replicas\/z∈c.witnesses):=by
 have vc:=Dl ok hv;obtain⟨f1,f2,f3⟩:=LS (ED ok.2.2.1) vc.ml;obtain⟨c',b',q1,_,q3,_,q5,_⟩:=H8 x.master (x.master.configs.length:Int) ok.2.2.1 vc.ml;have hch:=h.chosen;unfold FB at hch;rw[q1] at hch;simp only[an,ae,ap,and_true] at hch;obtain⟨rfl,rfl⟩:=hch;obtain⟨cv,ce⟩:=q5 rfl;have hne:=h.newer
 have hm:C7 y.master=some (true,()):=by rw[h.master];exact acF (ED ok.2.2.1).1 f1 ⟨by show 0<=c'.epoch;omega,by show c'.epoch<=(x.master.configs.length:Int);omega⟩
 obtain⟨M',m1,_,_,m4,_,m6⟩:=LZ c' q3;obtain rfl:M'=M:=(Prod.mk.inj (Option.some.inj (m1.symm.trans h.members))).1;refine⟨q3,cv,ce,by omega,hm,?_,m4,m6 cv⟩;rw[h.master] at hm ⊢;rw[Uf ok.2.2.1 vc.ml hm,ce];exact q1
theorem Vf{x y:oZ}{c:mD}{M:List Int}{l:List pZ}(ok:Dd 1048576 x)(hv:CP x=some (true,()))(oky:Dd 1048576 y)(hl:l.length<=maxLen)(h:Act0 x y c M l):CP y=some (true,()):=by
 have vc:=Dl ok hv;obtain⟨c3,cv,ce,ca,hm,hat,m4,m6⟩:=h.cfg ok hv;obtain⟨_,_,_,e1,e20,_⟩:=Gh c3 cv;have hcfg:y.master.configs=x.master.configs:=by rw[h.master]
 have hact:y.master.activated=c.epoch:=by rw[h.master]
 refine Xy oky (by rw[h.now];exact vc.now) (by rw[h.len];exact vc.len) (by rw[h.sides];exact vc.sides) hm (by rw[h.up];exact vc.up) (by rw[h.lease];rfl) (by rw[h.places];exact vc.places) (by rw[h.lease,hact];show (0:Int)<=_;omega) λk hk=> ?_;have hk':k<x.servers.length:=by rw[<-h.len];exact hk
 have sv:=Pf ok hv k hk';by_cases hM: ∃z∈M,z.toNat=k
 ·obtain⟨z,hz,rfl⟩:=hM;obtain⟨s,t,n,s1,_,_,n1,t1,hI⟩:=h.mem z hz;have hz4:=m4 z hz;have ez: ((z.toNat:Nat):Int)=z:=by omega
  rw[ao hk] at t1;rw[Option.some.inj t1,ez];rw[ao hk'] at s1;rw[Option.some.inj s1] at sv;have okt:Dz 1048576 t:=Option.some.inj t1 ▸ oky.1.2 _ (Cn hk);obtain⟨n',n1',_,n3,_⟩:=Zx c z c3 cv;obtain rfl:n'=n:=(Prod.mk.inj (Option.some.inj (n1'.symm.trans n1))).1;refine⟨YB okt hI n1 (λh0=>n3.1 h0 ((m6 z).1 hz)) h.isLog.1 hl (ZI sv.val) ⟨e1,e20⟩ λe he=>by have:=h.isLog.2 e he;omega,by rw[hI.epoch,hcfg];omega,⟨0,by rw[hI.learned];rfl,by rw[hact];omega⟩,.inr ?_⟩;rw[hI.config,hact];exact⟨hat,cJ _⟩
 ·obtain⟨ep,t1,svw⟩:=h.rest k _ (ao hk') λz hz e=>hM ⟨z,hz,e⟩;rw[ao hk] at t1;rw[Option.some.inj t1];obtain⟨n,n1,n2⟩:=svw.lrn;refine⟨svw.val,by rw[hcfg];exact svw.ep,⟨n,n1,by rw[hact];omega⟩,svw.cfg.imp id λhc=>⟨?_,by rw[hact];have:=hc.2;omega⟩⟩;rw[h.master] at hm ⊢;rw[Uf ok.2.2.1 vc.ml hm];exact hc.1
theorem Zz{y:oZ}{c:mD}{M:List Int}{t:o4}(oky:Dd 1048576 y)(i9:CP y=some (true,()))(hla:C1 y.master=some (c,true,()))(hm:DN c=some (M,()))(t1:y.servers[c.primary.toNat]? =some t)(hpn:DG t c.primary=some (true,()))(he:t.config.epoch=c.epoch)(hh: ∀z∈M,FW y c.primary z=some (true,())):DE y=some (c.primary,()):=by
 have eX:Ev (λr=>r.1=c.primary) (DE y):=by
  unfold DE;rw[hla,an,i9,an];refine .brn (λ_=> .brn (λ_=> .ip λ_=> .bd λp hp=> ?_) nofun) nofun;obtain rfl:p=t:=Option.some.inj ((show y.servers[c.primary.toNat]? =some p from hp).symm.trans t1);show Ev _ ((DG p c.primary).bind _);rw[hpn,an];refine .brn (λ_=> .ip λ_=> .bd λp2 hp2=> ?_) nofun;obtain rfl:p2=p:=Option.some.inj ((show y.servers[c.primary.toNat]? =some p2 from hp2).symm.trans t1);refine .brn (λ_=> ?_) λhf=>absurd (show (p2.config.epoch==c.epoch)=true by rw[he,beq_self_eq_true]) (by rw[show (p2.config.epoch==c.epoch)=false from hf];decide);show Ev _ ((DN c).bind _);rw[hm,an];refine .bind (.loop (B:=Eo) (E:=Sum.elim (λ_=>False) λe=>e.2.1.1.2.1=c.primary) (λs=>s.2=((fx y,(c.epoch,c.primary,(),(),()),()),M,c.replicas,c.witnesses,())) (λs hs=> ?_) rfl) λe he=> ?_
  ·obtain⟨a,b⟩:=s;have hs:b=_:=hs;subst hs;refine .br (λ_=> .ip λ_=> .bd λz hz=> ?_) λ_=> .ret rfl;show Ev _ ((FW y c.primary z).bind _);rw[hh z (ax (show M[_]? =some z from hz)),an];exact .brn (λ_=> .ret rfl) nofun
  ·cases e with
   |inl e=>exact he.elim
   |inr e=>exact .ret he
 obtain⟨r,r1,_⟩:=MG y oky;rw[r1,show r=c.primary from eX _ r1]
structure Srv (y:oZ) (c:mD) (M:List Int) (t:o4):Prop where
 act:C1 y.master=some (c,true,())
 mem:DN c=some (M,())
 at':y.servers[c.primary.toNat]? =some t
 now:DG t c.primary=some (true,())
 ep:t.config.epoch=c.epoch
 rng:0<=c.primary/\c.primary<5
 hear: ∀z∈M,FW y c.primary z=some (true,())
theorem abA{x y:oZ}{c:mD}{M:List Int}{l:List pZ}(ok:Dd 1048576 x)(hv:CP x=some (true,()))(oky:Dd 1048576 y)(hl:l.length<=maxLen)(h:Act0 x y c M l): ∃t,Srv y c M t:=by
 have i9:=Vf ok hv oky hl h;have vcy:=Dl oky i9;obtain⟨c3,cv,ce,ca,hm,hat,m4,m6⟩:=h.cfg ok hv;obtain⟨_,_,cp,_⟩:=Gh c3 cv;have hpM:=(m6 c.primary).2 (.inl cp);have hp4:=m4 _ hpM;obtain⟨s,t,n,s1,s2,s3,n1,t1,hI⟩:=h.mem _ hpM
 have n1':D8 c c.primary=some (1,()):=by unfold D8;rw[cv,an,beq_self_eq_true];rfl
 obtain rfl:n=1:=(Prod.mk.inj (Option.some.inj (n1.symm.trans n1'))).1;have hlt:=BI t1;have ez: ((c.primary.toNat:Nat):Int)=c.primary:=by omega
 have sv:=Pf oky i9 _ hlt;have t1':=t1;rw[ao hlt] at t1';rw[Option.some.inj t1',ez] at sv
 have hla:C1 y.master=some (c,true,()):=by unfold C1;rw[show y.master.activated=c.epoch by rw[h.master],hat];rfl
 have hpn:DG t c.primary=some (true,()):=by unfold DG;rw[sv.val,an,hI.up,s2,hI.config,n1',an,hI.epoch];show some ((c.epoch==c.epoch),())=_;rw[beq_self_eq_true]
 have tl:t.log=l:=by rw[hI.log,if_neg (by decide)]
 have hh: ∀z∈M,FW y c.primary z=some (true,()):=λz hz=>by have hz4:=m4 z hz;obtain⟨sz,tz,nz,z1,z2,z3,z4,z5,hZ⟩:=h.mem z hz;rw[(aaC y oky vcy hp4 hz4).1];unfold Sj GW;rw[h.sides,s3,z3,z5,t1];simp only[hZ.up,z2,hZ.epoch,hI.epoch,hZ.commit,tl,hZ.config,hI.config,beq_self_eq_true,Bool.and_self,cJ,decide_true]
 exact⟨t,hla,h.members,t1,hpn,by rw[hI.config],hp4,hh⟩
theorem VF{y:oZ}{c:mD}{M:List Int}{t:o4}(oky:Dd 1048576 y)(i9:CP y=some (true,()))(h:Srv y c M t)(L:s7)(hL:EM L=some (true,()))(he:L.epoch<=y.master.activated):CP ⟨y.now,y.servers,y.sides,y.master,y.masterUp,L,y.places⟩=some (true,())/\DE ⟨y.now,y.servers,y.sides,y.master,y.masterUp,L,y.places⟩=some (c.primary,()):=by have vcy:=Dl oky i9;have okz:Dd 1048576 ⟨y.now,y.servers,y.sides,y.master,y.masterUp,L,y.places⟩:=oky;have hvz:CP ⟨y.now,y.servers,y.sides,y.master,y.masterUp,L,y.places⟩=some (true,()):=Xy okz vcy.now vcy.len vcy.sides vcy.ml vcy.up hL vcy.places he (show ∀k (hk:k<y.servers.length),SV y.master y.servers[k] (k:Int) from Pf oky i9);exact⟨hvz,Zz okz hvz h.act h.mem h.at' h.now h.ep h.hear⟩
end
section
theorem YD(l:s7):Tt (λy=>y.1=true->l=⟨0,0,0⟩\/((1<=l.epoch/\l.epoch<=20)/\(0<=l.holder/\l.holder<=4)/\1<=l.ends/\l.ends<=1049)) (EM l):=by unfold EM;simp only[DC,an];refine .br (λh=> .ret λ_=> .inl ?_) λ_=> .br (λh1=> .br (λh2=> .ret λh3=> .inr ⟨CS.1 h1,CS.1 h2,CS.1 h3⟩) λ_=> .ret nofun) λ_=> .ret nofun;simp only[cR,aj,beq_iff_eq] at h;obtain⟨e,h,n⟩:=l;simp only at h;obtain⟨rfl,rfl,rfl⟩:=h;rfl
def Gr(l:s7)(e h n:Int)(g:s7):Prop:=g.epoch=e/\g.holder=h/\(1<=e/\e<=20)/\(0<=h/\h<=4)/\(0<=n/\n<=999)/\n<g.ends/\g.ends<=1049/\(l.epoch=e->l.holder=h->l.ends<=g.ends)
theorem abH(l:s7)(e h n t:Int):Tt (λy=>y.2.1=true->Gr l e h n y.1) (Hz l e h n t):=by
 obtain⟨⟨b,_⟩,b1,b2⟩:=YD l;obtain⟨o,o1,_⟩:=MO l n;have no:Tt (λy:s7×Bool×Unit=>y.2.1=true->Gr l e h n y.1) (some (l,false,())):=.ret nofun;unfold Hz;simp only[b1,o1,DC,an,CQ];cases b with
 |false=>exact .br (λ_=>no) λ_=>no
 |true=>
  simp only[Bg];have hl:=b2 rfl;cases h1:Ff e 1 20<;>cases h2:Ff h 0 4<;>cases h3:Ff n 0 999<;>cases h4:Ff t 1 50<;>simp only[Bg,Ar]<;>first |exact .br (λ_=>no) λ_=>no|skip
  have h1:=CS.1 h1;have h2:=CS.1 h2;have h3:=CS.1 h3;have h4:=CS.1 h4;rw[uj (n:=n+t) (by omega) (by omega)]
  have mine:l.epoch=e->Tt (λy:s7×Bool×Unit=>y.2.1=true->Gr l e h n y.1) (some (⟨e,h,if l.ends>n+t then l.ends else n+t⟩,true,())):=λhe=> .ret λ_=>by
   have hr:1<=l.ends/\l.ends<=1049:=by
    rcases hl with rfl|hl
    ·simp only at he;omega
    ·exact hl.2.2
   show Gr l e h n ⟨e,h,if l.ends>n+t then l.ends else n+t⟩;split
   ·exact⟨rfl,rfl,h1,h2,h3,by show n<l.ends;omega,hr.2,λ_ _=>cJ _⟩
   ·exact⟨rfl,rfl,h1,h2,h3,by show n<n+t;omega,by show n+t<=1049;omega,λ_ _=>by show l.ends<=n+t;omega⟩
  have other: (l.epoch=e->l.holder=h->False)->Tt (λy:s7×Bool×Unit=>y.2.1=true->Gr l e h n y.1) (some (⟨e,h,n+t⟩,true,())):=λhn=> .ret λ_=>⟨rfl,rfl,h1,h2,h3,by show n<n+t;omega,by show n+t<=1049;omega,λa b=>(hn a b).elim⟩
  refine .br (λhe=> ?_) λhe=> ?_
  ·have he:l.epoch=e:=eq_of_beq he;refine .br (λ_=> .br (λ_=>mine he) λhh=>other λ_ a=>ne_of_beq_false hh a) λ_=> .br (λ_=> .br (λ_=>mine he) λhh=>other λ_ a=>ne_of_beq_false hh a) λ_=>no
  ·have he:l.epoch≠e:=ne_of_beq_false he;exact .br (λ_=>other λa _=>he a) λ_=>no
theorem Gr.ok{l g:s7}{e h n:Int}(hg:Gr l e h n g):FM g=some (true,())/\Fz g n=some (false,())/\Qi g e h n=some (decide (n+3<g.ends),()):=by
 obtain⟨rfl,rfl,h1,h2,h3,h4,h5,_⟩:=hg;have hz: (g.ends==0)=false:=beq_eq_false_iff_ne.2 (by omega)
 have il:FM g=some (true,()):=by unfold FM;simp only[hz,CO,Bool.and_false,Ar,Hk,CS.2 h1,CS.2 h2,CS.2 (show 1<=g.ends/\g.ends<=1049 by omega),an,Bg]
 refine⟨il,?_,?_⟩
 ·unfold Fz Jr;simp only[il,Hk,CS.2 h3,an,Bg,CQ,hz,CO,Bool.and_false,Ar,Fm,BB];rw[uj (n:=g.ends+3) (by omega) (by omega)];simp only[show ¬g.ends=0 by omega,if_false,an,decide_eq_false (show ¬n≥g.ends+3 by omega)]
 ·unfold Qi;simp only[il,Hk,CS.2 h3,an,Bg,CQ,hz,CO,Bool.and_false,Ar,Fm,if_true];rw[uj (n:=n+3) (by omega) (by omega)]
section
variable [dp]
end
end
section
theorem Gr.lease{l g:s7}{e h n:Int}(hg:Gr l e h n g):EM g=some (true,()):=by obtain⟨rfl,rfl,h1,h2,h3,h4,h5,_⟩:=hg;have hz: (g.epoch==0)=false:=beq_eq_false_iff_ne.2 (by omega);unfold EM;rw[hz,CO,Ar,DC,CS.2 h1,an];show br true ((CY g.holder 0 4).bind _) _=_;rw[Bg,DC,CS.2 h2,an];show br true ((CY g.ends 1 1049).bind _) _=_;rw[Bg,DC,CS.2 (show 1<=g.ends/\g.ends<=1049 by omega)];rfl
theorem abW(x:oZ)(ok:Dd 1048576 x)(id t:Int):Ev (λy=>y.2.1=0-> ∃L,y.1=⟨x.now,x.servers,x.sides,x.master,x.masterUp,L,x.places⟩/\EM L=some (true,())/\L.epoch<=x.master.activated) (FD x id t):=by obtain⟨n,n1,n2⟩:=To x ok id;unfold FD;rw[(D4 x ok).1,an,n1,an];refine .brn (λen=> ?_) λhn=> .ret λh=>absurd h (ne_of_beq_false hn);obtain⟨hv,h0,h5⟩:=n2 (eq_of_beq en);have vc:=Dl ok hv;obtain⟨_,f2,_⟩:=LS (ED ok.2.2.1) vc.ml;refine .ip λ_=> .bd λs hs=> .bd λ_ _=> .brn (λ_=> .br (λ_=> .ret nofun) λ_=> .ip λ_=> .bd λ_ _=> .brn (λ_=> .brn (λ_=> .bd λy6 h6=> .brn (λe6=> .ret λ_=>⟨_,rfl,?_⟩) λ_=> .ret nofun) λ_=> .ret nofun) λ_=> .ret nofun) λ_=> .ret nofun;have hg:=(abH x.lease s.config.epoch id x.now t).is h6 e6;have hlt:=BI hs;have sv:=Pf ok hv _ hlt;have hs':=hs;rw[ao hlt] at hs';rw[Option.some.inj hs'] at sv;exact⟨hg.lease,by rw[hg.1];exact sv.old2 f2⟩
theorem aao{y:oZ}{n:Int}(h:DE y=some (n,()))(hn:0<=n):E3 y=some (true,()):=by unfold E3;rw[h,an,decide_eq_true (show n≥0 from hn)]
theorem XB(x:oZ)(ok:Dd 1048576 x):Ev (λy=>y.2.1=0->Dd 1048576 y.1/\CP y.1=some (true,())/\ ∃c M t,Srv y.1 c M t) (FT x):=by
 intro y hy h0;have oky:=((Pg x ok).is hy).1;obtain⟨hv,c,M,l,h⟩:=XA x ok y hy h0
 have hl:l.length<=maxLen:=by obtain⟨_,_,l',b',_,_,_,_,_,_,g,_,_,_,_,g2,_⟩:=V7 x ok c.primary;have:=h.source;rw[g] at this;simp only[ae,ap,and_true] at this;rw[<-this.1];exact CW g2
 obtain⟨t,ht⟩:=abA ok hv oky hl h.toAct0;exact⟨oky,Vf ok hv oky hl h.toAct0,c,M,t,ht⟩
theorem aak(x:oZ)(ok:Dd 1048576 x)(want term:Int):Ev (λy=>y.2.1=0->E3 y.1=some (true,())) (E5 x want term):=by
 unfold E5;rw[(D4 x ok).1,an];refine .bd λ_ _=> .brn (λ_=> .bd λ_ _=> .brn (λ_=> .bd λs hs=> .br (λes=> .ret λ_=>hs.trans (congrArg some (Prod.ext es rfl))) λ_=> .bd λn hn=> .brn (λ_=> .bd λy6 h6=> .brn (λ_=> .bd λ_ _=> .bd λy8 h8=> .brn (λ_=> .bd λy9 h9=> .brn (λe9=> .bd λy10 h10=> .ret λe10=> ?_) λhn=> .ret λh=>absurd h (ne_of_beq_false hn)) λhn=> .ret λh=>absurd h (ne_of_beq_false hn)) λhn=> .ret λh=>absurd h (ne_of_beq_false hn)) λ_=> .ret nofun) λ_=> .ret nofun) λ_=> .ret nofun
 have hnc:D5 1048576 n.1:=by
  obtain⟨c,b,c1,_,c2,_⟩:=S4 x ok want;rw[c1] at hn;obtain rfl:=(Option.some.inj hn)
  exact c2
 obtain⟨y,k,y1,_,oky,_⟩:=RA x ok n.1 hnc;rw[y1] at h6;obtain rfl:=(Option.some.inj h6)
 obtain⟨w,k2,w1,_,okw,_⟩:=VW y oky _;rw[w1] at h8;obtain rfl:=(Option.some.inj h8)
 obtain⟨okz,hvz,c,M,t,ht⟩:=XB w okw _ h9 (eq_of_beq e9);obtain⟨L,e1,e2,e3⟩:=abW y9.1 okz _ _ _ h10 e10;obtain⟨_,q⟩:=VF okz hvz ht L e2 e3;show E3 y10.1=_;rw[e1];exact aao q ht.rng.1
end
section
theorem VU(x:oZ)(ok:Dd 1048576 x)(want wt:Int): ∃n b,Fb x want wt=some (n,b,())/\GG x want wt=some (n,b,())/\D5 1048576 n/\(b=true->(1<=n.epoch/\n.epoch<=20)/\n.epoch=(x.master.configs.length:Int)+1/\Jf n.replicas/\Jf n.witnesses/\n.primary∈n.replicas/\ ∀y∈n.replicas,y∉n.witnesses):=by
 obtain⟨v,v1,v2⟩:=Dg x ok;unfold Fb GG;simp only[v1,v2,an,CQ,DC,Hk];have zero:D5 1048576 ⟨0,0,[],[]⟩:=⟨bL _,bL _⟩
 cases v with
 |false=>exact⟨_,_,rfl,rfl,zero,nofun⟩
 |true=>
  simp only[Bg];cases Ff want 1 3 with
  |false=>exact⟨_,_,rfl,rfl,zero,nofun⟩
  |true=>
   simp only[Bg];cases Ff wt 0 1 with
   |false=>exact⟨_,_,rfl,rfl,zero,nofun⟩
   |true=>
   have vc:=Dl ok v1;have hml:=Up ok.2.2.1 vc.ml;simp only[Bg,Fm,BB];by_cases h20: (x.master.configs.length:Int)=20
   ·simp only[if_pos h20,if_pos (show (x.master.configs.length:Int)≥20 by omega)];exact⟨_,_,rfl,rfl,zero,nofun⟩
   ·obtain⟨c,d,d1,d2,d3,d4,d5,d6⟩:=Jg x ok v1;have hsl:=GO (CW ok.2.1) vc.sides
    have asc:Jf c.replicas/\(d=true->1<=c.epoch)/\(d=true->c≠⟨0,0,[],[]⟩):=by
     cases d with
     |false=>rw[d6 rfl];exact⟨λk hk=>by simp at hk,nofun,nofun⟩
     |true=>obtain⟨q1,_,_,q4,_⟩:=Gh d3 (d5 rfl).1;exact⟨q1,λ_=>q4,λ_ e=>by rw[e] at q4;simp at q4⟩
    obtain⟨asc,ep,nz⟩:=asc;have rl:=asc.len;have rm:c.replicas.length<=maxLen:=by unfold maxLen;omega
    have inr: ∀z∈c.replicas,0<=z/\z<5:=by intro z hz;obtain⟨k,hk,rfl⟩:=aP hz;have:=(asc k hk).1;omega
    have ial:=R6 (Di x) (aw 5)
    have iam: (La (Di x) 5).length<=maxLen:=by have:=ial.len;unfold maxLen;omega
    have memA: ∀z,0<=z/\z<5->decide (z∈La (Di x) 5)=Di x z.toNat:=by
     intro z hz;cases h:Di x z.toNat with
     |true=>exact decide_eq_true ((NV _ _ _).2 ⟨z.toNat,by omega,h,by omega⟩)
     |false=>
      refine decide_eq_false λhm=> ?_;obtain⟨k,_,k2,k3⟩:=(NV _ _ _).1 hm;have :z.toNat=k:=by omega
      rw[this,k2] at h;cases h
    have kS:=AN (B:=EO) c.replicas (λk (b:List Int)=>((want,wt,(),(),(),(),(),(k:Int),()),((x.now,x.servers,x.sides,x.master.configs,x.master.activated,x.masterUp,x.lease.epoch,x.lease.holder,x.lease.ends,x.places,()),(0,0,(),(),()),(c.epoch,c.primary,(),(),()),()),(La (Di x) 5,b,c.replicas,c.witnesses,()))) (λk b=>b=(c.replicas.take k).filter (HY x c.epoch))
     (λ_ _ _=>((want,wt,(),(),(),(),(),()),((x.now,x.servers,x.sides,x.master.configs,x.master.activated,x.masterUp,x.lease.epoch,x.lease.holder,x.lease.ends,x.places,()),(0,0,(),(),()),(c.epoch,c.primary,(),(),()),()),(La (Di x) 5,c.replicas.filter (HY x c.epoch),c.replicas,c.witnesses,())))
     (λb hb=>by simp only[EO];rw[BB,if_neg (by omega),hb,Cq])
     (λk b z hz hb=>by
       have hk:=BI hz;have c1: (k:Int)< (c.replicas.length:Int):=by omega
       have c2: (0:Int)<=(k:Int)/\(k:Int)< (c.replicas.length:Int):=by omega
       have hzz:=inr z (ax hz);have hlt:z.toNat<x.servers.length:=by rw[vc.len];omega
       have hol:b.length<=5:=by rw[hb];have:=CB (HY x c.epoch) (c.replicas.take k);simp only[cH] at this;omega
       have h40: (b++ [z]).length*8<=2 ^ 40:=FR (by simp;omega)
       have hke:HY x c.epoch z=(Di x z.toNat&&(x.servers[z.toNat].config.epoch==c.epoch)):=by unfold HY;rw[ao hlt]
       have hS:DD (La (Di x) 5) z=some (Di x z.toNat,()):=by rw[(C9 _ z iam).1,memA z hzz]
       simp only[EO,BB,Fm,AJ,if_pos c1,if_pos c2,Cj,hz,an,hS,if_pos hzz.1,ao hlt,Ap rm hk,if_pos h40];simp only[Ef hz,Cv];cases ha:Di x z.toNat with
       |false=>exact .inl ⟨b,rfl,by rw[hb];simp[hke,ha],trivial⟩
       |true=>
        simp only[Bg];by_cases he:x.servers[z.toNat].config.epoch=c.epoch
        ·simp only[if_pos he];exact .inl ⟨b++ [z],rfl,by rw[hb];simp[hke,ha,he],trivial⟩
        ·simp only[if_neg he];exact .inl ⟨b,rfl,by rw[hb];simp[hke,ha,he],trivial⟩)
     0 [] (bL _) rfl
    have hsv:Ds x x=some (La (Di x) 5,()):=by
     have hm5:x.servers.length<=maxLen:=CW ok.1.1
     have kk:=AN (B:=C3) x.servers (λk (b:List Int)=>(((x,()),(),x.servers,(x.servers.length:Int),(k:Int),()),(),(b,()))) (λk b=>b=La (Di x) k) (λ_ _ _=>(((),()),(),(La (Di x) 5,())))
      (λb hb=>by simp only[C3];rw[BB,if_neg (by omega),hb,vc.len])
      (λk b s hs hb=>by
        have hk:=BI hs;have c1: (k:Int)< (x.servers.length:Int):=by omega
        have c2: (0:Int)<=(k:Int):=by omega
        have hk5:k<5:=by rw[<-vc.len];exact hk
        have h40: (b++ [(k:Int)]).length*8<=2 ^ 40:=by rw[hb];exact WX (by omega) _
        simp only[C3,HG,BB,AJ,if_pos c1,if_pos c2,Cj,hs,an,Vd x vc.len hsl k hk5,if_pos h40,Ap hm5 hk];rw[Qo,<-hb];cases Di x k with
        |true=>exact .inl ⟨b++ [(k:Int)],rfl,rfl,trivial⟩
        |false=>exact .inl ⟨b,rfl,by simp,trivial⟩)
      0 [] (bL _) rfl
     unfold Ds;simp only[v2,an,cS,Ar];rw[show Fo (((x,()),(),x.servers,(x.servers.length:Int),0,()),(),([],()))=_ from kk];rfl
    have hdel:C8 c.replicas x c=some (c.replicas.filter (HY x c.epoch),()):=by
     have h:=Yo (F:=λa=>C8 a x c) (B2:=DJ) (B5:=Du) (x,c,()) (λi=>Fh i x c) (λi=> !HY x c.epoch i) (λ_=>rfl) (λ_ _ _=>rfl) (λ_ _ _=>rfl) c.replicas (by omega) (λz hz=>by
      have hzz:=inr z hz;have hlt:z.toNat<x.servers.length:=by rw[vc.len];omega
      have hu:=Vd x vc.len hsl z.toNat (by omega);rw[CN hzz.1] at hu;unfold Fh HY;simp only[hu,an,AJ,if_pos hzz.1,ao hlt,CQ];cases Di x z.toNat<;>rfl)
     simpa using h
    obtain⟨r,r1,r2,r3⟩:=Ry x.places (CW ok.2.2.2) vc.places (c.replicas.filter (HY x c.epoch)) (La (Di x) 5) (asc.filter _) ial want;have rl':=r3.len;have rm':r.length<=maxLen:=by unfold maxLen;omega
    obtain⟨w,w1,w2⟩:=Q0 x.places (CW ok.2.2.2) vc.places r (([0,1,2,3,4]:List Int).filter λy=> !decide (y∈La (Di x) 5)) r3 (by have:=(Na.filter λy=> !decide (y∈La (Di x) 5)).len;unfold maxLen;omega)
    simp only[if_neg h20,if_neg (show ¬ (x.master.configs.length:Int)≥20 by omega),Yg x ok v1,d1,d2,hsv,an,FG];rw[AL (FR (show c.replicas.length<=1048576 by omega))];rw[show Mn ((want,wt,(),(),(),(),(),0,()),((x.now,x.servers,x.sides,x.master.configs,x.master.activated,x.masterUp,x.lease.epoch,x.lease.holder,x.lease.ends,x.places,()),(0,0,(),(),()),(c.epoch,c.primary,(),(),()),()),(La (Di x) 5,[],c.replicas,c.witnesses,()))=_ from kS];simp only[an,hdel,r1,r2,(C9 r c.primary rm').1,(C9 r c.primary rm').2,PR,Nl _ _ Na iam,w2.1,Jm _ d3,show (⟨c.epoch,c.primary,c.replicas,c.witnesses⟩:mD)=c from rfl];by_cases h0: (r.length:Int)=0
    ·simp only[if_pos h0];exact⟨_,_,rfl,rfl,zero,nofun⟩
    ·have c0: (0:Int)<=0/\(0:Int)< (r.length:Int):=by omega
     have hg:r[(0:Int).toNat]? =some (r[0]'(by omega)):=ao _;have hw:=Nl _ _ Na iam;have sw:=Pe _ _ Na iam;have hlen:IntKind.wrap .i64 ((x.master.configs.length:Int)+1)=(x.master.configs.length:Int)+1:=uj (by omega) (by omega);simp only[if_neg h0,AJ,if_pos c0,hg,an,CQ,BB,Fm,sw,w1,hlen]
     have done: ∀ (p:Int) (W:List Int),p∈r->(W= [] \/(W= [w] /\w≥0))->D5 1048576 ⟨(x.master.configs.length:Int)+1,p,r,W⟩/\(true=true->(1<=(x.master.configs.length:Int)+1/\(x.master.configs.length:Int)+1<=20)/\(x.master.configs.length:Int)+1=(x.master.configs.length:Int)+1/\Jf r/\Jf W/\p∈r/\ ∀y∈r,y∉W):=by
      intro p W hp hW;rcases hW with rfl| ⟨rfl,hw0⟩
      ·exact⟨⟨by show r.length<=_;omega,bL _⟩,λ_=>⟨by omega,rfl,r3,(λk hk=>absurd hk (CJ k)),hp,λ_ _=>nofun⟩⟩
      ·rcases w2.2 with h| ⟨h1,h2,h3⟩
       ·omega
       ·refine⟨⟨by show r.length<=_;omega,by show 1<=1048576;omega⟩,λ_=>⟨by omega,rfl,r3,λk hk=> ?_,hp,λy hy hyw=>h3 (aI.1 hyw ▸ hy)⟩⟩;obtain rfl:k=0:=by simpa using hk
        exact⟨by show 0<=w/\w<=4;omega,λh=>absurd h (dg 0)⟩
     have hp0:r[0]'(by omega)∈r:=Cn _
     have tail: ∀p:Int,p∈r-> ∃n b,(if wt=1 then if w≥0 then some ((⟨(x.master.configs.length:Int)+1,p,r,[w]⟩:mD),true,()) else some (⟨(x.master.configs.length:Int)+1,p,r,[]⟩,true,()) else some (⟨(x.master.configs.length:Int)+1,p,r,[]⟩,true,()))=some (n,b,())/\D5 1048576 n/\(b=true->(1<=n.epoch/\n.epoch<=20)/\n.epoch=(x.master.configs.length:Int)+1/\Jf n.replicas/\Jf n.witnesses/\n.primary∈n.replicas/\ ∀y∈n.replicas,y∉n.witnesses):=by
      intro p hp;split
      ·split
       ·next hw0=>exact⟨_,_,rfl,done p [w] hp (.inr ⟨rfl,hw0⟩)⟩
       ·exact⟨_,_,rfl,done p [] hp (.inl rfl)⟩
      ·exact⟨_,_,rfl,done p [] hp (.inl rfl)⟩
     have both: ∀p:Int,p∈r-> ∃n b,(if wt=1 then if w≥0 then some ((⟨(x.master.configs.length:Int)+1,p,r,[w]⟩:mD),true,()) else some (⟨(x.master.configs.length:Int)+1,p,r,[]⟩,true,()) else some (⟨(x.master.configs.length:Int)+1,p,r,[]⟩,true,()))=some (n,b,())/\(if wt=1 then if w≥0 then some ((⟨(x.master.configs.length:Int)+1,p,r,[w]⟩:mD),true,()) else some (⟨(x.master.configs.length:Int)+1,p,r,[]⟩,true,()) else some (⟨(x.master.configs.length:Int)+1,p,r,[]⟩,true,()))=some (n,b,())/\D5 1048576 n/\(b=true->(1<=n.epoch/\n.epoch<=20)/\n.epoch=(x.master.configs.length:Int)+1/\Jf n.replicas/\Jf n.witnesses/\n.primary∈n.replicas/\ ∀y∈n.replicas,y∉n.witnesses):=λp hp=>by obtain⟨n,b,e,h⟩:=tail p hp;exact⟨n,b,e,e,h⟩
     cases d with
     |false=>
      have hc:=d6 rfl;subst hc;simp only[decide_true,if_true,show ¬ (0:Int)>0 by omega,if_false];by_cases hmem: (0:Int)∈r
      ·simp only[if_pos hmem];exact both _ hp0
      ·simp only[if_neg hmem];exact both _ hp0
     |true=>
      have he:=ep rfl;simp only[decide_eq_false (nz rfl),if_neg (nz rfl),if_pos (show c.epoch>0 by omega)];by_cases hmem:c.primary∈r
      ·simp only[if_pos hmem];exact both _ hmem
      ·simp only[if_neg hmem];exact both _ hp0
end
section
section
variable [dp]
theorem We{x:Hd}{l:List Int}(h:kf x=some l)(hl:l.length<=maxLen)(hb: ∀m∈l,0<=m/\m<=255):Tt (λy=>Dd 1048576 y.1) (GL x):=by unfold GL;exact .dn (Zq h hl hb) λc1 _ h1 _=> .dn (Sd h1) λc2 y h2 hy=> .ip rfl (.dn (EE h2 _) λc3 _ h3 _=> .ip rfl (.dn (FH h3 (by simp)) λc4 _ _ _=> .ip rfl (.ret hy.1)))
theorem Yr{x:Hd}{l:List Int}(h:kf x=some l)(hl:l.length<=maxLen)(hb: ∀m∈l,0<=m/\m<=255):Tt (λy=>Dd 1048576 y.1) (Hf x):=by unfold Hf;exact .dn (Zq h hl hb) λc1 _ h1 _=> .dn (Sd h1) λc2 y h2 hy=> .ip rfl (.dn (EE h2 _) λc3 _ h3 _=> .ip rfl (.dn (FH h3 (by simp)) λc4 _ _ _=> .ip rfl (.ret hy.1)))
theorem V3(x:Hd)(l:List Int)(h:kf x=some l)(hl:l.length<=maxLen)(hb: ∀m∈l,0<=m/\m<=255):MM x=some (true,()):=by
 refine Tt.tru ?_;unfold MM;refine .bind (Q:=T1) (by unfold Yv;exact .ret trivial) λ_ _=> .br (λ_=> .ret rfl) λ_=> .bind (We h hl hb) λa ha=> ?_;obtain⟨y,n,s1,i1,oky,_⟩:=V2 a.1 ha a.2.1 a.2.2.1;have hs:=aak a.1 ha a.2.1 a.2.2.1 _ s1;rw[i1,s1,an,an,CQ,beq_self_eq_true];refine .br (λ_=> ?_) (λh=>by cases h);rw[acB y oky,an,CQ];refine .br (λ_=> ?_) (λh=>by cases h);obtain⟨sv,v1,v2⟩:=QM a.1 ha;rw[v2,v1,an,an,CQ,beq_self_eq_true];refine .br (λ_=> ?_) (λh=>by cases h);obtain⟨p,p1,p2,_⟩:=MG a.1 ha;rw[p2,p1,an,an,CQ,beq_self_eq_true];refine .br (λ_=> ?_) (λh=>by cases h)
 extract_lets j22
 have h22:Tt (λy=>y.1=true) j22:=by unfold j22;refine .bind (Yr h hl hb) λb hb2=> ?_;obtain⟨c,d,c1,c2,c3,c4⟩:=VU b.1 hb2 b.2.1 b.2.2.1;rw[c2,c1,an,an,beq_self_eq_true,Bg,(Ew c c (C5 c3)).2,an,decide_eq_true rfl,Bg,CQ];refine .br (λhd=> ?_) λ_=> .ret rfl;obtain⟨e1,e2,e3,e4,e5,e6⟩:=c4 hd;obtain⟨w,w1,w2⟩:=F8 c (C5 c3);have hv:=WY (e:=c.epoch) (p:=c.primary) e1 e3 e4 e5 e6;obtain rfl:w=true:=(Prod.mk.inj (Option.some.inj (w1.symm.trans hv))).1;rw[w2,an,Bg,uj (by omega) (by omega)];exact .ret (beq_iff_eq.2 e2)
 refine .br (λh0=> ?_) λ_=>h22;obtain⟨b,b1,b2⟩:=QM y oky;rw[b2,an,CQ]
 exact .br (λ_=>h22) λhf=>by have:=(Prod.mk.inj (Option.some.inj (b1.symm.trans (hs (eq_of_beq h0))))).1;rw[show b=false from hf] at this;cases this
end
end
end Go.Proofs.YtkghndikalnipaaGreat.En
