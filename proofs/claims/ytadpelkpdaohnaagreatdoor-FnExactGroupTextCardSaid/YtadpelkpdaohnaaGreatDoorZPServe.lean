/- Who hears whom; the primary that serves. -/
import Derived.Test.YtadpelkpdaohnaaGreatDoorZPSort
import Derived.Test.YtadpelkpdaohnaaGreatDoorZPAct
import Derived.Test.YtadpelkpdaohnaaGreatDoorZPCopy
import Derived.Test.YtadpelkpdaohnaaGreatDoorZPAlive
namespace Go.Proofs.YtadpelkpdaohnaaGreatDoor.En
open Go
def n7 (x:ek) (a:Int):Int:=(x.sides[a.toNat]?).getD 0
theorem Fr (x:ek) (ok:ol 1048576 x) (vc:VC x) {a b:Int} (ha:0<=a/\a<5) (hb:0<=b/\b<5):me x.sides a b=some (n7 x a==n7 x b,())/\fiSameSide x.sides a b=some (n7 x a==n7 x b,()):=by
 have hl:=gk ok.2.1;have h5:=Fq hl vc.sides;obtain⟨v,s1,s2⟩:=rc x.sides hl;rw[vc.sides] at s1;simp only[ae,al,and_true] at s1;subst s1;have wa:n6 a 0 4=true:=it.2 (by omega);have wb:n6 b 0 4=true:=it.2 (by omega);have la:a.toNat<x.sides.length:=by omega
 have lb:b.toNat<x.sides.length:=by omega
 unfold me fiSameSide n7;simp only[vc.sides,s2,pv,qw,wa,wb,af,eu,dX,if_pos ha.1,if_pos hb.1,ah la,ah lb,aK,and_self]
theorem Fs {x:ek} (ok:ol 1048576 x) (vc:VC x) {a:Int} (ha:0<=a/\a<5): ∃s,x.servers[a.toNat]? =some s/\mr 1048576 s/\fe s a=some (true,()):=by
 have hlt:a.toNat<x.servers.length:=by rw[vc.len]; omega
 refine⟨_,ah hlt,ok.1.2 _ (bF hlt),?_⟩;have:=vc.srv _ hlt
 rwa [Int.toNat_of_nonneg ha.1] at this
def xS (x:ek) (a b:Int):Bool:=(n7 x a==n7 x b)&&(match x.servers[b.toNat]?,x.servers[a.toNat]? with
 |some m,some p=>m.up&&(m.epoch==p.epoch)&&decide (m.commit<=(p.log.length:Int))&&decide (m.config=p.config)
 | _,_=>false)
theorem I7 (x:ek) (ok:ol 1048576 x) (vc:VC x) {a b:Int} (ha:0<=a/\a<5) (hb:0<=b/\b<5):mf x a b=some (xS x a b,())/\fihears x a b=some (xS x a b,()):=by obtain⟨p,p1,p2,_⟩:=Fs ok vc ha;obtain⟨m,m1,m2,_⟩:=Fs ok vc hb;obtain⟨h1,h2⟩:=Fr x ok vc ha hb;obtain⟨e1,e2⟩:=iu m.config p.config (jd m2.1);unfold mf fihears xS;simp only[p1,m1,h1,h2,e1,e2,dX,if_pos ha.1,if_pos hb.1,af];cases (n7 x a==n7 x b)<;>cases m.up<;>cases (m.epoch==p.epoch)<;>cases (decide (m.commit<=(p.log.length:Int)))<;>cases (decide (m.config=p.config))<;>exact⟨rfl,rfl⟩
theorem Br (s:eK) (id:Int) (h:mr 1048576 s): ∃b,i9 s id=some (b,())/\fiIsPrimaryNow s id=some (b,()):=by obtain⟨v,v1,v2⟩:=o2 s id h;obtain⟨n,n1,n2,_⟩:=Fl s.config id (jd h.1);unfold i9 fiIsPrimaryNow;simp only[v1,v2,n1,n2,af];cases v<;>cases s.up<;>cases (n==1)<;>exact⟨_,rfl,rfl⟩
theorem Dn (c:dM) (h:gE maxLen c): ∃l,kQ c=some (l,())/\fiMembersOf c=some (l,())/\l.length<=10/\(∀y∈l,0<=y/\y<5)/\SS l/\(eg c=some (true,())-> ∀y,y∈l↔y∈c.replicas\/y∈c.witnesses):=by
 obtain⟨v,v1,v2⟩:=kZ c h;unfold kQ fiMembersOf;simp only[v1,v2,af,iJ];cases v with
 |false=>exact⟨[],rfl,rfl,bi _,nofun,List.Pairwise.nil,nofun⟩
 |true=>
  obtain⟨a1,a2,_⟩:=rf h v1;have l1:=a1.len;have l2:=a2.len;obtain⟨r,r1,r2,r3,r4,r5⟩:=I6 c.replicas c.witnesses (by omega)
  have rng: ∀ {l:List Int},z6 l-> ∀y∈l,0<=y/\y<5:=by intro l ha y hy;obtain⟨k,hk,rfl⟩:=aM hy;have:=(ha k hk).1;omega
  simp only[eu,r1,r2,af];refine⟨r,rfl,rfl,by omega,fun y hy=> ?_,r3,fun _=>r4⟩;rcases (r4 y).1 hy with h|h
  ·exact rng a1 y h
  ·exact rng a2 y h
theorem uY (x:ek) (ok:ol 1048576 x): ∃n,gX x=some (n,())/\fiServingPrimary x=some (n,())/\(n= -1\/0<=n):=by
 obtain⟨v,v1,v2⟩:=rd x ok;unfold gX fiServingPrimary;cases v with
 |false=>
  obtain⟨c,d,d1,d2,_⟩:=uV x.master x.master.activated ok.2.2.1
  have d1:fr x.master=some (c,d,()):=by unfold fr;rw[d1];rfl
  have d2:fM x.master=some (c,d,()):=by unfold fM;rw[d2];rfl
  have g:fiisPrimaryAt x c.primary=some (false,()):=by unfold fiisPrimaryAt fihasServerAt;simp only[v2,af];rfl
  simp only[d1,d2,v1,g,af];cases d<;>exact⟨-1,rfl,rfl, .inl rfl⟩
 |true=>
  obtain⟨c,d,d1,d2,d3,d4,d5,d6⟩:=oh x ok v1;have vc:=xO ok v1;simp only[d1,d2,v1,af,iJ,eu];cases d with
  |false=>exact⟨-1,rfl,rfl, .inl rfl⟩
  |true=>
   obtain⟨asc,_,hpr,_,_,_⟩:=rf d3 (d5 rfl).1
   have hp:0<=c.primary/\c.primary<5:=by obtain⟨k,hk,e⟩:=aM hpr;have:=(asc k hk).1;omega
   obtain⟨s,s1,s2,_⟩:=Fs ok vc hp;obtain⟨b,b1,b2⟩:=Br s c.primary s2;have wp:n6 c.primary 0 4=true:=it.2 (by omega)
   have g:fiisPrimaryAt x c.primary=some (b,()):=by unfold fiisPrimaryAt fihasServerAt;simp only[v2,af,qw,wp,eu,dX,if_pos hp.1,s1,b2]
   simp only[eu,dX,if_pos hp.1,s1,b1,g,af];cases b with
   |false=>exact⟨-1,rfl,rfl, .inl rfl⟩
   |true=>
    simp only[eu];cases he: (s.config.epoch==c.epoch) with
    |false=>exact⟨-1,rfl,rfl, .inl rfl⟩
    |true=>
     obtain⟨m,m1,m2,m3,m4,_⟩:=Dn c d3;have hm:m.length<=maxLen:=by unfold maxLen; omega
     have fx:=jY (B1:=fB) (B2:=bslIndexFunc_int_iServingPrimary_c1_2) m.length
      (fun k=>(((),(),(),(k:Int),()),((x.now,x.servers,x.sides,x.master.configs,x.master.activated,x.masterUp,x.lease.epoch,x.lease.holder,x.lease.ends,x.places,()),(c.epoch,c.primary,(),(),()),()),(m,c.replicas,c.witnesses,())))
      (fun k=>((m,(x,c,()),(m.length:Int),(k:Int),()),(),()))
      (.inr (((),(),()),((c.epoch,c.primary,(),(),()),()),(c.replicas,c.witnesses,()))) (.inr (((),()),(),()))
      (fun _=> .inl (((-1),(),()),((c.epoch,c.primary,(),(),()),()),(c.replicas,c.witnesses,()))) (fun k=> .inl (((k:Int),()),(),()))
      (fun _=>True) (fun _=>True)
      (by simp only[fB]; rw[dH,if_neg (by omega)])
      (by simp only[bslIndexFunc_int_iServingPrimary_c1_2]; rw[dH,if_neg (by omega)])
      (fun k hk=>by
        have c1: (k:Int)< (m.length:Int):=by omega
        have c2: (0:Int)<=(k:Int)/\(k:Int)< (m.length:Int):=by omega
        have hz:=m4 m[k] (bF hk);obtain⟨h1,h2⟩:=I7 x ok vc hp hz
        simp only[fB,bslIndexFunc_int_iServingPrimary_c1_2,fiServingPrimary_c1,dH,iJ,dX,if_pos c1,if_pos c2,if_pos c2.1,aA,ah hk,af,
         show (⟨x.now,x.servers,x.sides,(⟨x.master.configs,x.master.activated⟩:dZ),x.masterUp,(⟨x.lease.epoch,x.lease.holder,x.lease.ends⟩:l4),x.places⟩:ek)=x from rfl,h1,h2,dS hm hk]
        cases xS x c.primary m[k] with
        |true=>exact .inl ⟨rfl,rfl,trivial⟩
        |false=>exact .inr ⟨rfl,rfl,trivial⟩)
     simp only[eu,m1,m2,af,fslContainsFunc_int_iServingPrimary_c1,fslIndexFunc_int_iServingPrimary_c1];rcases fx with ⟨k1,k2,_⟩| ⟨k,_,k1,k2,_⟩
     ·rw[show jH (((),(),(),0,()),((x.now,x.servers,x.sides,x.master.configs,x.master.activated,x.masterUp,x.lease.epoch,x.lease.holder,x.lease.ends,x.places,()),(c.epoch,c.primary,(),(),()),()),(m,c.replicas,c.witnesses,()))=_ from k1,
       show lslIndexFunc_int_iServingPrimary_c1_2 ((m,(x,c,()),(m.length:Int),0,()),(),())=_ from k2]
      simp only[af,cH];rw[decide_eq_false (by omega)];exact⟨c.primary,rfl,rfl, .inr hp.1⟩
     ·rw[show jH (((),(),(),0,()),((x.now,x.servers,x.sides,x.master.configs,x.master.activated,x.masterUp,x.lease.epoch,x.lease.holder,x.lease.ends,x.places,()),(c.epoch,c.primary,(),(),()),()),(m,c.replicas,c.witnesses,()))=_ from k1,
       show lslIndexFunc_int_iServingPrimary_c1_2 ((m,(x,c,()),(m.length:Int),0,()),(),())=_ from k2]
      simp only[af,cU];rw[decide_eq_true (by omega)];exact⟨-1,rfl,rfl, .inl rfl⟩
theorem Dp (x:ek) (ok:ol 1048576 x): ∃b,kR x=some (b,())/\fiIsServing x=some (b,()):=by
 obtain⟨n,n1,n2,n3⟩:=uY x ok;unfold kR fiIsServing;simp only[n1,n2,af];rcases n3 with rfl|h
 ·exact⟨false,rfl,rfl⟩
 ·refine⟨true,?_,?_⟩
  ·rw[decide_eq_true h]
  ·have : (n== -1)=false:=by
    simp only[beq_eq_false_iff_ne,ne_eq];omega
   rw[this];rfl
end Go.Proofs.YtadpelkpdaohnaaGreatDoor.En
