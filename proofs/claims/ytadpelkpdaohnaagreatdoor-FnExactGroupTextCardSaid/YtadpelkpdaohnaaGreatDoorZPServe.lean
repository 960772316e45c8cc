/- Who hears whom; the primary that serves. -/
import Derived.Test.YtadpelkpdaohnaaGreatDoorZPSort
import Derived.Test.YtadpelkpdaohnaaGreatDoorZPAct
import Derived.Test.YtadpelkpdaohnaaGreatDoorZPCopy
import Derived.Test.YtadpelkpdaohnaaGreatDoorZPAlive
namespace Go.Proofs.YtadpelkpdaohnaaGreatDoor.En
open Go
def oP (x:dX) (a:Int):Int:=(x.sides[a.toNat]?).getD 0
theorem GM (x:dX) (ok:o5 1048576 x) (vc:VC x) {a b:Int} (ha:0<=a/\a<5) (hb:0<=b/\b<5):mS x.sides a b=some (oP x a==oP x b,())/\m9 x.sides a b=some (oP x a==oP x b,()):=by
 have hl:=gx ok.2.1;have h5:=GL hl vc.sides;obtain⟨v,s1,s2⟩:=sa x.sides hl;rw[vc.sides] at s1;simp only[ae,al,and_true] at s1;subst s1;have wa:oO a 0 4=true:=iP.2 (by omega);have wb:oO b 0 4=true:=iP.2 (by omega);have la:a.toNat<x.sides.length:=by omega
 have lb:b.toNat<x.sides.length:=by omega
 unfold mS m9 oP;simp only[vc.sides,s2,qg,rk,wa,wb,af,ey,ea,if_pos ha.1,if_pos hb.1,ah la,ah lb,aK,and_self]
theorem GN {x:dX} (ok:o5 1048576 x) (vc:VC x) {a:Int} (ha:0<=a/\a<5): ∃s,x.servers[a.toNat]? =some s/\ne 1048576 s/\fj s a=some (true,()):=by
 have hlt:a.toNat<x.servers.length:=by rw[vc.len]; omega
 refine⟨_,ah hlt,ok.1.2 _ (bF hlt),?_⟩;have:=vc.srv _ hlt
 rwa [Int.toNat_of_nonneg ha.1] at this
def zk (x:dX) (a b:Int):Bool:=(oP x a==oP x b)&&(match x.servers[b.toNat]?,x.servers[a.toNat]? with
 |some m,some p=>m.up&&(m.epoch==p.epoch)&&decide (m.commit<=(p.log.length:Int))&&decide (m.config=p.config)
 | _,_=>false)
theorem Kv (x:dX) (ok:o5 1048576 x) (vc:VC x) {a b:Int} (ha:0<=a/\a<5) (hb:0<=b/\b<5):mT x a b=some (zk x a b,())/\rV x a b=some (zk x a b,()):=by obtain⟨p,p1,p2,_⟩:=GN ok vc ha;obtain⟨m,m1,m2,_⟩:=GN ok vc hb;obtain⟨h1,h2⟩:=GM x ok vc ha hb;obtain⟨e1,e2⟩:=iQ m.config p.config (jw m2.1);unfold mT rV zk;simp only[p1,m1,h1,h2,e1,e2,ea,if_pos ha.1,if_pos hb.1,af];cases (oP x a==oP x b)<;>cases m.up<;>cases (m.epoch==p.epoch)<;>cases (decide (m.commit<=(p.log.length:Int)))<;>cases (decide (m.config=p.config))<;>exact⟨rfl,rfl⟩
theorem CM (s:eL) (id:Int) (h:ne 1048576 s): ∃b,jo s id=some (b,())/\js s id=some (b,()):=by obtain⟨v,v1,v2⟩:=pK s id h;obtain⟨n,n1,n2,_⟩:=GG s.config id (jw h.1);unfold jo js;simp only[v1,v2,n1,n2,af];cases v<;>cases s.up<;>cases (n==1)<;>exact⟨_,rfl,rfl⟩
theorem EO (c:dM) (h:gX maxLen c): ∃l,ly c=some (l,())/\lD c=some (l,())/\l.length<=10/\(∀y∈l,0<=y/\y<5)/\SS l/\(ej c=some (true,())-> ∀y,y∈l↔y∈c.replicas\/y∈c.witnesses):=by
 obtain⟨v,v1,v2⟩:=lJ c h;unfold ly lD;simp only[v1,v2,af,i5];cases v with
 |false=>exact⟨[],rfl,rfl,ba _,nofun,List.Pairwise.nil,nofun⟩
 |true=>
  obtain⟨a1,a2,_⟩:=sd h v1;have l1:=a1.len;have l2:=a2.len;obtain⟨r,r1,r2,r3,r4,r5⟩:=Ku c.replicas c.witnesses (by omega)
  have rng: ∀ {l:List Int},Br l-> ∀y∈l,0<=y/\y<5:=by intro l ha y hy;obtain⟨k,hk,rfl⟩:=aM hy;have:=(ha k hk).1;omega
  simp only[ey,r1,r2,af];refine⟨r,rfl,rfl,by omega,fun y hy=> ?_,r3,fun _=>r4⟩;rcases (r4 y).1 hy with h|h
  ·exact rng a1 y h
  ·exact rng a2 y h
theorem vX (x:dX) (ok:o5 1048576 x): ∃n,ir x=some (n,())/\iz x=some (n,())/\(n= -1\/0<=n):=by
 obtain⟨v,v1,v2⟩:=sb x ok;unfold ir iz;cases v with
 |false=>
  obtain⟨c,d,d1,d2,_⟩:=vU x.master x.master.activated ok.2.2.1
  have d1:fy x.master=some (c,d,()):=by unfold fy;rw[d1];rfl
  have d2:fD x.master=some (c,d,()):=by unfold fD;rw[d2];rfl
  have g:hU x c.primary=some (false,()):=by unfold hU jU;simp only[v2,af];rfl
  simp only[d1,d2,v1,g,af];cases d<;>exact⟨-1,rfl,rfl, .inl rfl⟩
 |true=>
  obtain⟨c,d,d1,d2,d3,d4,d5,d6⟩:=o4 x ok v1;have vc:=zg ok v1;simp only[d1,d2,v1,af,i5,ey];cases d with
  |false=>exact⟨-1,rfl,rfl, .inl rfl⟩
  |true=>
   obtain⟨asc,_,hpr,_,_,_⟩:=sd d3 (d5 rfl).1
   have hp:0<=c.primary/\c.primary<5:=by obtain⟨k,hk,e⟩:=aM hpr;have:=(asc k hk).1;omega
   obtain⟨s,s1,s2,_⟩:=GN ok vc hp;obtain⟨b,b1,b2⟩:=CM s c.primary s2;have wp:oO c.primary 0 4=true:=iP.2 (by omega)
   have g:hU x c.primary=some (b,()):=by unfold hU jU;simp only[v2,af,rk,wp,ey,ea,if_pos hp.1,s1,b2]
   simp only[ey,ea,if_pos hp.1,s1,b1,g,af];cases b with
   |false=>exact⟨-1,rfl,rfl, .inl rfl⟩
   |true=>
    simp only[ey];cases he: (s.config.epoch==c.epoch) with
    |false=>exact⟨-1,rfl,rfl, .inl rfl⟩
    |true=>
     obtain⟨m,m1,m2,m3,m4,_⟩:=EO c d3;have hm:m.length<=maxLen:=by unfold maxLen; omega
     have fG:=kC (B1:=fJ) (B2:=dW) m.length
      (fun k=>(((),(),(),(k:Int),()),((x.now,x.servers,x.sides,x.master.configs,x.master.activated,x.masterUp,x.lease.epoch,x.lease.holder,x.lease.ends,x.places,()),(c.epoch,c.primary,(),(),()),()),(m,c.replicas,c.witnesses,())))
      (fun k=>((m,(x,c,()),(m.length:Int),(k:Int),()),(),()))
      (.inr (((),(),()),((c.epoch,c.primary,(),(),()),()),(c.replicas,c.witnesses,()))) (.inr (((),()),(),()))
      (fun _=> .inl (((-1),(),()),((c.epoch,c.primary,(),(),()),()),(c.replicas,c.witnesses,()))) (fun k=> .inl (((k:Int),()),(),()))
      (fun _=>True) (fun _=>True)
      (by simp only[fJ]; rw[dI,if_neg (by omega)])
      (by simp only[dW]; rw[dI,if_neg (by omega)])
      (fun k hk=>by
        have c1: (k:Int)< (m.length:Int):=by omega
        have c2: (0:Int)<=(k:Int)/\(k:Int)< (m.length:Int):=by omega
        have hz:=m4 m[k] (bF hk);obtain⟨h1,h2⟩:=Kv x ok vc hp hz
        simp only[fJ,dW,ig,dI,i5,ea,if_pos c1,if_pos c2,if_pos c2.1,aA,ah hk,af,
         show (⟨x.now,x.servers,x.sides,(⟨x.master.configs,x.master.activated⟩:ec),x.masterUp,(⟨x.lease.epoch,x.lease.holder,x.lease.ends⟩:mF),x.places⟩:dX)=x from rfl,h1,h2,dT hm hk]
        cases zk x c.primary m[k] with
        |true=>exact .inl ⟨rfl,rfl,trivial⟩
        |false=>exact .inr ⟨rfl,rfl,trivial⟩)
     simp only[ey,m1,m2,af,eA,eH];rcases fG with ⟨k1,k2,_⟩| ⟨k,_,k1,k2,_⟩
     ·rw[show ke (((),(),(),0,()),((x.now,x.servers,x.sides,x.master.configs,x.master.activated,x.masterUp,x.lease.epoch,x.lease.holder,x.lease.ends,x.places,()),(c.epoch,c.primary,(),(),()),()),(m,c.replicas,c.witnesses,()))=_ from k1,
       show ff ((m,(x,c,()),(m.length:Int),0,()),(),())=_ from k2]
      simp only[af,cH];rw[decide_eq_false (by omega)];exact⟨c.primary,rfl,rfl, .inr hp.1⟩
     ·rw[show ke (((),(),(),0,()),((x.now,x.servers,x.sides,x.master.configs,x.master.activated,x.masterUp,x.lease.epoch,x.lease.holder,x.lease.ends,x.places,()),(c.epoch,c.primary,(),(),()),()),(m,c.replicas,c.witnesses,()))=_ from k1,
       show ff ((m,(x,c,()),(m.length:Int),0,()),(),())=_ from k2]
      simp only[af,cU];rw[decide_eq_true (by omega)];exact⟨-1,rfl,rfl, .inl rfl⟩
theorem EP (x:dX) (ok:o5 1048576 x): ∃b,lz x=some (b,())/\lE x=some (b,()):=by
 obtain⟨n,n1,n2,n3⟩:=vX x ok;unfold lz lE;simp only[n1,n2,af];rcases n3 with rfl|h
 ·exact⟨false,rfl,rfl⟩
 ·refine⟨true,?_,?_⟩
  ·rw[decide_eq_true h]
  ·have : (n== -1)=false:=by
    simp only[beq_eq_false_iff_ne,ne_eq];omega
   rw[this];rfl
end Go.Proofs.YtadpelkpdaohnaaGreatDoor.En
