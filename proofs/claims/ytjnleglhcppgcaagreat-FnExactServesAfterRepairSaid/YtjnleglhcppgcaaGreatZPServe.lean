/- Who hears whom; the primary that serves. -/
import Derived.Test.YtjnleglhcppgcaaGreatZPSort
import Derived.Test.YtjnleglhcppgcaaGreatZPAct
import Derived.Test.YtjnleglhcppgcaaGreatZPCopy
import Derived.Test.YtjnleglhcppgcaaGreatZPAlive
namespace Go.Proofs.YtjnleglhcppgcaaGreat.En
open Go
def mq (x:eg) (a:Int):Int:=(x.sides[a.toNat]?).getD 0
theorem sn (x:eg) (ok:gX 1048576 x) (vc:VC x) {a b:Int} (ha:0<=a/\a<5) (hb:0<=b/\b<5):mC x.sides a b=some (mq x a==mq x b,())/\nT x.sides a b=some (mq x a==mq x b,()):=by
 have hl:=ff ok.2.1;have h5:=uG hl vc.sides;obtain⟨v,s1,s2⟩:=yC x.sides hl;rw[vc.sides] at s1;simp only[af,an,and_true] at s1;subst s1;have wa:je a 0 4=true:=fK.2 (by omega);have wb:je b 0 4=true:=fK.2 (by omega);have la:a.toNat<x.sides.length:=by omega
 have lb:b.toNat<x.sides.length:=by omega
 unfold mC nT mq;simp only[vc.sides,s2,kg,mG,wa,wb,ae,en,ek,if_pos ha.1,if_pos hb.1,ah la,ah lb,aP,and_self]
theorem ow {x:eg} (ok:gX 1048576 x) (vc:VC x) {a:Int} (ha:0<=a/\a<5): ∃s,x.servers[a.toNat]? =some s/\iZ 1048576 s/\eM s a=some (true,()):=by
 have hlt:a.toNat<x.servers.length:=by rw[vc.len]; omega
 refine⟨_,ah hlt,ok.1.2 _ (aV hlt),?_⟩;have:=vc.srv _ hlt
 rwa [Int.toNat_of_nonneg ha.1] at this
def FZ (x:eg) (a b:Int):Bool:=(mq x a==mq x b)&&(match x.servers[b.toNat]?,x.servers[a.toNat]? with
 |some m,some p=>m.up&&(m.epoch==p.epoch)&&decide (m.commit<=(p.log.length:Int))&&decide (m.config=p.config)
 | _,_=>false)
theorem T0 (x:eg) (ok:gX 1048576 x) (vc:VC x) {a b:Int} (ha:0<=a/\a<5) (hb:0<=b/\b<5):qV x a b=some (FZ x a b,())/\zn x a b=some (FZ x a b,()):=by obtain⟨p,p1,p2,_⟩:=ow ok vc ha;obtain⟨m,m1,m2,_⟩:=ow ok vc hb;obtain⟨h1,h2⟩:=sn x ok vc ha hb;obtain⟨e1,e2⟩:=lu m.config p.config (fY m2.1);unfold qV zn FZ;simp only[p1,m1,h1,h2,e1,e2,ek,if_pos ha.1,if_pos hb.1,ae];cases (mq x a==mq x b)<;>cases m.up<;>cases (m.epoch==p.epoch)<;>cases (decide (m.commit<=(p.log.length:Int)))<;>cases (decide (m.config=p.config))<;>exact⟨rfl,rfl⟩
theorem wR (s:eo) (id:Int) (h:iZ 1048576 s): ∃b,gT s id=some (b,())/\nR s id=some (b,()):=by obtain⟨v,v1,v2⟩:=sj s id h;obtain⟨n,n1,n2,_⟩:=Jv s.config id (fY h.1);unfold gT nR;simp only[v1,v2,n1,n2,ae];cases v<;>cases s.up<;>cases (n==1)<;>exact⟨_,rfl,rfl⟩
theorem tC (c:ej) (h:iH maxLen c): ∃l,jW c=some (l,())/\lp c=some (l,())/\l.length<=10/\(∀y∈l,0<=y/\y<5)/\SS l/\(eL c=some (true,())-> ∀y,y∈l↔y∈c.replicas\/y∈c.witnesses):=by
 obtain⟨v,v1,v2⟩:=my c h;unfold jW lp;simp only[v1,v2,ae,fi];cases v with
 |false=>exact⟨[],rfl,rfl,aI _,nofun,List.Pairwise.nil,nofun⟩
 |true=>
  obtain⟨a1,a2,_⟩:=sk h v1;have l1:=a1.len;have l2:=a2.len;obtain⟨r,r1,r2,r3,r4,r5⟩:=TZ c.replicas c.witnesses (by omega)
  have rng: ∀ {l:List Int},yB l-> ∀y∈l,0<=y/\y<5:=by intro l ha y hy;obtain⟨k,hk,rfl⟩:=aJ hy;have:=(ha k hk).1;omega
  simp only[en,r1,r2,ae];refine⟨r,rfl,rfl,by omega,fun y hy=> ?_,r3,fun _=>r4⟩;rcases (r4 y).1 hy with h|h
  ·exact rng a1 y h
  ·exact rng a2 y h
theorem yG (x:eg) (ok:gX 1048576 x): ∃n,j8 x=some (n,())/\ke x=some (n,())/\(n= -1\/0<=n):=by
 obtain⟨v,v1,v2⟩:=iu x ok;unfold j8 ke;cases v with
 |false=>
  obtain⟨c,d,d1,d2,_⟩:=yD x.master x.master.activated ok.2.2.1
  have d1:gg x.master=some (c,d,()):=by unfold gg;rw[d1];rfl
  have d2:fI x.master=some (c,d,()):=by unfold fI;rw[d2];rfl
  have g:fA x c.primary=some (false,()):=by unfold fA fq;simp only[v2,ae];rfl
  simp only[d1,d2,v1,g,ae];cases d<;>exact⟨-1,rfl,rfl, .inl rfl⟩
 |true=>
  obtain⟨c,d,d1,d2,d3,d4,d5,d6⟩:=sE x ok v1;have vc:=jc ok v1;simp only[d1,d2,v1,ae,fi,en];cases d with
  |false=>exact⟨-1,rfl,rfl, .inl rfl⟩
  |true=>
   obtain⟨asc,_,hpr,_,_,_⟩:=sk d3 (d5 rfl).1
   have hp:0<=c.primary/\c.primary<5:=by obtain⟨k,hk,e⟩:=aJ hpr;have:=(asc k hk).1;omega
   obtain⟨s,s1,s2,_⟩:=ow ok vc hp;obtain⟨b,b1,b2⟩:=wR s c.primary s2;have wp:je c.primary 0 4=true:=fK.2 (by omega)
   have g:fA x c.primary=some (b,()):=by unfold fA fq;simp only[v2,ae,mG,wp,en,ek,if_pos hp.1,s1,b2]
   simp only[en,ek,if_pos hp.1,s1,b1,g,ae];cases b with
   |false=>exact⟨-1,rfl,rfl, .inl rfl⟩
   |true=>
    simp only[en];cases he: (s.config.epoch==c.epoch) with
    |false=>exact⟨-1,rfl,rfl, .inl rfl⟩
    |true=>
     obtain⟨m,m1,m2,m3,m4,_⟩:=tC c d3;have hm:m.length<=maxLen:=by unfold maxLen; omega
     have gE:=jS (B1:=jg) (B2:=eX) m.length
      (fun k=>(((),(),(),(k:Int),()),((x.now,x.servers,x.sides,x.master.configs,x.master.activated,x.masterUp,x.lease.epoch,x.lease.holder,x.lease.ends,x.places,()),(c.epoch,c.primary,(),(),()),()),(m,c.replicas,c.witnesses,())))
      (fun k=>((m,(x,c,()),(m.length:Int),(k:Int),()),(),()))
      (.inr (((),(),()),((c.epoch,c.primary,(),(),()),()),(c.replicas,c.witnesses,()))) (.inr (((),()),(),()))
      (fun _=> .inl (((-1),(),()),((c.epoch,c.primary,(),(),()),()),(c.replicas,c.witnesses,()))) (fun k=> .inl (((k:Int),()),(),()))
      (fun _=>True) (fun _=>True)
      (by simp only[jg]; rw[ei,if_neg (by omega)])
      (by simp only[eX]; rw[ei,if_neg (by omega)])
      (fun k hk=>by
        have c1: (k:Int)< (m.length:Int):=by omega
        have c2: (0:Int)<=(k:Int)/\(k:Int)< (m.length:Int):=by omega
        have hz:=m4 m[k] (aV hk);obtain⟨h1,h2⟩:=T0 x ok vc hp hz
        simp only[jg,eX,lL,ei,fi,ek,if_pos c1,if_pos c2,if_pos c2.1,ap,ah hk,ae,
         show (⟨x.now,x.servers,x.sides,(⟨x.master.configs,x.master.activated⟩:ev),x.masterUp,(⟨x.lease.epoch,x.lease.holder,x.lease.ends⟩:fW),x.places⟩:eg)=x from rfl,h1,h2,ey hm hk]
        cases FZ x c.primary m[k] with
        |true=>exact .inl ⟨rfl,rfl,trivial⟩
        |false=>exact .inr ⟨rfl,rfl,trivial⟩)
     simp only[en,m1,m2,ae,fT,gm];rcases gE with ⟨k1,k2,_⟩| ⟨k,_,k1,k2,_⟩
     ·rw[show pg (((),(),(),0,()),((x.now,x.servers,x.sides,x.master.configs,x.master.activated,x.masterUp,x.lease.epoch,x.lease.holder,x.lease.ends,x.places,()),(c.epoch,c.primary,(),(),()),()),(m,c.replicas,c.witnesses,()))=_ from k1,
       show hU ((m,(x,c,()),(m.length:Int),0,()),(),())=_ from k2]
      simp only[ae,cn];rw[decide_eq_false (by omega)];exact⟨c.primary,rfl,rfl, .inr hp.1⟩
     ·rw[show pg (((),(),(),0,()),((x.now,x.servers,x.sides,x.master.configs,x.master.activated,x.masterUp,x.lease.epoch,x.lease.holder,x.lease.ends,x.places,()),(c.epoch,c.primary,(),(),()),()),(m,c.replicas,c.witnesses,()))=_ from k1,
       show hU ((m,(x,c,()),(m.length:Int),0,()),(),())=_ from k2]
      simp only[ae,b7];rw[decide_eq_true (by omega)];exact⟨-1,rfl,rfl, .inl rfl⟩
theorem Pt (x:eg) (ok:gX 1048576 x): ∃b,rK x=some (b,())/\rQ x=some (b,()):=by
 obtain⟨n,n1,n2,n3⟩:=yG x ok;unfold rK rQ;simp only[n1,n2,ae];rcases n3 with rfl|h
 ·exact⟨false,rfl,rfl⟩
 ·refine⟨true,?_,?_⟩
  ·rw[decide_eq_true h]
  ·have : (n== -1)=false:=by
    simp only[beq_eq_false_iff_ne,ne_eq];omega
   rw[this];rfl
end Go.Proofs.YtjnleglhcppgcaaGreat.En
