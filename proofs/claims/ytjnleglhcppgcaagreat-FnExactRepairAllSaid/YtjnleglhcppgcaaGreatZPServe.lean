/- Who hears whom; the primary that serves. -/
import Derived.Test.YtjnleglhcppgcaaGreatZPSort
import Derived.Test.YtjnleglhcppgcaaGreatZPAct
import Derived.Test.YtjnleglhcppgcaaGreatZPCopy
import Derived.Test.YtjnleglhcppgcaaGreatZPAlive
namespace Go.Proofs.YtjnleglhcppgcaaGreat.En
open Go
def lp (x:dT) (a:Int):Int:=(x.sides[a.toNat]?).getD 0
theorem qE (x:dT) (ok:iq 1048576 x) (vc:VC x) {a b:Int} (ha:0<=a/\a<5) (hb:0<=b/\b<5):lC x.sides a b=some (lp x a==lp x b,())/\mU x.sides a b=some (lp x a==lp x b,()):=by
 have hl:=eR ok.2.1;have h5:=sC hl vc.sides;obtain⟨v,s1,s2⟩:=wo x.sides hl;rw[vc.sides] at s1;simp only[af,an,and_true] at s1;subst s1;have wa:kE a 0 4=true:=fB.2 (by omega);have wb:kE b 0 4=true:=fB.2 (by omega);have la:a.toNat<x.sides.length:=by omega
 have lb:b.toNat<x.sides.length:=by omega
 unfold lC mU lp;simp only[vc.sides,s2,lV,nX,wa,wb,ae,eb,dZ,if_pos ha.1,if_pos hb.1,ah la,ah lb,aM,and_self]
theorem sD {x:dT} (ok:iq 1048576 x) (vc:VC x) {a:Int} (ha:0<=a/\a<5): ∃s,x.servers[a.toNat]? =some s/\gW 1048576 s/\ey s a=some (true,()):=by
 have hlt:a.toNat<x.servers.length:=by rw[vc.len]; omega
 refine⟨_,ah hlt,ok.1.2 _ (aW hlt),?_⟩;have:=vc.srv _ hlt
 rwa [Int.toNat_of_nonneg ha.1] at this
def Hw (x:dT) (a b:Int):Bool:=(lp x a==lp x b)&&(match x.servers[b.toNat]?,x.servers[a.toNat]? with
 |some m,some p=>m.up&&(m.epoch==p.epoch)&&decide (m.commit<=(p.log.length:Int))&&decide (m.config=p.config)
 | _,_=>false)
theorem Tc (x:dT) (ok:iq 1048576 x) (vc:VC x) {a b:Int} (ha:0<=a/\a<5) (hb:0<=b/\b<5):rM x a b=some (Hw x a b,())/\zx x a b=some (Hw x a b,()):=by obtain⟨p,p1,p2,_⟩:=sD ok vc ha;obtain⟨m,m1,m2,_⟩:=sD ok vc hb;obtain⟨h1,h2⟩:=qE x ok vc ha hb;obtain⟨e1,e2⟩:=kg m.config p.config (gQ m2.1);unfold rM zx Hw;simp only[p1,m1,h1,h2,e1,e2,dZ,if_pos ha.1,if_pos hb.1,ae];cases (lp x a==lp x b)<;>cases m.up<;>cases (m.epoch==p.epoch)<;>cases (decide (m.commit<=(p.log.length:Int)))<;>cases (decide (m.config=p.config))<;>exact⟨rfl,rfl⟩
theorem Eg (s:dX) (id:Int) (h:gW 1048576 s): ∃b,kL s id=some (b,())/\mQ s id=some (b,()):=by obtain⟨v,v1,v2⟩:=sW s id h;obtain⟨n,n1,n2,_⟩:=KX s.config id (gQ h.1);unfold kL mQ;simp only[v1,v2,n1,n2,ae];cases v<;>cases s.up<;>cases (n==1)<;>exact⟨_,rfl,rfl⟩
theorem AX (c:dW) (h:gK maxLen c): ∃l,mM c=some (l,())/\mT c=some (l,())/\l.length<=10/\(∀y∈l,0<=y/\y<5)/\SS l/\(eC c=some (true,())-> ∀y,y∈l↔y∈c.replicas\/y∈c.witnesses):=by
 obtain⟨v,v1,v2⟩:=oG c h;unfold mM mT;simp only[v1,v2,ae,fg];cases v with
 |false=>exact⟨[],rfl,rfl,aF _,nofun,List.Pairwise.nil,nofun⟩
 |true=>
  obtain⟨a1,a2,_⟩:=sA h v1;have l1:=a1.len;have l2:=a2.len;obtain⟨r,r1,r2,r3,r4,r5⟩:=QU c.replicas c.witnesses (by omega)
  have rng: ∀ {l:List Int},wm l-> ∀y∈l,0<=y/\y<5:=by intro l ha y hy;obtain⟨k,hk,rfl⟩:=aH hy;have:=(ha k hk).1;omega
  simp only[eb,r1,r2,ae];refine⟨r,rfl,rfl,by omega,fun y hy=> ?_,r3,fun _=>r4⟩;rcases (r4 y).1 hy with h|h
  ·exact rng a1 y h
  ·exact rng a2 y h
theorem Eh (x:dT) (ok:iq 1048576 x): ∃n,kN x=some (n,())/\kZ x=some (n,())/\(n= -1\/0<=n):=by
 obtain⟨v,v1,v2⟩:=iL x ok;unfold kN kZ;cases v with
 |false=>
  obtain⟨c,d,d1,d2,_⟩:=wq x.master x.master.activated ok.2.2.1
  have d1:fD x.master=some (c,d,()):=by unfold fD;rw[d1];rfl
  have d2:fi x.master=some (c,d,()):=by unfold fi;rw[d2];rfl
  have g:iJ x c.primary=some (false,()):=by unfold iJ fH;simp only[v2,ae];rfl
  simp only[d1,d2,v1,g,ae];cases d<;>exact⟨-1,rfl,rfl, .inl rfl⟩
 |true=>
  obtain⟨c,d,d1,d2,d3,d4,d5,d6⟩:=qJ x ok v1;have vc:=kh ok v1;simp only[d1,d2,v1,ae,fg,eb];cases d with
  |false=>exact⟨-1,rfl,rfl, .inl rfl⟩
  |true=>
   obtain⟨asc,_,hpr,_,_,_⟩:=sA d3 (d5 rfl).1
   have hp:0<=c.primary/\c.primary<5:=by obtain⟨k,hk,e⟩:=aH hpr;have:=(asc k hk).1;omega
   obtain⟨s,s1,s2,_⟩:=sD ok vc hp;obtain⟨b,b1,b2⟩:=Eg s c.primary s2;have wp:kE c.primary 0 4=true:=fB.2 (by omega)
   have g:iJ x c.primary=some (b,()):=by unfold iJ fH;simp only[v2,ae,nX,wp,eb,dZ,if_pos hp.1,s1,b2]
   simp only[eb,dZ,if_pos hp.1,s1,b1,g,ae];cases b with
   |false=>exact⟨-1,rfl,rfl, .inl rfl⟩
   |true=>
    simp only[eb];cases he: (s.config.epoch==c.epoch) with
    |false=>exact⟨-1,rfl,rfl, .inl rfl⟩
    |true=>
     obtain⟨m,m1,m2,m3,m4,_⟩:=AX c d3;have hm:m.length<=maxLen:=by unfold maxLen; omega
     have gA:=lA (B1:=iw) (B2:=eF) m.length
      (fun k=>(((),(),(),(k:Int),()),((x.now,x.servers,x.sides,x.master.configs,x.master.activated,x.masterUp,x.lease.epoch,x.lease.holder,x.lease.ends,x.places,()),(c.epoch,c.primary,(),(),()),()),(m,c.replicas,c.witnesses,())))
      (fun k=>((m,(x,c,()),(m.length:Int),(k:Int),()),(),()))
      (.inr (((),(),()),((c.epoch,c.primary,(),(),()),()),(c.replicas,c.witnesses,()))) (.inr (((),()),(),()))
      (fun _=> .inl (((-1),(),()),((c.epoch,c.primary,(),(),()),()),(c.replicas,c.witnesses,()))) (fun k=> .inl (((k:Int),()),(),()))
      (fun _=>True) (fun _=>True)
      (by simp only[iw]; rw[dV,if_neg (by omega)])
      (by simp only[eF]; rw[dV,if_neg (by omega)])
      (fun k hk=>by
        have c1: (k:Int)< (m.length:Int):=by omega
        have c2: (0:Int)<=(k:Int)/\(k:Int)< (m.length:Int):=by omega
        have hz:=m4 m[k] (aW hk);obtain⟨h1,h2⟩:=Tc x ok vc hp hz
        simp only[iw,eF,kD,dV,fg,dZ,if_pos c1,if_pos c2,if_pos c2.1,ao,ah hk,ae,
         show (⟨x.now,x.servers,x.sides,(⟨x.master.configs,x.master.activated⟩:dY),x.masterUp,(⟨x.lease.epoch,x.lease.holder,x.lease.ends⟩:fE),x.places⟩:dT)=x from rfl,h1,h2,ec hm hk]
        cases Hw x c.primary m[k] with
        |true=>exact .inl ⟨rfl,rfl,trivial⟩
        |false=>exact .inr ⟨rfl,rfl,trivial⟩)
     simp only[eb,m1,m2,ae,fq,fI];rcases gA with ⟨k1,k2,_⟩| ⟨k,_,k1,k2,_⟩
     ·rw[show oe (((),(),(),0,()),((x.now,x.servers,x.sides,x.master.configs,x.master.activated,x.masterUp,x.lease.epoch,x.lease.holder,x.lease.ends,x.places,()),(c.epoch,c.primary,(),(),()),()),(m,c.replicas,c.witnesses,()))=_ from k1,
       show gx ((m,(x,c,()),(m.length:Int),0,()),(),())=_ from k2]
      simp only[ae,cu];rw[decide_eq_false (by omega)];exact⟨c.primary,rfl,rfl, .inr hp.1⟩
     ·rw[show oe (((),(),(),0,()),((x.now,x.servers,x.sides,x.master.configs,x.master.activated,x.masterUp,x.lease.epoch,x.lease.holder,x.lease.ends,x.places,()),(c.epoch,c.primary,(),(),()),()),(m,c.replicas,c.witnesses,()))=_ from k1,
       show gx ((m,(x,c,()),(m.length:Int),0,()),(),())=_ from k2]
      simp only[ae,b8];rw[decide_eq_true (by omega)];exact⟨-1,rfl,rfl, .inl rfl⟩
theorem MZ (x:dT) (ok:iq 1048576 x): ∃b,qq x=some (b,())/\qw x=some (b,()):=by
 obtain⟨n,n1,n2,n3⟩:=Eh x ok;unfold qq qw;simp only[n1,n2,ae];rcases n3 with rfl|h
 ·exact⟨false,rfl,rfl⟩
 ·refine⟨true,?_,?_⟩
  ·rw[decide_eq_true h]
  ·have : (n== -1)=false:=by
    simp only[beq_eq_false_iff_ne,ne_eq];omega
   rw[this];rfl
end Go.Proofs.YtjnleglhcppgcaaGreat.En
