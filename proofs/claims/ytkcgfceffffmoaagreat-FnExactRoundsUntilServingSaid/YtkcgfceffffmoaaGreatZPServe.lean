/- Who hears whom; the primary that serves. -/
import Derived.Test.YtkcgfceffffmoaaGreatZPSort
import Derived.Test.YtkcgfceffffmoaaGreatZPAct
import Derived.Test.YtkcgfceffffmoaaGreatZPCopy
import Derived.Test.YtkcgfceffffmoaaGreatZPAlive
namespace Go.Proofs.YtkcgfceffffmoaaGreat.En
open Go
def tY (x:dV) (a:Int):Int:=(x.sides[a.toNat]?).getD 0
theorem Eu (x:dV) (ok:pg 1048576 x) (vc:VC x) {a b:Int} (ha:0<=a/\a < 5) (hb:0<=b/\b < 5):qe x.sides a b=some (tY x a==tY x b,())/\sd x.sides a b=some (tY x a==tY x b,()):=by
 have hl:=gJ ok.2.1;have h5:=Gy hl vc.sides;obtain⟨v,s1,s2⟩:=MJ x.sides hl;rw [vc.sides] at s1;simp only [af,aq,and_true] at s1;subst s1;have wa:sP a 0 4=true:=jD.2 (by omega);have wb:sP b 0 4=true:=jD.2 (by omega);have la:a.toNat < x.sides.length:=by omega
 have lb:b.toNat < x.sides.length:=by omega
 unfold qe GS sd G9 tY;simp only [vc.sides,s2,vk,z6,wa,wb,ae,ew,ez,if_pos ha.1,if_pos hb.1,ai la,ai lb,aR,and_self]
theorem Gz {x:dV} (ok:pg 1048576 x) (vc:VC x) {a:Int} (ha:0<=a/\a < 5): ∃ s,x.servers[a.toNat]? =some s/\nX 1048576 s/\fw s a=some (true,()):=by
 have hlt:a.toNat < x.servers.length:=by rw [vc.len]; omega
 refine⟨_,ai hlt,ok.1.2 _ (bc hlt),?_⟩;have:=vc.srv _ hlt
 rwa [Int.toNat_of_nonneg ha.1] at this
def agp (x:dV) (a b:Int):Bool:=(tY x a==tY x b)&&(match x.servers[b.toNat]?,x.servers[a.toNat]? with
 | some m,some p=>m.up&&(m.epoch==p.epoch)&&decide (m.commit<=(p.log.length:Int))&&decide (m.config=p.config)
 | _,_=>false)
theorem asK (x:dV) (ok:pg 1048576 x) (vc:VC x) {a b:Int} (ha:0<=a/\a < 5) (hb:0<=b/\b < 5):AO x a b=some (agp x a b,())/\Jy x a b=some (agp x a b,()):=by
 obtain⟨p,p1,p2,_⟩:=Gz ok vc ha;obtain⟨m,m1,m2,_⟩:=Gz ok vc hb;obtain⟨h1,h2⟩:=Eu x ok vc ha hb;obtain⟨e1,e2⟩:=rT m.config p.config (mr m2.1);unfold AO GU Jy R6 agp;simp only [p1,m1,h1,h2,e1,e2,ez,if_pos ha.1,if_pos hb.1,ae];cases (tY x a==tY x b) <;> cases m.up <;> cases (m.epoch==p.epoch) <;> cases (decide (m.commit<=(p.log.length:Int))) <;> cases (decide (m.config=p.config)) <;> exact⟨rfl,rfl⟩
theorem aa6 (s:eb) (id:Int) (h:nX 1048576 s): ∃ b,oh s id=some (b,())/\qo s id=some (b,()):=by
 obtain⟨v,v1,v2⟩:=Hl s id h;obtain⟨n,n1,n2,_⟩:=akF s.config id (mr h.1);unfold oh Ae qo Au;simp only [v1,v2,n1,n2,ae];cases v <;> cases s.up <;> cases (n==1) <;> exact⟨_,rfl,rfl⟩
theorem Ve (c:dW) (h:nm maxLen c): ∃ l,rq c=some (l,())/\rG c=some (l,())/\l.length<=10/\(∀ y∈l,0<=y/\y < 5)/\SS l/\(fI c=some (true,())-> ∀ y,y∈l↔y∈c.replicas\/y∈c.witnesses):=by
 obtain⟨v,v1,v2⟩:=Bs c h;unfold rq Fc rG Fp;simp only [v1,v2,ae,iq];cases v with
 | false=>exact⟨[],rfl,rfl,aK _,nofun,List.Pairwise.nil,nofun⟩
 | true=>
   obtain⟨a1,a2,_⟩:=Gw h v1;have l1:=a1.len;have l2:=a2.len;obtain⟨r,r1,r2,r3,r4,r5⟩:=aqS c.replicas c.witnesses (by omega)
   have rng: ∀ {l:List Int},MH l-> ∀ y∈l,0<=y/\y < 5:=by
    intro l ha y hy;obtain⟨k,hk,rfl⟩:=aM hy;have:=(ha k hk).1;omega
   simp only [ew,r1,r2,ae];refine⟨r,rfl,rfl,by omega,fun y hy=> ?_,r3,fun _=>r4⟩;rcases (r4 y).1 hy with h | h
   ·exact rng a1 y h
   ·exact rng a2 y h
theorem aa7 (x:dV) (ok:pg 1048576 x): ∃ n,nK x=some (n,())/\nR x=some (n,())/\(n= -1\/0<=n):=by
 obtain⟨v,v1,v2⟩:=od x ok;unfold nK wi nR wr;cases v with
 | false=>
   obtain⟨c,d,d1,d2,_⟩:=ML x.master x.master.activated ok.2.2.1
   have d1:iw x.master=some (c,d,()):=by
    unfold iw s6;rw [d1];rfl
   have d2:gx x.master=some (c,d,()):=by
    unfold gx tE;rw [d2];rfl
   have g:ma x c.primary=some (false,()):=by
    unfold ma tI iR ox;simp only [v2,ae];rfl
   simp only [d1,d2,v1,g,ae];cases d <;> exact⟨-1,rfl,rfl, .inl rfl⟩
 | true=>
   obtain⟨c,d,d1,d2,d3,d4,d5,d6⟩:=EI x ok v1;have vc:=rU ok v1;simp only [d1,d2,v1,ae,iq,ew];cases d with
   | false=>exact⟨-1,rfl,rfl, .inl rfl⟩
   | true=>
     obtain⟨asc,_,hpr,_,_,_⟩:=Gw d3 (d5 rfl).1
     have hp:0<=c.primary/\c.primary < 5:=by
      obtain⟨k,hk,e⟩:=aM hpr;have:=(asc k hk).1;omega
     obtain⟨s,s1,s2,_⟩:=Gz ok vc hp;obtain⟨b,b1,b2⟩:=aa6 s c.primary s2;have wp:sP c.primary 0 4=true:=jD.2 (by omega)
     have g:ma x c.primary=some (b,()):=by
      unfold ma tI iR ox;simp only [v2,ae,z6,wp,ew,ez,if_pos hp.1,s1,b2]
     simp only [ew,ez,if_pos hp.1,s1,b1,g,ae];cases b with
     | false=>exact⟨-1,rfl,rfl, .inl rfl⟩
     | true=>
       simp only [ew];cases he: (s.config.epoch==c.epoch) with
       | false=>exact⟨-1,rfl,rfl, .inl rfl⟩
       | true=>
         obtain⟨m,m1,m2,m3,m4,_⟩:=Ve c d3;have hm:m.length<=maxLen:=by unfold maxLen; omega
         have fC:=ug (B1:=jd) (B2:=eS) m.length
          (fun k=>(((),(),(),(k:Int),()),((x.now,x.servers,x.sides,x.master.configs,x.master.activated,x.masterUp,x.lease.epoch,x.lease.holder,x.lease.ends,x.places,()),(c.epoch,c.primary,(),(),()),()),(m,c.replicas,c.witnesses,())))
          (fun k=>((m,(x,c,()),(m.length:Int),(k:Int),()),(),()))
          (.inr (((),(),()),((c.epoch,c.primary,(),(),()),()),(c.replicas,c.witnesses,()))) (.inr (((),()),(),()))
          (fun _=> .inl (((-1),(),()),((c.epoch,c.primary,(),(),()),()),(c.replicas,c.witnesses,()))) (fun k=> .inl (((k:Int),()),(),()))
          (fun _=>True) (fun _=>True)
          (by simp only [jd,pa,sJ]; rw [ec,if_neg (by omega)])
          (by simp only [eS,gF,i7]; rw [ec,if_neg (by omega)])
          (fun k hk=>by
            have c1: (k:Int) < (m.length:Int):=by omega
            have c2: (0:Int)<=(k:Int)/\(k:Int) < (m.length:Int):=by omega
            have hz:=m4 m[k] (bc hk);obtain⟨h1,h2⟩:=asK x ok vc hp hz
            simp only [jd,pa,sJ,eS,gF,i7,nr,rH,ec,iq,ez,if_pos c1,if_pos c2,if_pos c2.1,aw,ai hk,ae,
             show (⟨x.now,x.servers,x.sides,(⟨x.master.configs,x.master.activated⟩:ei),x.masterUp,(⟨x.lease.epoch,x.lease.holder,x.lease.ends⟩:ir),x.places⟩:dV)=x from rfl,h1,h2,eB hm hk]
            cases agp x c.primary m[k] with
            | true=>exact .inl ⟨rfl,rfl,trivial⟩
            | false=>exact .inr ⟨rfl,rfl,trivial⟩)
         simp only [ew,m1,m2,ae,fW,iU,gp,jB];rcases fC with ⟨k1,k2,_⟩ | ⟨k,_,k1,k2,_⟩
         ·rw [show qg (((),(),(),0,()),((x.now,x.servers,x.sides,x.master.configs,x.master.activated,x.masterUp,x.lease.epoch,x.lease.holder,x.lease.ends,x.places,()),(c.epoch,c.primary,(),(),()),()),(m,c.replicas,c.witnesses,()))=_ from k1,
           show hQ ((m,(x,c,()),(m.length:Int),0,()),(),())=_ from k2]
          simp only [ae,aB];rw [decide_eq_false (by omega)];exact⟨c.primary,rfl,rfl, .inr hp.1⟩
         ·rw [show qg (((),(),(),0,()),((x.now,x.servers,x.sides,x.master.configs,x.master.activated,x.masterUp,x.lease.epoch,x.lease.holder,x.lease.ends,x.places,()),(c.epoch,c.primary,(),(),()),()),(m,c.replicas,c.witnesses,()))=_ from k1,
           show hQ ((m,(x,c,()),(m.length:Int),0,()),(),())=_ from k2]
          simp only [ae,aA];rw [decide_eq_true (by omega)];exact⟨-1,rfl,rfl, .inl rfl⟩
theorem Vf (x:dV) (ok:pg 1048576 x): ∃ b,rr x=some (b,())/\rI x=some (b,()):=by
 obtain⟨n,n1,n2,n3⟩:=aa7 x ok;unfold rr Fd rI Fq;simp only [n1,n2,ae];rcases n3 with rfl | h
 ·exact⟨false,rfl,rfl⟩
 ·refine⟨true,?_,?_⟩
  ·rw [decide_eq_true h]
  ·have : (n== -1)=false:=by
    simp only [beq_eq_false_iff_ne,ne_eq];omega
   rw [this];rfl
end Go.Proofs.YtkcgfceffffmoaaGreat.En
