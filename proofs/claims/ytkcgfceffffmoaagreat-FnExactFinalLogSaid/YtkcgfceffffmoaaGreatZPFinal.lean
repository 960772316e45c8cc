/- FinalLog: the plain law. -/
import Derived.Test.YtkcgfceffffmoaaGreatZPCopy
import Derived.Test.YtkcgfceffffmoaaGreatZPAct
namespace Go.Proofs.YtkcgfceffffmoaaGreat.En
open Go
def Ia (x:aP) (id:Int):Int:=match x.servers[id.toNat]? with | some s=>s.config.epoch | none=>0
def MM (x:aP) (id:Int):List aB:=match x.servers[id.toNat]? with | some s=>s.log | none=> []
def jA (x:aP) (e b id:Int):Int:=if Ia x id=e then (if b < 0 then id else if (MM x id).length > (MM x b).length then id else b) else b
theorem NV (x:aP) {e b id:Int} (hb:b < 0∨(0≤b∧b < 5)) (h0:0≤id∧id < 5):jA x e b id < 0∨(0≤jA x e b id∧jA x e b id < 5):=by
 unfold jA
 split
 ·split
  ·omega
  ·split <;> omega
 ·exact hb
theorem PR (x:aP) (ok:xd 1048576 x): ∃ l b,mG x=some (l,b,())∧lq x=some (l,b,())∧l.length≤1048576:=by
 obtain⟨v,v1,v2⟩:=yT x ok
 unfold mG oV lq o1
 simp only [v1,v2,Option.bind_some,oC]
 cases v with
 | false=>
   obtain⟨c,d,d1,_⟩:=EJ x.master x.master.activated ok.2.2.1
   have d1:dW x.master=some (c,d,()):=by
    unfold dW gt
    rw [d1]
    rfl
   simp only [d1,Option.bind_some]
   exact⟨[],false,rfl,rfl,Nat.zero_le _⟩
 | true=>
   obtain⟨c,d,d1,d2,d3,d4,d5,d6⟩:=Ck x ok v1
   have vc:=MG ok v1
   simp only [d1,d2,Option.bind_some,cY]
   cases d with
   | false=>
     have hc:=d6 rfl
     subst hc
     have h1:nM (((),(),false,(-1),0,()),((x.now,x.servers,x.sides,x.master.configs,x.master.activated,x.masterUp,x.lease.epoch,x.lease.holder,x.lease.ends,x.places,()),(0,0,(),(),()),()),(([]:List Int),([]:List Int),()))=some (((),false,(-1),()),((x.now,x.servers,x.sides,x.master.configs,x.master.activated,x.masterUp,x.lease.epoch,x.lease.holder,x.lease.ends,x.places,()),()),()):=by
      refine nv ?_
      simp only [eB,iV]
      rfl
     rw [h1]
     exact⟨[],true,rfl,rfl,Nat.zero_le _⟩
   | true=>
     obtain⟨asc,_,_,_,_,_⟩:=PL d3 (d5 rfl).1
     have hm:=d3.1
     have inb: ∀ id:Int,0≤id∧id < 5→ ∃ s,x.servers[id.toNat]? =some s∧Ia x id=s.config.epoch∧MM x id=s.log:=by
      intro id hid
      have hlt:id.toNat < x.servers.length:=by rw [vc.len]; omega
      exact⟨_,List.getElem?_eq_getElem hlt,by unfold Ia; rw [List.getElem?_eq_getElem hlt],by unfold MM; rw [List.getElem?_eq_getElem hlt]⟩
     have mem: ∀ (k:Nat) (z:Int),c.replicas[k]? =some z→0≤z∧z < 5:=by
      intro k z hz
      have hk:=jK hz
      rw [List.getElem?_eq_getElem hk] at hz
      have:=(asc k hk).1
      rw [Option.some.inj hz] at this
      omega
     have fold_in: ∀ (k:Nat),(c.replicas.take k).foldl (jA x c.epoch) (-1) < 0∨(0≤(c.replicas.take k).foldl (jA x c.epoch) (-1)∧(c.replicas.take k).foldl (jA x c.epoch) (-1) < 5):=by
      intro k
      induction k with
      | zero=>simp
      | succ k ih=>
        cases hz:c.replicas[k]? with
        | none=>
          have hle:c.replicas.length≤k:=by simpa using hz
          rw [List.take_of_length_le hle] at ih
          rw [List.take_of_length_le (by omega)]
          exact ih
        | some z=>
          rw [rp hz,List.foldl_append]
          exact NV x ih (mem k z hz)
     have kS:=oQ (B:=eB) c.replicas (fun k (b:Int)=>(((),(),true,b,(k:Int),()),((x.now,x.servers,x.sides,x.master.configs,x.master.activated,x.masterUp,x.lease.epoch,x.lease.holder,x.lease.ends,x.places,()),(c.epoch,c.primary,(),(),()),()),(c.replicas,c.witnesses,()))) (fun k b=>b=(c.replicas.take k).foldl (jA x c.epoch) (-1)) (fun _ _ _=>(((),true,c.replicas.foldl (jA x c.epoch) (-1),()),((x.now,x.servers,x.sides,x.master.configs,x.master.activated,x.masterUp,x.lease.epoch,x.lease.holder,x.lease.ends,x.places,()),()),()))
      (fun b hb=>by
        simp only [eB,iV]
        rw [az,if_neg (by omega),hb,List.take_length])
      (fun k b z hz hb=>by
        have hk:=jK hz
        have c1: (k:Int) < (c.replicas.length:Int):=by omega
        have c2: (0:Int)≤(k:Int)∧(k:Int) < (c.replicas.length:Int):=by omega
        have hzz:=mem k z hz
        obtain⟨s,s1,s2,s3⟩:=inb z hzz
        have hbb:=fold_in k
        rw [←hb] at hbb
        have hn: (c.replicas.take (k+1)).foldl (jA x c.epoch) (-1)=jA x c.epoch b z:=by rw [rp hz,List.foldl_append,hb]; rfl
        refine .inl ⟨jA x c.epoch b z,?_,hn.symm,rfl⟩
        unfold jA
        rw [s2]
        simp only [eB,iV,az,cY,xe,bT,if_pos c1,if_pos c2,Int.toNat_natCast,hz,Option.bind_some,if_pos hzz.1,s1,bU hm hk]
        by_cases he:s.config.epoch=c.epoch
        ·simp only [if_pos he]
         by_cases hb0:b < 0
         ·simp only [if_pos hb0]
         ·simp only [if_neg hb0]
          obtain⟨t,t1,t2,t3⟩:=inb b (hbb.resolve_left hb0)
          rw [s3,t3]
          simp only [if_pos (show (0:Int)≤b by omega),t1,Option.bind_some]
          by_cases hgt:s.log.length > t.log.length
          ·simp only [if_pos hgt,if_pos (show (s.log.length:Int) > (t.log.length:Int) by omega)]
          ·simp only [if_neg hgt,if_neg (show ¬ (s.log.length:Int) > (t.log.length:Int) by omega)]
        ·simp only [if_neg he])
      0 (-1) (Nat.zero_le _) rfl
     have kI:=oQ (B:=fy) c.replicas (fun k (b:Int)=>(((),(),b,(),(c.replicas.length:Int),(k:Int),()),((x.now,x.servers,x.sides,x.master.configs,x.master.activated,x.masterUp,x.lease.epoch,x.lease.holder,x.lease.ends,x.places,()),(c.epoch,c.primary,(),(),()),()),(c.replicas,c.witnesses,()))) (fun k b=>b=(c.replicas.take k).foldl (jA x c.epoch) (-1)) (fun _ _ _=>(((),c.replicas.foldl (jA x c.epoch) (-1),()),((x.now,x.servers,x.sides,x.master.configs,x.master.activated,x.masterUp,x.lease.epoch,x.lease.holder,x.lease.ends,x.places,()),()),()))
      (fun b hb=>by
        simp only [fy,ko]
        rw [az,if_neg (by omega),hb,List.take_length])
      (fun k b z hz hb=>by
        have hk:=jK hz
        have c1: (k:Int) < (c.replicas.length:Int):=by omega
        have c2: (0:Int)≤(k:Int)∧(k:Int) < (c.replicas.length:Int):=by omega
        have hzz:=mem k z hz
        obtain⟨s,s1,s2,s3⟩:=inb z hzz
        have hbb:=fold_in k
        rw [←hb] at hbb
        have hn: (c.replicas.take (k+1)).foldl (jA x c.epoch) (-1)=jA x c.epoch b z:=by rw [rp hz,List.foldl_append,hb]; rfl
        refine .inl ⟨jA x c.epoch b z,?_,hn.symm,rfl⟩
        unfold jA
        rw [s2]
        simp only [fy,ko,az,xe,bT,if_pos c1,if_pos c2,Int.toNat_natCast,hz,Option.bind_some,if_pos hzz.1,s1,bU hm hk]
        by_cases he:s.config.epoch=c.epoch
        ·simp only [if_pos he]
         by_cases hb0:b < 0
         ·simp only [if_pos hb0]
         ·simp only [if_neg hb0]
          obtain⟨t,t1,t2,t3⟩:=inb b (hbb.resolve_left hb0)
          rw [s3,t3]
          simp only [if_pos (show (0:Int)≤b by omega),t1,Option.bind_some]
          by_cases hgt:s.log.length > t.log.length
          ·simp only [if_pos hgt,if_pos (show (s.log.length:Int) > (t.log.length:Int) by omega)]
          ·simp only [if_neg hgt,if_neg (show ¬ (s.log.length:Int) > (t.log.length:Int) by omega)]
        ·simp only [if_neg he])
      0 (-1) (Nat.zero_le _) rfl
     have hfin:=fold_in c.replicas.length
     rw [List.take_length] at hfin
     simp only [cY]
     rw [show nM (((),(),true,(-1),0,()),((x.now,x.servers,x.sides,x.master.configs,x.master.activated,x.masterUp,x.lease.epoch,x.lease.holder,x.lease.ends,x.places,()),(c.epoch,c.primary,(),(),()),()),(c.replicas,c.witnesses,()))=_ from kS,
      show pD (((),(),(-1),(),(c.replicas.length:Int),0,()),((x.now,x.servers,x.sides,x.master.configs,x.master.activated,x.masterUp,x.lease.epoch,x.lease.holder,x.lease.ends,x.places,()),(c.epoch,c.primary,(),(),()),()),(c.replicas,c.witnesses,()))=_ from kI]
     generalize c.replicas.foldl (jA x c.epoch) (-1)=r at hfin
     simp only [Option.bind_some,az,Bool.not_true]
     by_cases hr:r < 0
     ·simp only [if_pos hr]
      exact⟨[],false,rfl,rfl,Nat.zero_le _⟩
     ·have hr5:=hfin.resolve_left hr
      obtain⟨t,t1,_,_⟩:=inb r hr5
      have hl:=(ok.1.2 t (List.mem_of_getElem? t1)).2.1
      simp only [if_neg hr,bT,if_pos hr5.1,t1,Option.bind_some,(ML t.log hl).1,(ML t.log hl).2]
      exact⟨t.log,true,rfl,rfl,hl⟩
theorem NW (x:aP) (h:xd maxLen x):fJ x=some (true,()):=by
 unfold fJ gZ
 obtain⟨n,g1,g2⟩:=Ta x h
 simp only [g1,Option.bind_some,az]
 split
 ·rfl
 ·obtain⟨ok,ht,_⟩:=g2 (by omega)
  obtain⟨l,b,s1,s2,hl⟩:=PR x ok
  obtain⟨m1,_⟩:=Kz x 1 (by decide) (by omega) ok
  obtain⟨a1,a2,a3,a4⟩:=PQ x
  have w1:=(PP x).1
  have n1: ¬ 1+Q3 x < 0:=by omega
  have zl:bo l=(l.length:Int):=rfl
  have z:=iK l
  have n2: ¬ 1+7*bo l < 0:=by omega
  have p1:=xg l 1 (by decide) (by omega) hl
  have p2:=xh l 1 (by decide) (by omega) hl
  simp only [NQ x ok,s1,s2,Option.bind_some,EI x ok,rn l (fV hl),Bool.not_true,cI,beq_self_eq_true,m1,p1,p2,a1,a2,a3,a4,PO,bT,if_true,if_neg n1,if_neg n2]
end Go.Proofs.YtkcgfceffffmoaaGreat.En
