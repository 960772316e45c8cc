/- FinalLog: the plain law. -/
import Derived.Test.YtkcgfceffffmoaaGreatZPCopy
import Derived.Test.YtkcgfceffffmoaaGreatZPAct
namespace Go.Proofs.YtkcgfceffffmoaaGreat.En
open Go
def Im (x:aQ) (id:Int):Int:=match x.servers[id.toNat]? with | some s=>s.config.epoch | none=>0
def MS (x:aQ) (id:Int):List aA:=match x.servers[id.toNat]? with | some s=>s.log | none=> []
def jC (x:aQ) (e b id:Int):Int:=if Im x id=e then (if b < 0 then id else if (MS x id).length > (MS x b).length then id else b) else b
theorem N1 (x:aQ) {e b id:Int} (hb:b < 0∨(0≤b∧b < 5)) (h0:0≤id∧id < 5):jC x e b id < 0∨(0≤jC x e b id∧jC x e b id < 5):=by
 unfold jC
 split
 ·split
  ·omega
  ·split <;> omega
 ·exact hb
theorem P3 (x:aQ) (ok:yZ 1048576 x): ∃ l b,mJ x=some (l,b,())∧lq x=some (l,b,())∧l.length≤1048576:=by
 obtain⟨v,v1,v2⟩:=Ik x ok
 unfold mJ oW lq o2
 simp only [v1,v2,Option.bind_some,oD]
 cases v with
 | false=>
   obtain⟨c,d,d1,_⟩:=ES x.master x.master.activated ok.2.2.1
   have d1:dW x.master=some (c,d,()):=by
    unfold dW gv
    rw [d1]
    rfl
   simp only [d1,Option.bind_some]
   exact⟨[],false,rfl,rfl,Nat.zero_le _⟩
 | true=>
   obtain⟨c,d,d1,d2,d3,d4,d5,d6⟩:=Ct x ok v1
   have vc:=MP ok v1
   simp only [d1,d2,Option.bind_some,cW]
   cases d with
   | false=>
     have hc:=d6 rfl
     subst hc
     have h1:nN (((),(),false,(-1),0,()),((x.now,x.servers,x.sides,x.master.configs,x.master.activated,x.masterUp,x.lease.epoch,x.lease.holder,x.lease.ends,x.places,()),(0,0,(),(),()),()),(([]:List Int),([]:List Int),()))=some (((),false,(-1),()),((x.now,x.servers,x.sides,x.master.configs,x.master.activated,x.masterUp,x.lease.epoch,x.lease.holder,x.lease.ends,x.places,()),()),()):=by
      refine nw ?_
      simp only [eB,iX]
      rfl
     rw [h1]
     exact⟨[],true,rfl,rfl,Nat.zero_le _⟩
   | true=>
     obtain⟨asc,_,_,_,_,_⟩:=PU d3 (d5 rfl).1
     have hm:=d3.1
     have inb: ∀ id:Int,0≤id∧id < 5→ ∃ s,x.servers[id.toNat]? =some s∧Im x id=s.config.epoch∧MS x id=s.log:=by
      intro id hid
      have hlt:id.toNat < x.servers.length:=by rw [vc.len]; omega
      exact⟨_,List.getElem?_eq_getElem hlt,by unfold Im; rw [List.getElem?_eq_getElem hlt],by unfold MS; rw [List.getElem?_eq_getElem hlt]⟩
     have mem: ∀ (k:Nat) (z:Int),c.replicas[k]? =some z→0≤z∧z < 5:=by
      intro k z hz
      have hk:=mD hz
      rw [List.getElem?_eq_getElem hk] at hz
      have:=(asc k hk).1
      rw [Option.some.inj hz] at this
      omega
     have fold_in: ∀ (k:Nat),(c.replicas.take k).foldl (jC x c.epoch) (-1) < 0∨(0≤(c.replicas.take k).foldl (jC x c.epoch) (-1)∧(c.replicas.take k).foldl (jC x c.epoch) (-1) < 5):=by
      intro k
      induction k with
      | zero=>simp
      | succ k ih=>
        cases hz:c.replicas[k]? with
        | none=>
          have hle:c.replicas.length≤k:=by simpa using hz
          rw [List.take_of_length_le hle] at ih
          rw [List.take_of_length_le (by omega)]
          exact ih
        | some z=>
          rw [ru hz,List.foldl_append]
          exact N1 x ih (mem k z hz)
     have kS:=oS (B:=eB) c.replicas (fun k (b:Int)=>(((),(),true,b,(k:Int),()),((x.now,x.servers,x.sides,x.master.configs,x.master.activated,x.masterUp,x.lease.epoch,x.lease.holder,x.lease.ends,x.places,()),(c.epoch,c.primary,(),(),()),()),(c.replicas,c.witnesses,()))) (fun k b=>b=(c.replicas.take k).foldl (jC x c.epoch) (-1)) (fun _ _ _=>(((),true,c.replicas.foldl (jC x c.epoch) (-1),()),((x.now,x.servers,x.sides,x.master.configs,x.master.activated,x.masterUp,x.lease.epoch,x.lease.holder,x.lease.ends,x.places,()),()),()))
      (fun b hb=>by
        simp only [eB,iX]
        rw [aE,if_neg (by omega),hb,List.take_length])
      (fun k b z hz hb=>by
        have hk:=mD hz
        have c1: (k:Int) < (c.replicas.length:Int):=by omega
        have c2: (0:Int)≤(k:Int)∧(k:Int) < (c.replicas.length:Int):=by omega
        have hzz:=mem k z hz
        obtain⟨s,s1,s2,s3⟩:=inb z hzz
        have hbb:=fold_in k
        rw [←hb] at hbb
        have hn: (c.replicas.take (k+1)).foldl (jC x c.epoch) (-1)=jC x c.epoch b z:=by rw [ru hz,List.foldl_append,hb]; rfl
        refine .inl ⟨jC x c.epoch b z,?_,hn.symm,rfl⟩
        unfold jC
        rw [s2]
        simp only [eB,iX,aE,cW,xi,co,if_pos c1,if_pos c2,Int.toNat_natCast,hz,Option.bind_some,if_pos hzz.1,s1,b7 hm hk]
        by_cases he:s.config.epoch=c.epoch
        ·simp only [if_pos he]
         by_cases hb0:b < 0
         ·simp only [if_pos hb0]
         ·simp only [if_neg hb0]
          obtain⟨t,t1,t2,t3⟩:=inb b (hbb.resolve_left hb0)
          rw [s3,t3]
          simp only [if_pos (show (0:Int)≤b by omega),t1,Option.bind_some]
          by_cases hgt:s.log.length > t.log.length
          ·simp only [if_pos hgt,if_pos (show (s.log.length:Int) > (t.log.length:Int) by omega)]
          ·simp only [if_neg hgt,if_neg (show ¬ (s.log.length:Int) > (t.log.length:Int) by omega)]
        ·simp only [if_neg he])
      0 (-1) (Nat.zero_le _) rfl
     have kI:=oS (B:=fx) c.replicas (fun k (b:Int)=>(((),(),b,(),(c.replicas.length:Int),(k:Int),()),((x.now,x.servers,x.sides,x.master.configs,x.master.activated,x.masterUp,x.lease.epoch,x.lease.holder,x.lease.ends,x.places,()),(c.epoch,c.primary,(),(),()),()),(c.replicas,c.witnesses,()))) (fun k b=>b=(c.replicas.take k).foldl (jC x c.epoch) (-1)) (fun _ _ _=>(((),c.replicas.foldl (jC x c.epoch) (-1),()),((x.now,x.servers,x.sides,x.master.configs,x.master.activated,x.masterUp,x.lease.epoch,x.lease.holder,x.lease.ends,x.places,()),()),()))
      (fun b hb=>by
        simp only [fx,kn]
        rw [aE,if_neg (by omega),hb,List.take_length])
      (fun k b z hz hb=>by
        have hk:=mD hz
        have c1: (k:Int) < (c.replicas.length:Int):=by omega
        have c2: (0:Int)≤(k:Int)∧(k:Int) < (c.replicas.length:Int):=by omega
        have hzz:=mem k z hz
        obtain⟨s,s1,s2,s3⟩:=inb z hzz
        have hbb:=fold_in k
        rw [←hb] at hbb
        have hn: (c.replicas.take (k+1)).foldl (jC x c.epoch) (-1)=jC x c.epoch b z:=by rw [ru hz,List.foldl_append,hb]; rfl
        refine .inl ⟨jC x c.epoch b z,?_,hn.symm,rfl⟩
        unfold jC
        rw [s2]
        simp only [fx,kn,aE,xi,co,if_pos c1,if_pos c2,Int.toNat_natCast,hz,Option.bind_some,if_pos hzz.1,s1,b7 hm hk]
        by_cases he:s.config.epoch=c.epoch
        ·simp only [if_pos he]
         by_cases hb0:b < 0
         ·simp only [if_pos hb0]
         ·simp only [if_neg hb0]
          obtain⟨t,t1,t2,t3⟩:=inb b (hbb.resolve_left hb0)
          rw [s3,t3]
          simp only [if_pos (show (0:Int)≤b by omega),t1,Option.bind_some]
          by_cases hgt:s.log.length > t.log.length
          ·simp only [if_pos hgt,if_pos (show (s.log.length:Int) > (t.log.length:Int) by omega)]
          ·simp only [if_neg hgt,if_neg (show ¬ (s.log.length:Int) > (t.log.length:Int) by omega)]
        ·simp only [if_neg he])
      0 (-1) (Nat.zero_le _) rfl
     have hfin:=fold_in c.replicas.length
     rw [List.take_length] at hfin
     simp only [cW]
     rw [show nN (((),(),true,(-1),0,()),((x.now,x.servers,x.sides,x.master.configs,x.master.activated,x.masterUp,x.lease.epoch,x.lease.holder,x.lease.ends,x.places,()),(c.epoch,c.primary,(),(),()),()),(c.replicas,c.witnesses,()))=_ from kS,
      show pF (((),(),(-1),(),(c.replicas.length:Int),0,()),((x.now,x.servers,x.sides,x.master.configs,x.master.activated,x.masterUp,x.lease.epoch,x.lease.holder,x.lease.ends,x.places,()),(c.epoch,c.primary,(),(),()),()),(c.replicas,c.witnesses,()))=_ from kI]
     generalize c.replicas.foldl (jC x c.epoch) (-1)=r at hfin
     simp only [Option.bind_some,aE,Bool.not_true]
     by_cases hr:r < 0
     ·simp only [if_pos hr]
      exact⟨[],false,rfl,rfl,Nat.zero_le _⟩
     ·have hr5:=hfin.resolve_left hr
      obtain⟨t,t1,_,_⟩:=inb r hr5
      have hl:=(ok.1.2 t (List.mem_of_getElem? t1)).2.1
      simp only [if_neg hr,co,if_pos hr5.1,t1,Option.bind_some,(MR t.log hl).1,(MR t.log hl).2]
      exact⟨t.log,true,rfl,rfl,hl⟩
theorem N2 (x:aQ) (h:yZ maxLen x):fI x=some (true,()):=by
 unfold fI hO
 obtain⟨n,g1,g2⟩:=Tp x h
 simp only [g1,Option.bind_some,aE]
 split
 ·rfl
 ·obtain⟨ok,ht,_⟩:=g2 (by omega)
  obtain⟨l,b,s1,s2,hl⟩:=P3 x ok
  have m1:=SB x 1 (by decide) (by omega) ok
  obtain⟨a1,a2,a3,a4⟩:=P2 x
  have w1:=(P1 x).1
  have n1: ¬ 1+Rz x < 0:=by omega
  have zl:cM l=(l.length:Int):=rfl
  have z:=od l
  have n2: ¬ 1+7*cM l < 0:=by omega
  have p1:=xm l 1 (by decide) (by omega) hl
  have p2:=L3 l 1 (by decide) (by omega) hl
  simp only [NW x ok,s1,s2,Option.bind_some,EP x ok,rt l (f7 hl),Bool.not_true,dh,beq_self_eq_true,m1,p1,p2,a1,a2,a3,a4,PY,co,if_true,if_neg n1,if_neg n2]
end Go.Proofs.YtkcgfceffffmoaaGreat.En
