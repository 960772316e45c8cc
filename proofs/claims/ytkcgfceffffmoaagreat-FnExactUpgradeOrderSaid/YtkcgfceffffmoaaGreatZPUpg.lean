/- UpgradeOrder: the plain law. -/
import Derived.Test.YtkcgfceffffmoaaGreatZPDel
import Derived.Test.YtkcgfceffffmoaaGreatZPAct
import Derived.Test.YtkcgfceffffmoaaGreatZPMk
namespace Go.Proofs.YtkcgfceffffmoaaGreat.En
open Go
theorem RL (a b:List Int) (ha:Ms a) (hb:b.length≤maxLen):fO a b=some (a.filter fun x=> !decide (x∈b),()):=by
 have hl:=ha.len
 have hm:a.length≤maxLen:=by unfold maxLen; omega
 have hp:=ha.pair
 have b7:=nC (B:=cQ) a (fun k (out:List Int)=>((a,b,(),(k:Int),()),(),(out,()))) (fun k out=>out=(a.take k).filter fun x=> !decide (x∈b)) (fun k r out=>(((),()),(),(out++r.filter fun x=> !decide (x∈b),())))
  (fun out hb=>by
    simp only [cQ,fw]
    rw [aA,if_neg (by omega)]
    simp)
  (fun k out x hx hout=>by
    have hk:=nv hx
    have c1: (k:Int) < (a.length:Int):=by omega
    have c2: (0:Int)≤(k:Int):=by omega
    have hxe:a[k] =x:=by rw [List.getElem?_eq_getElem hk] at hx; exact Option.some.inj hx
    simp only [cQ,fw,oC,aA,bR,if_pos c1,if_pos c2,Int.toNat_natCast,hx,Option.bind_some,(lD b x hb).1,bD hm hk]
    by_cases hin:x∈b
    ·simp only [if_pos hin]
     refine .inl ⟨out,rfl,?_,?_⟩
     ·rw [hout,List.take_add_one,hx,List.filter_append]
      simp [hin]
     ·simp [hin]
    ·have hlt: ∀ y∈out,y < x:=by
      intro y hy
      rw [hout,List.mem_filter] at hy
      obtain⟨i,hi,he⟩:=List.getElem_of_mem hy.1
      have hi':i < k:=by simp at hi; omega
      rw [List.getElem_take] at he
      rw [←he,←hxe]
      exact List.pairwise_iff_getElem.1 hp i k (by omega) hk hi'
     have hol:out.length≤1000:=by
      rw [hout]
      have:=List.length_filter_le (fun x=> !decide (x∈b)) (a.take k)
      simp only [List.length_take] at this
      omega
     simp only [if_neg hin,OD out x hol hlt,Option.bind_some]
     refine .inl ⟨out++ [x],rfl,?_,?_⟩
     ·rw [hout,List.take_add_one,hx,List.filter_append]
      simp [hin]
     ·simp [hin])
  0 [] (Nat.zero_le _) rfl
 unfold fO jr
 rw [show kM ((a,b,(),0,()),(),([],()))=_ from b7]
 rfl
def yk (x:aG) (id:Int):Int:=match x.servers[id.toNat]? with | some s=>s.version | none=>0
theorem Uy (x:aG) (a:List Int) (hs:x.servers.length=5) (ha:a.length≤1000) (hp: ∀ i∈a,0≤i∧i < 5):bq a x=some (a.filter fun i=>yk x i==1,()):=by
 have h:=Ux (F:=fun a=>bq a x) (B2:=be) (B5:=aW) (x,()) (fun i=>ek i x) (fun i=> !(yk x i==1)) (fun _=>rfl) (fun _ _ _=>rfl) (fun _ _ _=>rfl) a ha (fun i hi=>by
  have hi:=hp i hi
  have hlt:i.toNat < x.servers.length:=by omega
  unfold ek i6 yk
  simp only [bR,if_pos hi.1,List.getElem?_eq_getElem hlt,Option.bind_some])
 simpa using h
theorem Kg (x:aG) (ok:A4 1048576 x): ∃ l,iR x=some (l,())∧gv x=some (l,())∧l.length≤1000:=by
 obtain⟨v,v1,v2⟩:=Kb x ok
 unfold iR kZ gv lm
 simp only [v1,v2,Option.bind_some,oC]
 cases v with
 | false=>
   obtain⟨c,d,d1,d2,_⟩:=GC x.master x.master.activated ok.2.2.1
   have d1:eH x.master=some (c,d,()):=by
    unfold eH iz
    rw [d1]
    rfl
   have d2:eJ x.master=some (c,d,()):=by
    unfold eJ iB
    rw [d2]
    rfl
   simp only [d1,d2,Option.bind_some]
   cases d <;> exact⟨[],rfl,rfl,Nat.zero_le _⟩
 | true=>
   obtain⟨c,d,d1,d2,d3,d4,d5,d6⟩:=Ef x ok v1
   have vc:=OH ok v1
   simp only [d1,d2,Option.bind_some,dv]
   cases d with
   | false=>exact⟨[],rfl,rfl,Nat.zero_le _⟩
   | true=>
     obtain⟨asc,asw,hpr,_,_,_⟩:=RC d3 (d5 rfl).1
     have l1:=asc.len
     have l2:=asw.len
     have r1: (c.replicas.filter fun z=> !decide (z∈ [c.primary])).length≤5:=by
      have:=List.length_filter_le (fun z=> !decide (z∈ [c.primary])) c.replicas
      omega
     have one: ([c.primary]:List Int).length≤maxLen:=by simp [maxLen]
     have inr: ∀ z∈c.replicas,0≤z∧z < 5:=by
      intro z hz
      obtain⟨k,hk,rfl⟩:=List.getElem_of_mem hz
      have:=(asc k hk).1
      omega
     have inw: ∀ z∈c.witnesses,0≤z∧z < 5:=by
      intro z hz
      obtain⟨k,hk,rfl⟩:=List.getElem_of_mem hz
      have:=(asw k hk).1
      omega
     simp only [dv,RL c.replicas [c.primary] asc one,GB c.replicas [c.primary] asc one,Option.bind_some,List.nil_append]
     generalize hR: (c.replicas.filter fun z=> !decide (z∈ [c.primary]))=R at r1
     have inR: ∀ z∈R,0≤z∧z < 5:=by
      intro z hz
      rw [←hR] at hz
      exact inr z (List.mem_filter.1 hz).1
     have hcat:=PR [c.witnesses,R,[c.primary]] (by simp) (by
      intro a ha
      simp only [List.mem_cons,List.not_mem_nil,or_false] at ha
      rcases ha with rfl | rfl | rfl
      ·omega
      ·omega
      ·simp)
     have hfl: [c.witnesses,R,[c.primary]].flatten=c.witnesses++R++ [c.primary] :=by simp
     rw [hfl] at hcat
     have inA: ∀ z∈c.witnesses++R++ [c.primary],0≤z∧z < 5:=by
      intro z hz
      simp only [List.mem_append,List.mem_singleton] at hz
      rcases hz with (h | h) | rfl
      ·exact inw z h
      ·exact inR z h
      ·exact inr _ hpr
     have lA: (c.witnesses++R++ [c.primary]).length≤11:=by
      simp only [List.length_append,List.length_singleton]
      omega
     have lB: (c.witnesses++R).length≤10:=by
      simp only [List.length_append]
      omega
     simp only [hcat,Option.bind_some,bR,if_pos (oe (show c.witnesses.length≤1048576 by omega)),if_pos (oe (show (c.witnesses++R).length≤1048576 by omega)),if_pos (oe (show (c.witnesses++R++ [c.primary]).length≤1048576 by omega))]
     generalize c.witnesses++R++ [c.primary] =A at inA lA
     have hm:A.length≤maxLen:=by unfold maxLen; omega
     have kS:=nC (B:=dH) A (fun k (out:List Int)=>(((),(),(),(k:Int),()),((x.now,x.servers,x.sides,x.master.configs,x.master.activated,x.masterUp,x.lease.epoch,x.lease.holder,x.lease.ends,x.places,()),()),(out,A,()))) (fun k out=>out=(A.take k).filter fun i=>yk x i==1) (fun _ _ _=>(((),()),(),(A.filter fun i=>yk x i==1,())))
      (fun out hb=>by
        simp only [dH,gA]
        rw [aA,if_neg (by omega),hb,List.take_length])
      (fun k out z hz hb=>by
        have hk:=nv hz
        have c1: (k:Int) < (A.length:Int):=by omega
        have c2: (0:Int)≤(k:Int)∧(k:Int) < (A.length:Int):=by omega
        have hzz:=inA z (List.mem_of_getElem? hz)
        have hlt:z.toNat < x.servers.length:=by rw [vc.len]; omega
        have hol:out.length≤11:=by
         rw [hb]
         have:=List.length_filter_le (fun i=>yk x i==1) (A.take k)
         simp only [List.length_take] at this
         omega
        have hver:yk x z=x.servers[z.toNat].version:=by
         unfold yk
         rw [List.getElem?_eq_getElem hlt]
        have h40: (out++ [z]).length*8≤2 ^ 40:=oe (by simp; omega)
        simp only [dH,gA,aA,Cp,bR,if_pos c1,if_pos c2,Int.toNat_natCast,hz,Option.bind_some,if_pos hzz.1,List.getElem?_eq_getElem hlt,bD hm hk,if_pos h40]
        by_cases he:x.servers[z.toNat].version=1
        ·simp only [if_pos he]
         refine .inl ⟨out++ [z],rfl,?_,trivial⟩
         rw [hb,n9 hz,List.filter_append]
         simp [hver,he]
        ·simp only [if_neg he]
         refine .inl ⟨out,rfl,?_,trivial⟩
         rw [hb,n9 hz,List.filter_append]
         simp [hver,he])
      0 [] (Nat.zero_le _) rfl
     rw [show mZ (((),(),(),0,()),((x.now,x.servers,x.sides,x.master.configs,x.master.activated,x.masterUp,x.lease.epoch,x.lease.holder,x.lease.ends,x.places,()),()),(([]:List Int),A,()))=_ from kS,Uy x A vc.len (by omega) inA]
     refine⟨A.filter fun i=>yk x i==1,rfl,rfl,?_⟩
     have:=List.length_filter_le (fun i=>yk x i==1) A
     omega
theorem Ct (x:aG) (h:A4 maxLen x):en x=some (true,()):=by
 unfold en fv
 obtain⟨n,g1,g2⟩:=Vh x h
 simp only [g1,Option.bind_some,aA]
 split
 ·rfl
 ·obtain⟨ok,ht,_⟩:=g2 (by omega)
  obtain⟨l,s1,s2,hl⟩:=Kg x ok
  have m1:=Uw x 1 (by decide) (by omega) ok
  obtain⟨a1,a2,a3,a4⟩:=RK x
  have w1:=(RJ x).1
  have n1: ¬ 1+Tx x < 0:=by omega
  have zl:db l=(l.length:Int):=rfl
  have n2: ¬ 1+db l < 0:=by omega
  have p1:=t9 l 1 (by decide) (by omega) (by omega)
  have p2:=RG l 1 (by decide) (by omega) (by omega)
  have hlm:l.length≤maxLen:=by unfold maxLen; omega
  simp only [PM x ok,s1,s2,Option.bind_some,GA x ok,sK l hlm,Bool.not_true,dz,beq_self_eq_true,m1,p1,p2,a1,a2,a3,a4,Kf,bR,if_true,if_neg n1,if_neg n2]
end Go.Proofs.YtkcgfceffffmoaaGreat.En
