/- CanRepair: the plain law. -/
import Derived.Test.YtkcgfceffffmoaaGreatZPAlive
namespace Go.Proofs.YtkcgfceffffmoaaGreat.En
open Go
theorem HA {σ ε:Type} {B:σ→Option (σ⊕ε)} (n:Nat) (m:Nat→σ) (t:ε) (f:Nat→ε) (p:Nat→Bool) (h0:B (m n)=some (.inr t)) (h: ∀ k,k < n→B (m k)=some (if p k=true then .inr (f k) else .inl (m (k+1)))):
  ((List.range n).any p=false∧j4 B (m 0)=some t)∨((List.range n).any p=true∧ ∃ k,k < n∧j4 B (m 0)=some (f k)):=by
 rcases JY n m t f p h0 h with ⟨h1,h2⟩ | ⟨k,h1,h2,h3,_⟩
 ·left
  refine⟨?_,h1⟩
  rw [List.any_eq_false]
  intro k hk
  rw [h2 k (List.mem_range.1 hk)]
  simp
 ·right
  exact⟨List.any_eq_true.2 ⟨k,List.mem_range.2 h1,h3⟩,k,h1,h2⟩
theorem FH {l:List Int} (p:Int→Bool): (List.range l.length).any (fun k=>match l[k]? with | some x=>p x | none=>false)=l.any p:=by
 rw [Bool.eq_iff_iff,List.any_eq_true,List.any_eq_true]
 constructor
 ·rintro⟨k,hk,h⟩
  have hk:=List.mem_range.1 hk
  rw [List.getElem?_eq_getElem hk] at h
  exact⟨_,List.getElem_mem hk,h⟩
 ·rintro⟨x,hx,h⟩
  obtain⟨k,hk,rfl⟩:=List.getElem_of_mem hx
  refine⟨k,List.mem_range.2 hk,?_⟩
  rw [List.getElem?_eq_getElem hk]
  exact h
def uf (l:List bk) (k:Nat):Bool:=match l[k]? with | some p=>decide (p.load < p.capacity) | none=>false
theorem Nj {l:List bk} (hl:l.length≤maxLen) (hv:fb l=some (true,())):l.length=5:=by
 obtain⟨b,h1,h2⟩:=uH l hl
 rw [hv] at h1
 simp only [Option.some.injEq,Prod.mk.injEq,and_true] at h1
 subst h1
 unfold ib lp at h2
 cases h: ((l.length:Int)==5) with
 | false=>rw [h] at h2; cases h2
 | true=>simp only [beq_iff_eq] at h; omega
theorem L6 (l:List bk) (hl:l.length≤maxLen) (hv:fb l=some (true,())) (k:Nat) (hk:k < 5):oh l (k:Int)=some (uf l k,())∧ou l (k:Int)=some (uf l k,()):=by
 have h5:=Nj hl hv
 obtain⟨b,h1,h2⟩:=uH l hl
 rw [hv] at h1
 simp only [Option.some.injEq,Prod.mk.injEq,and_true] at h1
 subst h1
 have hw:rK (k:Int) 0 4=true:=ke.2 (by omega)
 have c2: (0:Int)≤(k:Int):=by omega
 have hlt:k < l.length:=by omega
 unfold oh p6 ou qe uf
 simp only [hv,h2,uP,wn,hw,Option.bind_some,cA,cU,if_pos c2,Int.toNat_natCast,List.getElem?_eq_getElem hlt]
 exact⟨trivial,trivial⟩
theorem Rv (x:ax) (hl:x.servers.length=5) (hs:x.sides.length=5) (k:Nat) (hk:k < 5):mE x (k:Int)=some (eZ x k,()):=by
 have c2: (0:Int)≤(k:Int):=by omega
 have h1:k < x.servers.length:=by omega
 have h2:k < x.sides.length:=by omega
 unfold mE o4 eZ Hz sr
 simp only [cU,if_pos c2,Int.toNat_natCast,List.getElem?_eq_getElem h1,List.getElem?_eq_getElem h2,Option.bind_some]
 cases x.servers[k].up <;> rfl
theorem Ln:jA=some ([0,1,2,3,4],()):=by
 unfold jA l9
 have :nM (((),0,()),(()),(([]:List Int),()))=some (((),()),(()),([0,1,2,3,4],())):=by
  refine (oK (by rfl)).trans ?_
  refine (oK (by rfl)).trans ?_
  refine (oK (by rfl)).trans ?_
  refine (oK (by rfl)).trans ?_
  refine (oK (by rfl)).trans ?_
  exact nj (by rfl)
 rw [this]
 rfl
def sV (x:ax) (c:ai) (b:Bool) (k:Nat):Bool:=eZ x k&&(if b=true then decide ((k:Int)∈c.replicas)&&(match x.servers[k]? with | some s=>s.config.epoch==c.epoch | none=>false) else uf x.places k)
theorem Nk (x:ax) (ok:zn 1048576 x) (vc:VC x) (c:ai) (hc:c.replicas.length≤maxLen) (b:Bool):bu [0,1,2,3,4] x b c=some ((List.range 5).any (sV x c b),()):=by
 have hsl:=J2 (fo ok.2.1) vc.sides
 have one: ∀ k:Nat,k < 5→gy (k:Int) x b c=some (sV x c b k,()):=by
  intro k hk
  have c2: (0:Int)≤(k:Int):=by omega
  have hlt:k < x.servers.length:=by rw [vc.len]; exact hk
  unfold gy jP sV
  simp only [Rv x vc.len hsl k hk,Option.bind_some,nW]
  cases eZ x k with
  | false=>rfl
  | true=>
    simp only [cA,Bool.true_and]
    cases b with
    | false=>simp only [cT,(L6 x.places (fo ok.2.2.2) vc.places k hk).2,Option.bind_some]; rfl
    | true=>
      simp only [cA,(jk c.replicas (k:Int) hc).2,Option.bind_some,cU,if_pos c2,Int.toNat_natCast,List.getElem?_eq_getElem hlt,if_true]
      cases decide ((k:Int)∈c.replicas) <;> rfl
 have cd:=HA (B:=aO) 5 (fun k=>(([0,1,2,3,4],(x,b,c,()),5,(k:Int),()),(),())) (.inr (((),()),(),())) (fun k=> .inl (((k:Int),()),(),())) (sV x c b)
  (by simp only [aO,bP]; rw [aR,if_neg (by decide)])
  (fun k hk=>by
    have c1: (k:Int) < 5:=by omega
    have c2: (0:Int)≤(k:Int):=by omega
    have hg: ([0,1,2,3,4]:List Int)[k]? =some (k:Int):=by
     match k,hk with
     | 0,_=>rfl
     | 1,_=>rfl
     | 2,_=>rfl
     | 3,_=>rfl
     | 4,_=>rfl
    simp only [aO,bP,aR,cU,if_pos c1,if_pos c2,Int.toNat_natCast,hg,Option.bind_some,one k hk,cc (n:=5) (by decide) hk]
    cases sV x c b k <;> rfl)
 unfold bu cr ch cN
 rcases cd with ⟨h1,h2⟩ | ⟨h1,k,hk,h2⟩
 ·rw [show cF (([0,1,2,3,4],(x,b,c,()),(([0,1,2,3,4]:List Int).length:Int),0,()),(),())=_ from h2,h1]
  rfl
 ·rw [show cF (([0,1,2,3,4],(x,b,c,()),(([0,1,2,3,4]:List Int).length:Int),0,()),(),())=_ from h2,h1]
  simp only [Option.bind_some,Sum.elim_inl]
  rw [decide_eq_true (by omega)]
theorem Sf (x:ax) (ok:zn 1048576 x) (vc:VC x):ol x (q7 (eZ x) 5)=some ((q7 (eZ x) 5).any (fun id=>uf x.places id.toNat),()):=by
 have hm: (q7 (eZ x) 5).length≤maxLen:=Nat.le_trans (Bz _ _) (by decide)
 generalize hA:q7 (eZ x) 5=A at*
 have cd:=HA (B:=fM) A.length (fun k=>((A,(),(k:Int),()),((x.now,x.servers,x.sides,x.master.configs,x.master.activated,x.masterUp,x.lease.epoch,x.lease.holder,x.lease.ends,x.places,()),()),())) (.inr (((),()),(),())) (fun _=> .inl ((true,()),(),())) (fun k=>match A[k]? with | some id=>uf x.places id.toNat | none=>false)
  (by simp only [fM,lg]; rw [aR,if_neg (by omega)])
  (fun k hk=>by
    have c1: (k:Int) < (A.length:Int):=by omega
    have c2: (0:Int)≤(k:Int):=by omega
    obtain⟨j,j1,_,j2⟩:=(qI (eZ x) 5 A[k]).1 (by rw [hA]; exact List.getElem_mem hk)
    simp only [fM,lg,aR,cU,if_pos c1,if_pos c2,Int.toNat_natCast,List.getElem?_eq_getElem hk,Option.bind_some,j2,(L6 x.places (fo ok.2.2.2) vc.places j j1).1,cc hm hk]
    cases uf x.places j <;> rfl)
 rw [FH] at cd
 unfold ol p7
 rcases cd with ⟨h1,h2⟩ | ⟨h1,k,hk,h2⟩
 ·rw [show oX ((A,(),0,()),((x.now,x.servers,x.sides,x.master.configs,x.master.activated,x.masterUp,x.lease.epoch,x.lease.holder,x.lease.ends,x.places,()),()),())=_ from h2,h1]
  rfl
 ·rw [show oX ((A,(),0,()),((x.now,x.servers,x.sides,x.master.configs,x.master.activated,x.masterUp,x.lease.epoch,x.lease.holder,x.lease.ends,x.places,()),()),())=_ from h2,h1]
  rfl
theorem Pb (x:fC):wK (mt x) (mD x):=by
 obtain⟨b,h1,h2⟩:=Hu x
 unfold mt oU mD o3
 simp only [h1,h2,Option.bind_some]
 cases b with
 | false=>
   simp only [Bool.not_false,cA]
   cases ((x.epoch==0)&&((x.holder==0)&&((x.ends==0)&&true))) <;> exact⟨_,rfl,rfl⟩
 | true=>
   simp only [Bool.not_true,cT]
   cases he:x.ends==0 with
   | true=>
     cases hz: ((x.epoch==0)&&((x.holder==0)&&(true&&true))) with
     | true=>exact⟨_,rfl,rfl⟩
     | false=>
       exfalso
       unfold lj oo at h2
       rw [he,hz] at h2
       simp only [cT,wn,Option.bind_some] at h2
       have hw:rK x.ends 1 1049=false:=by
        rw [Bool.eq_false_iff]
        intro hw
        have:=ke.1 hw
        simp only [beq_iff_eq] at he
        omega
       rw [hw] at h2
       revert h2
       cases rK x.epoch 1 20 <;> cases rK x.holder 0 4 <;> intro h2 <;> cases h2
   | false=>
     have hz: ((x.epoch==0)&&((x.holder==0)&&(false&&true)))=false:=by cases x.epoch==0 <;> cases x.holder==0 <;> rfl
     rw [hz]
     exact⟨_,rfl,rfl⟩
theorem Nl (x:ax) (ok:zn 1048576 x):wK (kG x) (kW x):=by
 have ex: (⟨x.now,x.servers,x.sides,⟨x.master.configs,x.master.activated⟩,x.masterUp,⟨x.lease.epoch,x.lease.holder,x.lease.ends⟩,x.places⟩:ax)=x:=rfl
 obtain⟨v,v1,v2⟩:=Hw x ok
 unfold kG nD kW nP jZ kU
 simp only [v1,v2,Option.bind_some,nW]
 cases v with
 | false=>exact⟨_,rfl,rfl⟩
 | true=>
   have vc:=Hy ok v1
   obtain⟨c,d,d1,d2,d3,d4,d5,d6⟩:=Bi x ok v1
   obtain⟨t,t1,t2⟩:=Pb x.lease
   have hup:=vc.up
   have w1:IntKind.wrap .i64 (x.masterUp*2)=x.masterUp*2:=mi (by omega) (by omega)
   have w2:IntKind.wrap .i64 (2*x.masterUp)=2*x.masterUp:=mi (by omega) (by omega)
   simp only [cA,w1,w2,t1,t2,Option.bind_some,d1,d2,Ln,Se x ok v1,aR]
   by_cases c1:x.masterUp*2≤3
   ·have c1': ¬ (2*x.masterUp > 3):=by omega
    simp only [if_pos c1,if_neg c1']
    exact⟨_,rfl,rfl⟩
   have c1':2*x.masterUp > 3:=by omega
   simp only [if_neg c1,if_pos c1']
   by_cases c2: (x.master.configs.length:Int) > 18
   ·simp only [if_pos c2]
    exact⟨_,rfl,rfl⟩
   simp only [if_neg c2]
   by_cases c3:t > 999
   ·simp only [if_pos c3]
    exact⟨_,rfl,rfl⟩
   simp only [if_neg c3,Nk x ok vc c d3.1 d,Option.bind_some,zp]
   refine⟨(List.range 5).any (sV x c d),?_,rfl⟩
   obtain⟨_,_,f3⟩:=Hx (oy ok.2.2.1) vc.ml
   by_cases c4:x.master.activated=0
   ·rw [if_pos c4]
    have hd:d=false:=by rw [d4]; exact decide_eq_false (by omega)
    subst hd
    have e: (q7 (eZ x) 5).any (fun id=>uf x.places id.toNat)=(List.range 5).any (sV x c false):=by
     rw [Bool.eq_iff_iff,List.any_eq_true,List.any_eq_true]
     constructor
     ·rintro⟨id,h1,h2⟩
      obtain⟨k,k1,k2,rfl⟩:=(qI _ _ _).1 h1
      refine⟨k,List.mem_range.2 k1,?_⟩
      rw [Int.toNat_natCast] at h2
      unfold sV
      rw [k2,if_neg (by simp),h2]
      rfl
     ·rintro⟨k,h1,h2⟩
      unfold sV at h2
      rw [if_neg (by simp),Bool.and_eq_true] at h2
      exact⟨(k:Int),(qI _ _ _).2 ⟨k,List.mem_range.1 h1,h2.1,rfl⟩,by rw [Int.toNat_natCast]; exact h2.2⟩
    rw [Sf x ok vc,e]
    simp only [Option.bind_some]
    split
    ·rfl
    ·rename_i hn
     have :q7 (eZ x) 5= [] :=List.eq_nil_of_length_eq_zero (by omega)
     rw [this] at e
     rw [←e]
     rfl
   ·rw [if_neg c4]
    have hd:d=true:=by rw [d4]; exact decide_eq_true (by omega)
    subst hd
    obtain⟨asc,_,_,_,_,_⟩:=Pa d3 (d5 rfl).1
    have hcm:c.replicas.length≤maxLen:=d3.1
    have hA: (q7 (eZ x) 5).length≤maxLen:=Nat.le_trans (Bz _ _) (by decide)
    have cd:=HA (B:=ej) c.replicas.length (fun k=>(((),(),(),(k:Int),()),((x.now,x.servers,x.sides,x.master.configs,x.master.activated,x.masterUp,x.lease.epoch,x.lease.holder,x.lease.ends,x.places,()),(c.epoch,c.primary,(),(),()),()),(q7 (eZ x) 5,c.replicas,c.witnesses,()))) (.inr (((),()),(),())) (fun _=> .inl ((true,()),(),()))
     (fun k=>match c.replicas[k]? with | some id=>decide (id∈q7 (eZ x) 5)&&(match x.servers[id.toNat]? with | some s=>s.config.epoch==c.epoch | none=>false) | none=>false)
     (by simp only [ej,i6]; rw [aR,if_neg (by omega)])
     (fun k hk=>by
       have c1: (k:Int) < (c.replicas.length:Int):=by omega
       have c2: (0:Int)≤(k:Int)∧(k:Int) < (c.replicas.length:Int):=by omega
       have hid:=(asc k hk).1
       have c4: (0:Int)≤c.replicas[k] :=hid.1
       have hlt:c.replicas[k].toNat < x.servers.length:=by rw [vc.len]; omega
       simp only [ej,i6,aR,cU,if_pos c1,if_pos c2,Int.toNat_natCast,List.getElem?_eq_getElem hk,Option.bind_some,if_pos c4,List.getElem?_eq_getElem hlt,(jk (q7 (eZ x) 5) c.replicas[k] hA).1,cc hcm hk]
       by_cases hmem:c.replicas[k] ∈q7 (eZ x) 5
       ·simp only [if_pos hmem,decide_eq_true hmem,Bool.true_and]
        cases (x.servers[c.replicas[k].toNat].config.epoch==c.epoch) <;> rfl
       ·simp only [if_neg hmem,decide_eq_false hmem,Bool.false_and]
        rfl)
    rw [FH (fun id=>decide (id∈q7 (eZ x) 5)&&(match x.servers[id.toNat]? with | some s=>s.config.epoch==c.epoch | none=>false))] at cd
    have e: (c.replicas.any fun id=>decide (id∈q7 (eZ x) 5)&&(match x.servers[id.toNat]? with | some s=>s.config.epoch==c.epoch | none=>false))=(List.range 5).any (sV x c true):=by
     rw [Bool.eq_iff_iff,List.any_eq_true,List.any_eq_true]
     constructor
     ·rintro⟨id,h1,h2⟩
      rw [Bool.and_eq_true,decide_eq_true_eq] at h2
      obtain⟨k,k1,k2,rfl⟩:=(qI _ _ _).1 h2.1
      have h3:=h2.2
      rw [Int.toNat_natCast] at h3
      refine⟨k,List.mem_range.2 k1,?_⟩
      unfold sV
      rw [k2,if_pos rfl,decide_eq_true h1,h3]
      rfl
     ·rintro⟨k,h1,h2⟩
      unfold sV at h2
      rw [if_pos rfl,Bool.and_eq_true,Bool.and_eq_true,decide_eq_true_eq] at h2
      refine⟨(k:Int),h2.2.1,?_⟩
      rw [decide_eq_true ((qI _ _ _).2 ⟨k,List.mem_range.1 h1,h2.1,rfl⟩),Int.toNat_natCast]
      exact h2.2.2
    rw [e] at cd
    rcases cd with ⟨h1,h2⟩ | ⟨h1,k,hk,h2⟩
    ·rw [show lQ (((),(),(),0,()),((x.now,x.servers,x.sides,x.master.configs,x.master.activated,x.masterUp,x.lease.epoch,x.lease.holder,x.lease.ends,x.places,()),(c.epoch,c.primary,(),(),()),()),(q7 (eZ x) 5,c.replicas,c.witnesses,()))=_ from h2,h1]
     rfl
    ·rw [show lQ (((),(),(),0,()),((x.now,x.servers,x.sides,x.master.configs,x.master.activated,x.masterUp,x.lease.epoch,x.lease.holder,x.lease.ends,x.places,()),(c.epoch,c.primary,(),(),()),()),(q7 (eZ x) 5,c.replicas,c.witnesses,()))=_ from h2,h1]
     rfl
theorem Ql (x:ax) (h:zn maxLen x):eU x=some (true,()):=by
 unfold eU fD
 obtain⟨n,g1,g2,g3⟩:=Na x 1048576 h (by decide) (Int.le_refl _)
 simp only [g1,Option.bind_some,aR]
 split
 ·rfl
 ·have ok:=g3 (by omega)
  obtain⟨b,v1,v2⟩:=Nl x ok
  simp only [Nd x ok,v1,v2,Option.bind_some,DI x ok,Bool.not_true,cT,beq_self_eq_true]
end Go.Proofs.YtkcgfceffffmoaaGreat.En
