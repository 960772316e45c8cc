/- Servers that are alive. -/
import Derived.Test.YtkcgfceffffmoaaGreatZPAct
namespace Go.Proofs.YtkcgfceffffmoaaGreat.En
open Go
def q7 (p:Nat→Bool) (n:Nat):List Int:=((List.range n).filter p).map fun (k:Nat)=>(k:Int)
theorem J1 (p:Nat→Bool) (n:Nat):q7 p (n+1)=q7 p n++if p n=true then [(n:Int)] else [] :=by
 unfold q7
 rw [List.range_succ,List.filter_append,List.map_append]
 congr 1
 cases h:p n <;> simp [h]
theorem qI (p:Nat→Bool) (n:Nat) (x:Int):x∈q7 p n↔ ∃ k:Nat,k < n∧p k=true∧x=(k:Int):=by
 unfold q7
 simp only [List.mem_map,List.mem_filter,List.mem_range]
 constructor
 ·rintro⟨k,⟨h1,h2⟩,rfl⟩; exact⟨k,h1,h2,rfl⟩
 ·rintro⟨k,h1,h2,rfl⟩; exact⟨k,⟨h1,h2⟩,rfl⟩
theorem Bz (p:Nat→Bool) (n:Nat): (q7 p n).length≤n:=by
 unfold q7
 rw [List.length_map]
 exact Nat.le_trans (List.length_filter_le _ _) (by simp)
theorem Qj (p:Nat→Bool) {n:Nat} (hn:n≤5):JW (q7 p n):=by
 have hp: (q7 p n).Pairwise (· < ·):=by
  unfold q7
  rw [List.pairwise_map]
  exact (List.Pairwise.filter _ List.pairwise_lt_range).imp fun h=>by omega
 intro k hk
 have hm: (q7 p n)[k] ∈q7 p n:=List.getElem_mem hk
 obtain⟨j,h1,_,h2⟩:=(qI p n _).1 hm
 exact⟨⟨by omega,by omega⟩,fun h0=>List.pairwise_iff_getElem.1 hp (k - 1) k (by omega) hk (by omega)⟩
theorem Qk (p q:Nat→Bool) (n:Nat): (q7 p n).filter (fun x=>decide (x∈q7 q n))=q7 (fun k=>p k&&q k) n:=by
 unfold q7
 rw [List.filter_map,List.filter_filter]
 congr 1
 apply List.filter_congr
 intro k hk
 have hk:=List.mem_range.1 hk
 have : (((fun x=>decide (x∈q7 q n))∘fun (k:Nat)=>(k:Int)) k)=q k:=by
  show decide ((k:Int)∈q7 q n)=q k
  cases hq:q k with
  | true=>exact decide_eq_true ((qI q n _).2 ⟨k,hk,hq,rfl⟩)
  | false=>
    refine decide_eq_false fun h=> ?_
    obtain⟨j,_,h1,h2⟩:=(qI q n _).1 h
    have :j=k:=by omega
    subst this
    rw [hq] at h1
    cases h1
 have e:decide ((k:Int)∈List.map (fun (k:Nat)=>(k:Int)) (List.filter q (List.range n)))=q k:=this
 simp only [Function.comp,e,Bool.and_comm]
def Hz (x:ax) (k:Nat):Bool:=match x.servers[k]? with | some s=>s.up | none=>false
def sr (l:List Int) (k:Nat):Bool:=match l[k]? with | some s=>s==0 | none=>false
theorem QE {p:Nat→Bool} {k:Nat} (h:k≤1000) (y:Int): (q7 p k++ [y]).length*8≤2 ^ 40:=by
 have:=Bz p k
 refine pE ?_
 rw [List.length_append,List.length_singleton]
 omega
theorem Ni (x:ax) (hl:x.servers.length=5) (hv:cg x=some (true,())):kD x=some (q7 (Hz x) 5,()):=by
 have ex: (⟨x.now,x.servers,x.sides,⟨x.master.configs,x.master.activated⟩,x.masterUp,⟨x.lease.epoch,x.lease.holder,x.lease.ends⟩,x.places⟩:ax)=x:=rfl
 have cd:=rn (B:=ei) x.servers (fun k (b:List Int)=>(((),(),(k:Int),()),((x.now,x.servers,x.sides,x.master.configs,x.master.activated,x.masterUp,x.lease.epoch,x.lease.holder,x.lease.ends,x.places,()),()),(b,()))) (fun k b=>b=q7 (Hz x) k) (fun _ _ _=>(((),()),(),(q7 (Hz x) 5,())))
  (fun b hb=>by
    simp only [ei,i4]
    rw [aR,if_neg (by omega),hb,hl])
  (fun k b s hs hb=>by
    have hk:=yn hs
    have c1: (k:Int) < (x.servers.length:Int):=by omega
    have c2: (0:Int)≤(k:Int):=by omega
    have hup:Hz x k=s.up:=by unfold Hz; rw [hs]
    subst hb
    simp only [ei,i4,aR,cU,if_pos c1,if_pos c2,Int.toNat_natCast,hs,Option.bind_some,ex,hv,cA,cc (n:=5) (by decide) (by omega:k < 5),if_pos (QE (p:=Hz x) (k:=k) (by omega) (k:Int))]
    refine .inl ⟨q7 (Hz x) (k+1),?_,rfl,trivial⟩
    rw [J1,hup]
    cases s.up
    ·simp
     rfl
    ·rfl)
  0 [] (Nat.zero_le _) rfl
 unfold kD nB
 rw [show oD (((),(),0,()),((x.now,x.servers,x.sides,x.master.configs,x.master.activated,x.masterUp,x.lease.epoch,x.lease.holder,x.lease.ends,x.places,()),()),([],()))=_ from cd]
 rfl
theorem J2 {l:List Int} (hl:l.length≤maxLen) (hv:gb l=some (true,())):l.length=5:=by
 obtain⟨b,h1,h2⟩:=DJ l hl
 rw [hv] at h1
 simp only [Option.some.injEq,Prod.mk.injEq,and_true] at h1
 subst h1
 unfold kI mT at h2
 cases h: ((l.length:Int)==5) with
 | false=>rw [h] at h2; cases h2
 | true=>simp only [beq_iff_eq] at h; omega
theorem Lm (l:List Int) (hl:l.length=5) (hv:gb l=some (true,())):jy l=some (q7 (sr l) 5,()):=by
 have cd:=rn (B:=dN) l (fun k (b:List Int)=>((l,(),(k:Int),()),(),(b,()))) (fun k b=>b=q7 (sr l) k) (fun _ _ _=>(((),()),(),(q7 (sr l) 5,())))
  (fun b hb=>by
    simp only [dN,gJ]
    rw [aR,if_neg (by omega),hb,hl])
  (fun k b s hs hb=>by
    have hk:=yn hs
    have c1: (k:Int) < (l.length:Int):=by omega
    have c2: (0:Int)≤(k:Int):=by omega
    have hup:sr l k=(s==0):=by unfold sr; rw [hs]
    subst hb
    simp only [dN,gJ,aR,cU,if_pos c1,if_pos c2,Int.toNat_natCast,hs,Option.bind_some,hv,cA,cc (n:=5) (by decide) (by omega:k < 5),if_pos (QE (p:=sr l) (k:=k) (by omega) (k:Int))]
    refine .inl ⟨q7 (sr l) (k+1),?_,rfl,trivial⟩
    rw [J1,hup]
    cases (s==0)
    ·simp
     rfl
    ·rfl)
  0 [] (Nat.zero_le _) rfl
 unfold jy lO
 rw [show nC ((l,(),0,()),(),([],()))=_ from cd]
 rfl
def eZ (x:ax) (k:Nat):Bool:=Hz x k&&sr x.sides k
theorem Se (x:ax) (ok:zn 1048576 x) (hv:cg x=some (true,())):mu x=some (q7 (eZ x) 5,()):=by
 have vc:=Hy ok hv
 have hsl:=J2 (fo ok.2.1) vc.sides
 unfold mu oV
 rw [Ni x vc.len hv,Lm x.sides hsl vc.sides]
 simp only [Option.bind_some]
 rw [Ht _ _ (Qj _ (Nat.le_refl 5)) (Nat.le_trans (Bz _ _) (by decide)),Qk]
 rfl
end Go.Proofs.YtkcgfceffffmoaaGreat.En
