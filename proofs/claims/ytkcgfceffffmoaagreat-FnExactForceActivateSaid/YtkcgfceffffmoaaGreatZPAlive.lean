/- Servers that are alive. -/
import Derived.Test.YtkcgfceffffmoaaGreatZPAct
namespace Go.Proofs.YtkcgfceffffmoaaGreat.En
open Go
def Ai (p:Nat→Bool) (n:Nat):List Int:=((List.range n).filter p).map fun (k:Nat)=>(k:Int)
theorem NV (p:Nat→Bool) (n:Nat):Ai p (n+1)=Ai p n++if p n=true then [(n:Int)] else [] :=by
 unfold Ai
 rw [List.range_succ,List.filter_append,List.map_append]
 congr 1
 cases h:p n <;> simp [h]
theorem GZ (p:Nat→Bool) (n:Nat) (x:Int):x∈Ai p n↔ ∃ k:Nat,k < n∧p k=true∧x=(k:Int):=by
 unfold Ai
 simp only [List.mem_map,List.mem_filter,List.mem_range]
 constructor
 ·rintro⟨k,⟨h1,h2⟩,rfl⟩; exact⟨k,h1,h2,rfl⟩
 ·rintro⟨k,h1,h2,rfl⟩; exact⟨k,⟨h1,h2⟩,rfl⟩
theorem Li (p:Nat→Bool) (n:Nat): (Ai p n).length≤n:=by
 unfold Ai
 rw [List.length_map]
 exact Nat.le_trans (List.length_filter_le _ _) (by simp)
theorem abF (p:Nat→Bool) {n:Nat} (hn:n≤5):UM (Ai p n):=by
 have hp: (Ai p n).Pairwise (· < ·):=by
  unfold Ai
  rw [List.pairwise_map]
  exact (List.Pairwise.filter _ List.pairwise_lt_range).imp fun h=>by omega
 intro k hk
 have hm: (Ai p n)[k] ∈Ai p n:=List.getElem_mem hk
 obtain⟨j,h1,_,h2⟩:=(GZ p n _).1 hm
 exact⟨⟨by omega,by omega⟩,fun h0=>List.pairwise_iff_getElem.1 hp (k - 1) k (by omega) hk (by omega)⟩
theorem abG (p q:Nat→Bool) (n:Nat): (Ai p n).filter (fun x=>decide (x∈Ai q n))=Ai (fun k=>p k&&q k) n:=by
 unfold Ai
 rw [List.filter_map,List.filter_filter]
 congr 1
 apply List.filter_congr
 intro k hk
 have hk:=List.mem_range.1 hk
 have : (((fun x=>decide (x∈Ai q n))∘fun (k:Nat)=>(k:Int)) k)=q k:=by
  show decide ((k:Int)∈Ai q n)=q k
  cases hq:q k with
  | true=>exact decide_eq_true ((GZ q n _).2 ⟨k,hk,hq,rfl⟩)
  | false=>
    refine decide_eq_false fun h=> ?_
    obtain⟨j,_,h1,h2⟩:=(GZ q n _).1 h
    have :j=k:=by omega
    subst this
    rw [hq] at h1
    cases h1
 have e:decide ((k:Int)∈List.map (fun (k:Nat)=>(k:Int)) (List.filter q (List.range n)))=q k:=this
 simp only [Function.comp,e,Bool.and_comm]
def Sf (x:aj) (k:Nat):Bool:=match x.servers[k]? with | some s=>s.up | none=>false
def zo (l:List Int) (k:Nat):Bool:=match l[k]? with | some s=>s==0 | none=>false
theorem ab3 {p:Nat→Bool} {k:Nat} (h:k≤1000) (y:Int): (Ai p k++ [y]).length*8≤2 ^ 40:=by
 have:=Li p k
 refine va ?_
 rw [List.length_append,List.length_singleton]
 omega
theorem Yt (x:aj) (hl:x.servers.length=5) (hv:bn x=some (true,())):ln x=some (Ai (Sf x) 5,()):=by
 have ex: (⟨x.now,x.servers,x.sides,⟨x.master.configs,x.master.activated⟩,x.masterUp,⟨x.lease.epoch,x.lease.holder,x.lease.ends⟩,x.places⟩:aj)=x:=rfl
 have bU:=li (B:=fx) x.servers (fun k (b:List Int)=>(((),(),(k:Int),()),((x.now,x.servers,x.sides,x.master.configs,x.master.activated,x.masterUp,x.lease.epoch,x.lease.holder,x.lease.ends,x.places,()),()),(b,()))) (fun k b=>b=Ai (Sf x) k) (fun _ _ _=>(((),()),(),(Ai (Sf x) 5,())))
  (fun b hb=>by
    simp only [fx,kw]
    rw [aw,if_neg (by omega),hb,hl])
  (fun k b s hs hb=>by
    have hk:=jE hs
    have c1: (k:Int) < (x.servers.length:Int):=by omega
    have c2: (0:Int)≤(k:Int):=by omega
    have hup:Sf x k=s.up:=by unfold Sf; rw [hs]
    subst hb
    simp only [fx,kw,aw,be,if_pos c1,if_pos c2,Int.toNat_natCast,hs,Option.bind_some,ex,hv,bA,bF (n:=5) (by decide) (by omega:k < 5),if_pos (ab3 (p:=Sf x) (k:=k) (by omega) (k:Int))]
    refine .inl ⟨Ai (Sf x) (k+1),?_,rfl,trivial⟩
    rw [NV,hup]
    cases s.up
    ·simp
     rfl
    ·rfl)
  0 [] (Nat.zero_le _) rfl
 unfold ln p9
 rw [show qQ (((),(),0,()),((x.now,x.servers,x.sides,x.master.configs,x.master.activated,x.masterUp,x.lease.epoch,x.lease.holder,x.lease.ends,x.places,()),()),([],()))=_ from bU]
 rfl
theorem NW {l:List Int} (hl:l.length≤maxLen) (hv:ku l=some (true,())):l.length=5:=by
 obtain⟨b,h1,h2⟩:=GV l hl
 rw [hv] at h1
 simp only [Option.some.injEq,Prod.mk.injEq,and_true] at h1
 subst h1
 unfold po sa at h2
 cases h: ((l.length:Int)==5) with
 | false=>rw [h] at h2; cases h2
 | true=>simp only [beq_iff_eq] at h; omega
theorem NX (l:List Int) (hl:l.length=5) (hv:ku l=some (true,())):jG l=some (Ai (zo l) 5,()):=by
 have bU:=li (B:=eE) l (fun k (b:List Int)=>((l,(),(k:Int),()),(),(b,()))) (fun k b=>b=Ai (zo l) k) (fun _ _ _=>(((),()),(),(Ai (zo l) 5,())))
  (fun b hb=>by
    simp only [eE,jf]
    rw [aw,if_neg (by omega),hb,hl])
  (fun k b s hs hb=>by
    have hk:=jE hs
    have c1: (k:Int) < (l.length:Int):=by omega
    have c2: (0:Int)≤(k:Int):=by omega
    have hup:zo l k=(s==0):=by unfold zo; rw [hs]
    subst hb
    simp only [eE,jf,aw,be,if_pos c1,if_pos c2,Int.toNat_natCast,hs,Option.bind_some,hv,bA,bF (n:=5) (by decide) (by omega:k < 5),if_pos (ab3 (p:=zo l) (k:=k) (by omega) (k:Int))]
    refine .inl ⟨Ai (zo l) (k+1),?_,rfl,trivial⟩
    rw [NV,hup]
    cases (s==0)
    ·simp
     rfl
    ·rfl)
  0 [] (Nat.zero_le _) rfl
 unfold jG oc
 rw [show pf ((l,(),0,()),(),([],()))=_ from bU]
 rfl
def nJ (x:aj) (k:Nat):Bool:=Sf x k&&zo x.sides k
theorem adP (x:aj) (ok:rl 1048576 x) (hv:bn x=some (true,())):pg x=some (Ai (nJ x) 5,()):=by
 have vc:=Cw ok hv
 have hsl:=NW (dH ok.2.1) vc.sides
 unfold pg rZ
 rw [Yt x vc.len hv,NX x.sides hsl vc.sides]
 simp only [Option.bind_some]
 rw [Le _ _ (abF _ (Nat.le_refl 5)) (Nat.le_trans (Li _ _) (by decide)),abG]
 rfl
end Go.Proofs.YtkcgfceffffmoaaGreat.En
