/- Servers that are alive. -/
import Derived.Test.YtjnleglhcppgcaaGreatZPAct
namespace Go.Proofs.YtjnleglhcppgcaaGreat.En
open Go
def wi (p:Nat->Bool) (n:Nat):List Int:=((List.range n).filter p).map fun (k:Nat)=>(k:Int)
theorem FY (p:Nat->Bool) (n:Nat):wi p (n+1)=wi p n++if p n=true then [(n:Int)] else [] :=by
 unfold wi;rw[List.range_succ,bQ,cg]
 congr 1
 cases h:p n<;>simp[h]
theorem BN (p:Nat->Bool) (n:Nat) (x:Int):x∈wi p n↔ ∃k:Nat,k<n/\p k=true/\x=(k:Int):=by
 unfold wi;simp only[aM,cA,bu];constructor
 ·rintro⟨k,⟨h1,h2⟩,rfl⟩; exact⟨k,h1,h2,rfl⟩
 ·rintro⟨k,h1,h2,rfl⟩; exact⟨k,⟨h1,h2⟩,rfl⟩
theorem N9 (p:Nat->Bool) (n:Nat): (wi p n).length<=n:=by unfold wi;rw[aD];exact bF (cY _ _) (by simp)
theorem Oa (p:Nat->Bool) {n:Nat} (hn:n<=5):yB (wi p n):=by
 have hp: (wi p n).Pairwise (· < ·):=by unfold wi;rw[List.pairwise_map];exact (List.Pairwise.filter _ List.pairwise_lt_range).imp fun h=>by omega
 intro k hk;have hm: (wi p n)[k] ∈wi p n:=aV hk;obtain⟨j,h1,_,h2⟩:=(BN p n _).1 hm;exact⟨⟨by omega,by omega⟩,fun h0=>bN.1 hp (k-1) k (by omega) hk (by omega)⟩
theorem To (p q:Nat->Bool) (n:Nat): (wi p n).filter (fun x=>decide (x∈wi q n))=wi (fun k=>p k&&q k) n:=by
 unfold wi;rw[List.filter_map,List.filter_filter]
 congr 1
 apply List.filter_congr;intro k hk;have hk:=bu.1 hk
 have : (((fun x=>decide (x∈wi q n))∘fun (k:Nat)=>(k:Int)) k)=q k:=by
  show decide ((k:Int)∈wi q n)=q k;cases hq:q k with
  |true=>exact decide_eq_true ((BN q n _).2 ⟨k,hk,hq,rfl⟩)
  |false=>
   refine decide_eq_false fun h=> ?_;obtain⟨j,_,h1,h2⟩:=(BN q n _).1 h;have :j=k:=by omega
   subst this;rw[hq] at h1;cases h1
 have e:decide ((k:Int)∈List.map (fun (k:Nat)=>(k:Int)) (List.filter q (List.range n)))=q k:=this;simp only[Function.comp,e,Bool.and_comm]
def Jz (x:eg) (k:Nat):Bool:=match x.servers[k]? with |some s=>s.up|none=>false
def wQ (l:List Int) (k:Nat):Bool:=match l[k]? with |some s=>s==0|none=>false
theorem Rq {p:Nat->Bool} {k:Nat} (h:k<=1000) (y:Int): (wi p k++ [y]).length*8<=2 ^ 40:=by have:=N9 p k;refine kA ?_;rw[aQ,bX];omega
theorem Ps (x:eg) (hl:x.servers.length=5) (hv:eA x=some (true,())):rL x=some (wi (Jz x) 5,()):=by
 have ex: (⟨x.now,x.servers,x.sides,⟨x.master.configs,x.master.activated⟩,x.masterUp,⟨x.lease.epoch,x.lease.holder,x.lease.ends⟩,x.places⟩:eg)=x:=rfl
 have gE:=iB (B:=mY) x.servers (fun k (b:List Int)=>(((),(),(k:Int),()),((x.now,x.servers,x.sides,x.master.configs,x.master.activated,x.masterUp,x.lease.epoch,x.lease.holder,x.lease.ends,x.places,()),()),(b,()))) (fun k b=>b=wi (Jz x) k) (fun _ _ _=>(((),()),(),(wi (Jz x) 5,())))
  (fun b hb=>by simp only[mY];rw[ei,if_neg (by omega),hb,hl])
  (fun k b s hs hb=>by
    have hk:=i5 hs;have c1: (k:Int)< (x.servers.length:Int):=by omega
    have c2: (0:Int)<=(k:Int):=by omega
    have hup:Jz x k=s.up:=by unfold Jz; rw[hs]
    subst hb;simp only[mY,ei,ek,if_pos c1,if_pos c2,ap,hs,ae,ex,hv,en,ey (n:=5) (by decide) (by omega:k<5),if_pos (Rq (p:=Jz x) (k:=k) (by omega) (k:Int))];refine .inl ⟨wi (Jz x) (k+1),?_,rfl,trivial⟩;rw[FY,hup];cases s.up
    ·simp;rfl
    ·rfl)
  0 [] (aI _) rfl
 unfold rL;rw[show zN (((),(),0,()),((x.now,x.servers,x.sides,x.master.configs,x.master.activated,x.masterUp,x.lease.epoch,x.lease.holder,x.lease.ends,x.places,()),()),([],()))=_ from gE];rfl
theorem uG {l:List Int} (hl:l.length<=maxLen) (hv:lz l=some (true,())):l.length=5:=by
 obtain⟨b,h1,h2⟩:=yC l hl;rw[hv] at h1;simp only[af,an,and_true] at h1;subst h1;unfold pm at h2;cases h: ((l.length:Int)==5) with
 |false=>rw[h] at h2; cases h2
 |true=>simp only[beq_iff_eq] at h; omega
theorem Nb (l:List Int) (hl:l.length=5) (hv:lz l=some (true,())):pW l=some (wi (wQ l) 5,()):=by
 have gE:=iB (B:=lV) l (fun k (b:List Int)=>((l,(),(k:Int),()),(),(b,()))) (fun k b=>b=wi (wQ l) k) (fun _ _ _=>(((),()),(),(wi (wQ l) 5,())))
  (fun b hb=>by simp only[lV];rw[ei,if_neg (by omega),hb,hl])
  (fun k b s hs hb=>by
    have hk:=i5 hs;have c1: (k:Int)< (l.length:Int):=by omega
    have c2: (0:Int)<=(k:Int):=by omega
    have hup:wQ l k=(s==0):=by unfold wQ; rw[hs]
    subst hb;simp only[lV,ei,ek,if_pos c1,if_pos c2,ap,hs,ae,hv,en,ey (n:=5) (by decide) (by omega:k<5),if_pos (Rq (p:=wQ l) (k:=k) (by omega) (k:Int))];refine .inl ⟨wi (wQ l) (k+1),?_,rfl,trivial⟩;rw[FY,hup];cases (s==0)
    ·simp;rfl
    ·rfl)
  0 [] (aI _) rfl
 unfold pW;rw[show xW ((l,(),0,()),(),([],()))=_ from gE];rfl
def iI (x:eg) (k:Nat):Bool:=Jz x k&&wQ x.sides k
theorem VZ (x:eg) (ok:gX 1048576 x) (hv:eA x=some (true,())):tZ x=some (wi (iI x) 5,()):=by have vc:=jc ok hv;have hsl:=uG (ff ok.2.1) vc.sides;unfold tZ;rw[Ps x vc.len hv,Nb x.sides hsl vc.sides];simp only[ae];rw[D9 _ _ (Oa _ (ay 5)) (bF (N9 _ _) (by decide)),To];rfl
end Go.Proofs.YtjnleglhcppgcaaGreat.En
