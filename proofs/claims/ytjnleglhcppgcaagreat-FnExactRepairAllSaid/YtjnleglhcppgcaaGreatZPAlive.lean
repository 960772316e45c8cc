/- Servers that are alive. -/
import Derived.Test.YtjnleglhcppgcaaGreatZPAct
namespace Go.Proofs.YtjnleglhcppgcaaGreat.En
open Go
def uf (p:Nat->Bool) (n:Nat):List Int:=((List.range n).filter p).map fun (k:Nat)=>(k:Int)
theorem Ef (p:Nat->Bool) (n:Nat):uf p (n+1)=uf p n++if p n=true then [(n:Int)] else [] :=by
 unfold uf;rw[List.range_succ,bL,bS]
 congr 1
 cases h:p n<;>simp[h]
theorem zM (p:Nat->Bool) (n:Nat) (x:Int):x∈uf p n↔ ∃k:Nat,k<n/\p k=true/\x=(k:Int):=by
 unfold uf;simp only[aL,cr,bK];constructor
 ·rintro⟨k,⟨h1,h2⟩,rfl⟩; exact⟨k,h1,h2,rfl⟩
 ·rintro⟨k,h1,h2,rfl⟩; exact⟨k,⟨h1,h2⟩,rfl⟩
theorem LS (p:Nat->Bool) (n:Nat): (uf p n).length<=n:=by unfold uf;rw[aD];exact bI (cN _ _) (by simp)
theorem LU (p:Nat->Bool) {n:Nat} (hn:n<=5):wm (uf p n):=by
 have hp: (uf p n).Pairwise (· < ·):=by unfold uf;rw[List.pairwise_map];exact (List.Pairwise.filter _ List.pairwise_lt_range).imp fun h=>by omega
 intro k hk;have hm: (uf p n)[k] ∈uf p n:=aW hk;obtain⟨j,h1,_,h2⟩:=(zM p n _).1 hm;exact⟨⟨by omega,by omega⟩,fun h0=>bE.1 hp (k-1) k (by omega) hk (by omega)⟩
theorem Qu (p q:Nat->Bool) (n:Nat): (uf p n).filter (fun x=>decide (x∈uf q n))=uf (fun k=>p k&&q k) n:=by
 unfold uf;rw[List.filter_map,List.filter_filter]
 congr 1
 apply List.filter_congr;intro k hk;have hk:=bK.1 hk
 have : (((fun x=>decide (x∈uf q n))∘fun (k:Nat)=>(k:Int)) k)=q k:=by
  show decide ((k:Int)∈uf q n)=q k;cases hq:q k with
  |true=>exact decide_eq_true ((zM q n _).2 ⟨k,hk,hq,rfl⟩)
  |false=>
   refine decide_eq_false fun h=> ?_;obtain⟨j,_,h1,h2⟩:=(zM q n _).1 h;have :j=k:=by omega
   subst this;rw[hq] at h1;cases h1
 have e:decide ((k:Int)∈List.map (fun (k:Nat)=>(k:Int)) (List.filter q (List.range n)))=q k:=this;simp only[Function.comp,e,Bool.and_comm]
def Hv (x:dT) (k:Nat):Bool:=match x.servers[k]? with |some s=>s.up|none=>false
def uJ (l:List Int) (k:Nat):Bool:=match l[k]? with |some s=>s==0|none=>false
theorem OU {p:Nat->Bool} {k:Nat} (h:k<=1000) (y:Int): (uf p k++ [y]).length*8<=2 ^ 40:=by have:=LS p k;refine jC ?_;rw[be,ch];omega
theorem MY (x:dT) (hl:x.servers.length=5) (hv:eg x=some (true,())):qs x=some (uf (Hv x) 5,()):=by
 have ex: (⟨x.now,x.servers,x.sides,⟨x.master.configs,x.master.activated⟩,x.masterUp,⟨x.lease.epoch,x.lease.holder,x.lease.ends⟩,x.places⟩:dT)=x:=rfl
 have gA:=gJ (B:=l6) x.servers (fun k (b:List Int)=>(((),(),(k:Int),()),((x.now,x.servers,x.sides,x.master.configs,x.master.activated,x.masterUp,x.lease.epoch,x.lease.holder,x.lease.ends,x.places,()),()),(b,()))) (fun k b=>b=uf (Hv x) k) (fun _ _ _=>(((),()),(),(uf (Hv x) 5,())))
  (fun b hb=>by simp only[l6];rw[dV,if_neg (by omega),hb,hl])
  (fun k b s hs hb=>by
    have hk:=fR hs;have c1: (k:Int)< (x.servers.length:Int):=by omega
    have c2: (0:Int)<=(k:Int):=by omega
    have hup:Hv x k=s.up:=by unfold Hv; rw[hs]
    subst hb;simp only[l6,dV,dZ,if_pos c1,if_pos c2,ao,hs,ae,ex,hv,eb,ec (n:=5) (by decide) (by omega:k<5),if_pos (OU (p:=Hv x) (k:=k) (by omega) (k:Int))];refine .inl ⟨uf (Hv x) (k+1),?_,rfl,trivial⟩;rw[Ef,hup];cases s.up
    ·simp;rfl
    ·rfl)
  0 [] (aF _) rfl
 unfold qs;rw[show xA (((),(),0,()),((x.now,x.servers,x.sides,x.master.configs,x.master.activated,x.masterUp,x.lease.epoch,x.lease.holder,x.lease.ends,x.places,()),()),([],()))=_ from gA];rfl
theorem sC {l:List Int} (hl:l.length<=maxLen) (hv:km l=some (true,())):l.length=5:=by
 obtain⟨b,h1,h2⟩:=wo l hl;rw[hv] at h1;simp only[af,an,and_true] at h1;subst h1;unfold of at h2;cases h: ((l.length:Int)==5) with
 |false=>rw[h] at h2; cases h2
 |true=>simp only[beq_iff_eq] at h; omega
theorem K3 (l:List Int) (hl:l.length=5) (hv:km l=some (true,())):oQ l=some (uf (uJ l) 5,()):=by
 have gA:=gJ (B:=kO) l (fun k (b:List Int)=>((l,(),(k:Int),()),(),(b,()))) (fun k b=>b=uf (uJ l) k) (fun _ _ _=>(((),()),(),(uf (uJ l) 5,())))
  (fun b hb=>by simp only[kO];rw[dV,if_neg (by omega),hb,hl])
  (fun k b s hs hb=>by
    have hk:=fR hs;have c1: (k:Int)< (l.length:Int):=by omega
    have c2: (0:Int)<=(k:Int):=by omega
    have hup:uJ l k=(s==0):=by unfold uJ; rw[hs]
    subst hb;simp only[kO,dV,dZ,if_pos c1,if_pos c2,ao,hs,ae,hv,eb,ec (n:=5) (by decide) (by omega:k<5),if_pos (OU (p:=uJ l) (k:=k) (by omega) (k:Int))];refine .inl ⟨uf (uJ l) (k+1),?_,rfl,trivial⟩;rw[Ef,hup];cases (s==0)
    ·simp;rfl
    ·rfl)
  0 [] (aF _) rfl
 unfold oQ;rw[show vK ((l,(),0,()),(),([],()))=_ from gA];rfl
def gV (x:dT) (k:Nat):Bool:=Hv x k&&uJ x.sides k
theorem Tb (x:dT) (ok:iq 1048576 x) (hv:eg x=some (true,())):rO x=some (uf (gV x) 5,()):=by have vc:=kh ok hv;have hsl:=sC (eR ok.2.1) vc.sides;unfold rO;rw[MY x vc.len hv,K3 x.sides hsl vc.sides];simp only[ae];rw[Cr _ _ (LU _ (ay 5)) (bI (LS _ _) (by decide)),Qu];rfl
end Go.Proofs.YtjnleglhcppgcaaGreat.En
