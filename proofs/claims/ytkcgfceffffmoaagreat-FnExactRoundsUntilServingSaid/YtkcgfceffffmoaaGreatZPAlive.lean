/- Servers that are alive. -/
import Derived.Test.YtkcgfceffffmoaaGreatZPAct
namespace Go.Proofs.YtkcgfceffffmoaaGreat.En
open Go
def IP (p:Nat->Bool) (n:Nat):List Int:=((List.range n).filter p).map fun (k:Nat)=>(k:Int)
theorem aa5 (p:Nat->Bool) (n:Nat):IP p (n+1)=IP p n++if p n=true then [(n:Int)] else [] :=by
 unfold IP;rw [List.range_succ,bP,bX]
 congr 1
 cases h:p n <;> simp [h]
theorem SZ (p:Nat->Bool) (n:Nat) (x:Int):x∈IP p n↔ ∃ k:Nat,k < n/\p k=true/\x=(k:Int):=by
 unfold IP;simp only [aQ,cr,bO];constructor
 ·rintro⟨k,⟨h1,h2⟩,rfl⟩; exact⟨k,h1,h2,rfl⟩
 ·rintro⟨k,h1,h2,rfl⟩; exact⟨k,⟨h1,h2⟩,rfl⟩
theorem alC (p:Nat->Bool) (n:Nat): (IP p n).length<=n:=by
 unfold IP;rw [aJ];exact bL (cN _ _) (by simp)
theorem alD (p:Nat->Bool) {n:Nat} (hn:n<=5):MH (IP p n):=by
 have hp: (IP p n).Pairwise (· < ·):=by
  unfold IP;rw [List.pairwise_map];exact (List.Pairwise.filter _ List.pairwise_lt_range).imp fun h=>by omega
 intro k hk;have hm: (IP p n)[k] ∈IP p n:=bc hk;obtain⟨j,h1,_,h2⟩:=(SZ p n _).1 hm;exact⟨⟨by omega,by omega⟩,fun h0=>bI.1 hp (k - 1) k (by omega) hk (by omega)⟩
theorem aqt (p q:Nat->Bool) (n:Nat): (IP p n).filter (fun x=>decide (x∈IP q n))=IP (fun k=>p k&&q k) n:=by
 unfold IP;rw [List.filter_map,List.filter_filter]
 congr 1
 apply List.filter_congr;intro k hk;have hk:=bO.1 hk
 have : (((fun x=>decide (x∈IP q n))∘fun (k:Nat)=>(k:Int)) k)=q k:=by
  show decide ((k:Int)∈IP q n)=q k;cases hq:q k with
  | true=>exact decide_eq_true ((SZ q n _).2 ⟨k,hk,hq,rfl⟩)
  | false=>
    refine decide_eq_false fun h=> ?_;obtain⟨j,_,h1,h2⟩:=(SZ q n _).1 h;have :j=k:=by omega
    subst this;rw [hq] at h1;cases h1
 have e:decide ((k:Int)∈List.map (fun (k:Nat)=>(k:Int)) (List.filter q (List.range n)))=q k:=this;simp only [Function.comp,e,Bool.and_comm]
def ago (x:dV) (k:Nat):Bool:=match x.servers[k]? with | some s=>s.up | none=>false
def JU (l:List Int) (k:Nat):Bool:=match l[k]? with | some s=>s==0 | none=>false
theorem ao0 {p:Nat->Bool} {k:Nat} (h:k<=1000) (y:Int): (IP p k++ [y]).length*8<=2 ^ 40:=by
 have:=alC p k;refine qA ?_;rw [bk,cj];omega
theorem amZ (x:dV) (hl:x.servers.length=5) (hv:eC x=some (true,())):w6 x=some (IP (ago x) 5,()):=by
 have ex: (⟨x.now,x.servers,x.sides,⟨x.master.configs,x.master.activated⟩,x.masterUp,⟨x.lease.epoch,x.lease.holder,x.lease.ends⟩,x.places⟩:dV)=x:=rfl
 have fC:=mU (B:=mL) x.servers (fun k (b:List Int)=>(((),(),(k:Int),()),((x.now,x.servers,x.sides,x.master.configs,x.master.activated,x.masterUp,x.lease.epoch,x.lease.holder,x.lease.ends,x.places,()),()),(b,()))) (fun k b=>b=IP (ago x) k) (fun _ _ _=>(((),()),(),(IP (ago x) 5,())))
  (fun b hb=>by
    simp only [mL,w5,BW];rw [ec,if_neg (by omega),hb,hl])
  (fun k b s hs hb=>by
    have hk:=nG hs;have c1: (k:Int) < (x.servers.length:Int):=by omega
    have c2: (0:Int)<=(k:Int):=by omega
    have hup:ago x k=s.up:=by unfold ago; rw [hs]
    subst hb;simp only [mL,w5,BW,ec,ez,if_pos c1,if_pos c2,aw,hs,ae,ex,hv,ew,eB (n:=5) (by decide) (by omega:k < 5),if_pos (ao0 (p:=ago x) (k:=k) (by omega) (k:Int))];refine .inl ⟨IP (ago x) (k+1),?_,rfl,trivial⟩;rw [aa5,hup];cases s.up
    ·simp;rfl
    ·rfl)
  0 [] (aK _) rfl
 unfold w6 Fe;rw [show Dy (((),(),0,()),((x.now,x.servers,x.sides,x.master.configs,x.master.activated,x.masterUp,x.lease.epoch,x.lease.holder,x.lease.ends,x.places,()),()),([],()))=_ from fC];rfl
theorem Gy {l:List Int} (hl:l.length<=maxLen) (hv:oW l=some (true,())):l.length=5:=by
 obtain⟨b,h1,h2⟩:=MJ l hl;rw [hv] at h1;simp only [af,aq,and_true] at h1;subst h1;unfold uy Ei at h2;cases h: ((l.length:Int)==5) with
 | false=>rw [h] at h2; cases h2
 | true=>simp only [beq_iff_eq] at h; omega
theorem akJ (l:List Int) (hl:l.length=5) (hv:oW l=some (true,())):ul l=some (IP (JU l) 5,()):=by
 have fC:=mU (B:=lW) l (fun k (b:List Int)=>((l,(),(k:Int),()),(),(b,()))) (fun k b=>b=IP (JU l) k) (fun _ _ _=>(((),()),(),(IP (JU l) 5,())))
  (fun b hb=>by
    simp only [lW,uN,Ag];rw [ec,if_neg (by omega),hb,hl])
  (fun k b s hs hb=>by
    have hk:=nG hs;have c1: (k:Int) < (l.length:Int):=by omega
    have c2: (0:Int)<=(k:Int):=by omega
    have hup:JU l k=(s==0):=by unfold JU; rw [hs]
    subst hb;simp only [lW,uN,Ag,ec,ez,if_pos c1,if_pos c2,aw,hs,ae,hv,ew,eB (n:=5) (by decide) (by omega:k < 5),if_pos (ao0 (p:=JU l) (k:=k) (by omega) (k:Int))];refine .inl ⟨IP (JU l) (k+1),?_,rfl,trivial⟩;rw [aa5,hup];cases (s==0)
    ·simp;rfl
    ·rfl)
  0 [] (aK _) rfl
 unfold ul Dz;rw [show BX ((l,(),0,()),(),([],()))=_ from fC];rfl
def mE (x:dV) (k:Nat):Bool:=ago x k&&JU x.sides k
theorem asJ (x:dV) (ok:pg 1048576 x) (hv:eC x=some (true,())):AP x=some (IP (mE x) 5,()):=by
 have vc:=rU ok hv;have hsl:=Gy (gJ ok.2.1) vc.sides;unfold AP GV;rw [amZ x vc.len hv,akJ x.sides hsl vc.sides];simp only [ae];rw [X8 _ _ (alD _ (aE 5)) (bL (alC _ _) (by decide)),aqt];rfl
end Go.Proofs.YtkcgfceffffmoaaGreat.En
