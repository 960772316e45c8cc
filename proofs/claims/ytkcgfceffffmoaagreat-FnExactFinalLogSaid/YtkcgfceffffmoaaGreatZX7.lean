import Derived.Test.YtkcgfceffffmoaaGreatZX6
namespace Go.Proofs.YtkcgfceffffmoaaGreat.En
open Go
def TS.with (S:TS) (no N w:Nat) (R:List (List T)):St:= { S.st with gh:=aJ S.st.gh no (some (.sl w R)),ng:=N }
structure kH (S S1:TS) (no:Nat):Prop where
 ok:S1.ok
 gle:gQ S.gh S1.gh
 len:S1.gh.length=S.gh.length
 fz:S1.fz=S.fz
 nt:S1.nt=S.nt
 no:cf S1.gh no=cf S.gh no
end Go.Proofs.YtkcgfceffffmoaaGreat.En
namespace Go.Proofs.YtkcgfceffffmoaaGreat.En
open Go
section
variable {ρ:Type} {P:Program} {Θ:gF} {S:TS}
end
end Go.Proofs.YtkcgfceffffmoaaGreat.En
namespace Go.Proofs.YtkcgfceffffmoaaGreat.En
open Go
section
variable {ρ:Type} {P:Program} {Θ:gF} {S:TS} {Y:jl}
end
end Go.Proofs.YtkcgfceffffmoaaGreat.En
namespace Go.Proofs.YtkcgfceffffmoaaGreat.En
open Go
section
variable {ρ:Type} {P:Program} {Θ:gF} {S:TS} {Y:jl}
structure fi (S S1:TS) (L:List Nat):Prop where
 env:S1.env=S.env
 bx:S1.bx=S.bx
 fz:S1.fz=S.fz
 nt:S1.nt=S.nt
 len:S1.gh.length=S.gh.length
 gh: ∀ r,cf S1.gh r=if L.contains r then none else cf S.gh r
 was: ∀ q∈L,∃ tr,cf S.gh q=some tr
theorem fi.refl (S:TS):fi S S [] :=⟨rfl,rfl,rfl,rfl,rfl,fun _=>by simp,fun _ h=>by cases h⟩
theorem fi.one {q:Nat} {tr:bR} (h:cf S.gh q=some tr):fi S { S with gh:=fh S.gh q none } [q] :=
 ⟨rfl,rfl,rfl,rfl,by simp [dW],fun r=>by
  show cf (fh S.gh q none) r=_
  rw [eU q r (.inr rfl)]
  by_cases hr:r=q
  ·subst hr; simp
  ·rw [if_neg hr,if_neg (by simpa using hr)],fun r hr=>by rw [List.mem_singleton.1 hr]; exact⟨tr,h⟩⟩
theorem fi.trans {S1 S2:TS} {L L':List Nat} (h:fi S S1 L) (k:fi S1 S2 L'):fi S S2 (L++L'):=
 ⟨k.env.trans h.env,k.bx.trans h.bx,k.fz.trans h.fz,k.nt.trans h.nt,k.len.trans h.len,fun r=>by
  rw [k.gh,h.gh]
  have e: (L++L').contains r=(L.contains r||L'.contains r):=by
   rw [Bool.eq_iff_iff]
   simp
  rw [e]
  cases L.contains r <;> cases L'.contains r <;> rfl,fun q hq=>by
  rcases List.mem_append.1 hq with hq | hq
  ·exact h.was q hq
  ·obtain⟨tr,ht⟩:=k.was q hq
   rw [h.gh] at ht
   split at ht
   ·cases ht
   ·exact⟨tr,ht⟩⟩
theorem fi.apart {S1 S2:TS} {L L':List Nat} (h:fi S S1 L) (k:fi S1 S2 L') (h1:L.Nodup) (h2:L'.Nodup): (L++L').Nodup:=by
 rw [List.nodup_append]
 refine⟨h1,h2,fun a ha b hb e=> ?_⟩
 subst e
 obtain⟨tr,ht⟩:=k.was a hb
 rw [h.gh,if_pos (by simpa using ha)] at ht
 cases ht
theorem fi.le {S1:TS} {L:List Nat} (h:fi S S1 L):gQ S.gh S1.gh:=⟨by rw [h.len]; exact Nat.le_refl _,fun r tr _ ht=>by
 rw [h.gh] at ht
 split at ht
 ·cases ht
 ·exact⟨tr,ht,rfl⟩⟩
theorem fi.ok {S1:TS} {L:List Nat} (h:fi S S1 L) (hS:S.ok):S1.ok:=
 ⟨fun x hx=>V.ok_mono h.le (hS.env x (by rw [←h.env]; exact hx)),fun cs hcs c hc=>Cl.ok_mono h.le (hS.bx cs (by rw [←h.bx]; exact hcs) c hc)⟩
theorem fi.st {S1:TS} {L:List Nat} (h:fi S S1 L):S1.st=dropL S.st L:=by
 unfold TS.st dropL
 rw [h.env,h.bx,h.fz,h.nt,h.len]
 simp only
 congr 1
 funext r
 rw [h.gh]
 cases L.contains r <;> rfl
theorem hV: ∀ (l m x:List (Option bR)) (n:Nat) (L:List Nat),m.length=l.length→(∀ k,k < l.length→(((∃ y,l[k]? =some (some y))∧m[k]? =some none)↔(n+k)∈L))→gone n l (m++x)=(List.range' n l.length).filter fun r=>L.contains r
 | [],m,x,n,L,hl,_=>by
   have :m= [] :=List.eq_nil_of_length_eq_zero hl
   subst this
   cases x <;> rfl
 | a::l,[],x,n,L,hl,_=>by cases hl
 | a::l,b::m,x,n,L,hl,h=>by
   have h0:=h 0 (Nat.zero_lt_succ _)
   have ih:=hV l m x (n+1) L (by simpa using hl) (fun k hk=>by
    have:=h (k+1) (by simpa using hk)
    simp only [List.getElem?_cons_succ] at this
    rw [this,show n+1+k=n+(k+1) by omega])
   simp only [List.getElem?_cons_zero,Option.some.injEq,Nat.add_zero] at h0
   rw [List.length_cons,List.range'_succ,List.filter_cons]
   cases a with
   | none=>
     have : ¬ n∈L:=fun hn=>by
      obtain⟨⟨y,hy⟩,_⟩:=h0.2 hn
      cases hy
     rw [if_neg (by simpa using this),←ih]
     cases b <;> rfl
   | some y=>
     cases b with
     | none=>
       have :n∈L:=h0.1 ⟨⟨y,rfl⟩,rfl⟩
       rw [if_pos (by simpa using this),←ih]
       rfl
     | some z=>
       have : ¬ n∈L:=fun hn=>by
        have:=(h0.2 hn).2
        cases this
       rw [if_neg (by simpa using this),←ih]
       rfl
theorem fU {L:List Nat} {N:Nat} (h: ∀ r∈L,r < N):gJ L=(List.range N).filter fun r=>L.contains r:=by
 have top:fF L≤N:=by
  induction L with
  | nil=>exact Nat.zero_le _
  | cons a l ih=>
    unfold fF
    have h1:=h a List.mem_cons_self
    have h2:=ih (fun r hr=>h r (List.mem_cons_of_mem _ hr))
    omega
 unfold gJ
 obtain⟨k,rfl⟩: ∃ k,N=fF L+k:=⟨N - fF L,by omega⟩
 rw [List.range_eq_range',List.range_eq_range',←List.range'_append_1,List.filter_append]
 have : (List.range' (0+fF L) k).filter (fun r=>L.contains r)= [] :=by
  rw [List.filter_eq_nil_iff]
  intro r hr hc
  have h1:=hO (l:=L) (r:=r) (by simpa using hc)
  have h2:=(List.mem_range'_1.1 hr).1
  omega
 rw [this,List.append_nil]
theorem fi.gone {S1:TS} {L:List Nat} (h:fi S S1 L) (x:List (Option bR)):gone 0 S.gh (S1.gh++x)=gJ L:=by
 rw [fU (N:=S.gh.length) (fun r hr=>by
  obtain⟨tr,ht⟩:=h.was r hr
  exact hU ht),List.range_eq_range']
 refine hV _ _ _ _ _ h.len (fun k hk=> ?_)
 rw [Nat.zero_add]
 have g:=h.gh k
 unfold cf at g
 rw [dN,dN] at g
 have hk1:k < S1.gh.length:=by rw [h.len]; exact hk
 rw [List.getElem?_eq_getElem hk,List.getElem?_eq_getElem hk1] at g ⊢
 simp only [Option.getD_some,Option.some.injEq] at g ⊢
 constructor
 ·rintro⟨⟨y,hy⟩,hn⟩
  rw [hn,hy] at g
  split at g
  ·rename_i hc
   simpa using hc
  ·cases g
 ·intro hL
  obtain⟨tr,ht⟩:=h.was k hL
  unfold cf at ht
  rw [dN,List.getElem?_eq_getElem hk] at ht
  simp only [Option.getD_some] at ht
  rw [if_pos (by simpa using hL)] at g
  exact⟨⟨tr,ht⟩,g⟩
theorem fi.less {S1:TS} {L:List Nat} (h:fi S S1 L): ∀ r t,S1.st.gh r=some t→S.st.gh r=some t:=by
 intro r t ht
 rw [h.st] at ht
 unfold dropL at ht
 simp only at ht
 split at ht
 ·cases ht
 ·exact ht
end
end Go.Proofs.YtkcgfceffffmoaaGreat.En
namespace Go.Proofs.YtkcgfceffffmoaaGreat.En
open Go
section
variable {ρ:Type} {P:Program} {Θ:gF} {S:TS} {Y:jl}
open Classical in
end
end Go.Proofs.YtkcgfceffffmoaaGreat.En
