/- Lists of servers, on: what is left out; valid configurations. -/
import Derived.Test.YtpagmogboinlpaaZPV2
namespace Go.Proofs.Ytpagmogboinlpaa.En
open Go
theorem kj {σ ε:Type} {B:σ->Option (σ⊕ε)} (n:Nat) (m:Nat->σ) (t:ε) (f:Nat->ε) (p:Nat->Bool) (h0:B (m n)=some (.inr t)) (h: ∀k,k<n->B (m k)=some (if p k=true then .inr (f k) else .inl (m (k+1)))):
  (hU B (m 0)=some t/\ ∀k,k<n->p k=false)\/ ∃k,k<n/\hU B (m 0)=some (f k)/\p k=true/\ ∀j,j<k->p j=false:=by
 have eD: ∀d j,j+d=n->(hU B (m j)=some t/\ ∀k,j<=k->k<n->p k=false)\/ ∃k,k<n/\hU B (m j)=some (f k)/\p k=true/\ ∀i,j<=i->i<k->p i=false:=by
  intro d
  induction d with
  |zero=>
   intro j hj;have :j=n:=by omega
   subst this;exact .inl ⟨iz h0,fun k a b=>by omega⟩
  |succ d ih=>
   intro j hj;have h1:=h j (by omega);cases hp:p j with
   |true=>rw[hp,if_pos rfl] at h1;exact .inr ⟨j,by omega,iz h1,hp,fun i a b=>by omega⟩
   |false=>
    rw[hp,if_neg (by simp)] at h1;rw[lf h1];rcases ih (j+1) (by omega) with ⟨k1,k2⟩| ⟨k,k0,k1,k2,k3⟩
    ·refine .inl ⟨k1,fun k a b=> ?_⟩;rcases dk a with rfl|a
     ·exact hp
     ·exact k2 k a b
    ·refine .inr ⟨k,k0,k1,k2,fun i a b=> ?_⟩;rcases dk a with rfl|a
     ·exact hp
     ·exact k3 i a b
 rcases eD n 0 (by omega) with ⟨a,b⟩| ⟨k,a,b,c,d⟩
 ·exact .inl ⟨a,fun k hk=>b k (bG _) hk⟩
 ·exact .inr ⟨k,a,b,c,fun j hj=>d j (bG _) hj⟩
theorem Bl {σ1 ε1 σ2 ε2 β:Type} {B1:σ1->Option (σ1⊕ε1)} {B2:σ2->Option (σ2⊕ε2)} (n:Nat) (m1:Nat->β->σ1) (m2:Nat->β->σ2) (J:Nat->β->Prop) (E1:β->ε1) (E2:β->ε2)
  (h0: ∀b,J n b->B1 (m1 n b)=some (.inr (E1 b))/\B2 (m2 n b)=some (.inr (E2 b)))
  (h1: ∀k b,k<n->J k b-> ∃b',B1 (m1 k b)=some (.inl (m1 (k+1) b'))/\B2 (m2 k b)=some (.inl (m2 (k+1) b'))/\J (k+1) b')
  (b:β) (hb:J 0 b): ∃b',J n b'/\hU B1 (m1 0 b)=some (E1 b')/\hU B2 (m2 0 b)=some (E2 b'):=by
 have go: ∀ (d k:Nat) (b:β),k+d=n->J k b-> ∃b',J n b'/\hU B1 (m1 k b)=some (E1 b')/\hU B2 (m2 k b)=some (E2 b'):=by
  intro d
  induction d with
  |zero=>
   intro k b hk hj;have :k=n:=by omega
   subst this;exact⟨b,hj,iz (h0 b hj).1,iz (h0 b hj).2⟩
  |succ d ih=>intro k b hk hj;obtain⟨b',p1,p2,p3⟩:=h1 k b (by omega) hj;obtain⟨c,q1,q2,q3⟩:=ih (k+1) b' (by omega) p3;exact⟨c,q1,by rw[lf p1]; exact q2,by rw[lf p2]; exact q3⟩
 exact go n 0 b (by omega) hb
end Go.Proofs.Ytpagmogboinlpaa.En
