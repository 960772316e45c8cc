/- Data of a server. -/
import Derived.Test.YtjnleglhcppgcaaGreatZPPart
namespace Go.Proofs.YtjnleglhcppgcaaGreat.En
open Go
theorem RY {s:dX} {id:Int} (h:gW 1048576 s) (hv:ey s id=some (true,())):s.config=⟨0,0,[],[]⟩\/eC s.config=some (true,()):=by
 have hc:=gQ h.1;by_cases hz:s.config=⟨0,0,[],[]⟩
 ·exact .inl hz
 ·right;obtain⟨b,v1,_⟩:=oG s.config hc;cases b with
  |true=>exact v1
  |false=>
   exfalso
   have hr:lK s.config id=some (0,()):=by unfold lK;rw[v1];rfl
   unfold ey at hv;simp only[lV,ae,fg,uI s.config hc,hr,dV,if_neg hz] at hv;cases h1:kE s.version 1 2 with
   |false=>rw[h1] at hv; cases hv
   |true=>
   cases h2:kE s.epoch 0 20 with
   |false=>rw[h1,h2] at hv; cases hv
   |true=>
   rcases vj s.log (eR h.2.1) with ⟨a1,a2,a3⟩| ⟨a1,a2⟩
   case inr=>simp only[h1,h2,a1,ae,eb,ek] at hv; cases hv
   rcases vj s.learned (eR h.2.2) with ⟨b1,b2,b3⟩| ⟨b1,b2⟩
   case inr=>simp only[h1,h2,a1,b1,ae,eb,ek] at hv; cases hv
   obtain⟨n,n1,n2⟩:=ru s.log (eR h.2.1);simp only[h1,h2,a1,b1,n1,ae,eb] at hv;cases h3:kE s.first 0 16<;>rw[h3] at hv
   ·cases hv
   ·cases h4:kE (IntKind.wrap .i64 (s.first+(s.log.length:Int))) 0 16<;>rw[h4] at hv
    ·cases hv
    ·cases h5:kE s.commit 0 (IntKind.wrap .i64 (s.first+(s.log.length:Int)))<;>rw[h5] at hv
     ·cases hv
     ·cases h6:s.intact<;>rw[h6] at hv
      ·cases hv
      ·simp only[eb] at hv
       repeat' split at hv
       all_goals cases hv
def Ei (s:dX) (id:Int):List ea:=if id∈s.config.replicas then (if (zN s).length>s.learned.length then zN s else s.learned) else s.learned
theorem LV (s:dX) (id:Int) (h:gW 1048576 s) (hv:ey s id=some (true,())):t5 s id=some (Ei s id,())/\jU s id=some (Ei s id,()):=by
 have hc:=gQ h.1;obtain⟨p1,p2⟩:=M0 s id h hv
 have hs:s.learned.length*56<=2 ^ 40:=by
  have e: (2:Nat) ^ 40=1099511627776:=by decide
  have:=h.2.2;omega
 have cmp: ((zN s).length:Int)>(s.learned.length:Int)↔(zN s).length>s.learned.length:=by omega
 have hrep:qy s id=some (decide (id∈s.config.replicas),()):=by unfold qy;rw[(gp s.config.replicas id hc.1).2];rfl
 have himpl:jU s id=some (Ei s id,()):=by
  unfold jU fp Ei;simp only[p2,hrep,ae,dV,dZ,if_pos hs,cmp];split
  ·split<;>rfl
  ·rfl
 refine⟨?_,himpl⟩
 have hrole: ∃r,lK s.config id=some (r,())/\((r=1\/r=2)↔id∈s.config.replicas):=by
  rcases RY h hv with hz|hvc
  ·refine⟨0,?_,?_⟩
   ·rw[hz]; rfl
   ·rw[hz]; simp
  ·obtain⟨_,_,hpr,_⟩:=sA hc hvc;unfold lK;simp only[hvc,ae,fg,eb,kt,(gp s.config.replicas id hc.1).1,(gp s.config.witnesses id hc.2).1,dV];by_cases h1:id=s.config.primary
   ·rw[if_pos h1];exact⟨1,rfl,by simp[h1,hpr]⟩
   ·rw[if_neg h1];by_cases h2:id∈s.config.replicas
    ·rw[if_pos h2];exact⟨2,rfl,by simp[h2]⟩
    ·rw[if_neg h2];split
     ·exact⟨3,rfl,by simp[h2]⟩
     ·exact⟨0,rfl,by simp[h2]⟩
 obtain⟨r,r1,r2⟩:=hrole;unfold t5 iM Ei;simp only[r1,p1,bi,dZ,if_pos hs,ae,kt,dV,cmp];by_cases h1:r=1
 ·rw[if_pos h1,if_pos (r2.1 (.inl h1))];split<;>rfl
 ·rw[if_neg h1];by_cases h2:r=2
  ·rw[if_pos h2,if_pos (r2.1 (.inr h2))];split<;>rfl
  ·rw[if_neg h2,if_neg (fun h=>by rcases r2.2 h with h|h<;>contradiction)]
end Go.Proofs.YtjnleglhcppgcaaGreat.En
