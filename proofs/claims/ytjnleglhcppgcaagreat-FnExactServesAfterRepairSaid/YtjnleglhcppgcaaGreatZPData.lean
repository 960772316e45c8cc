/- Data of a server. -/
import Derived.Test.YtjnleglhcppgcaaGreatZPPart
namespace Go.Proofs.YtjnleglhcppgcaaGreat.En
open Go
theorem UV {s:eo} {id:Int} (h:iZ 1048576 s) (hv:eM s id=some (true,())):s.config=⟨0,0,[],[]⟩\/eL s.config=some (true,()):=by
 have hc:=fY h.1;by_cases hz:s.config=⟨0,0,[],[]⟩
 ·exact .inl hz
 ·right;obtain⟨b,v1,_⟩:=my s.config hc;cases b with
  |true=>exact v1
  |false=>
   exfalso
   have hr:jv s.config id=some (0,()):=by unfold jv;rw[v1];rfl
   unfold eM at hv;simp only[kg,ae,fi,wO s.config hc,hr,ei,if_neg hz] at hv;cases h1:je s.version 1 2 with
   |false=>rw[h1] at hv; cases hv
   |true=>
   cases h2:je s.epoch 0 20 with
   |false=>rw[h1,h2] at hv; cases hv
   |true=>
   rcases uF s.log (ff h.2.1) with ⟨a1,a2,a3⟩| ⟨a1,a2⟩
   case inr=>simp only[h1,h2,a1,ae,en,eB] at hv; cases hv
   rcases uF s.learned (ff h.2.2) with ⟨b1,b2,b3⟩| ⟨b1,b2⟩
   case inr=>simp only[h1,h2,a1,b1,ae,en,eB] at hv; cases hv
   obtain⟨n,n1,n2⟩:=tB s.log (ff h.2.1);simp only[h1,h2,a1,b1,n1,ae,en] at hv;cases h3:je s.first 0 16<;>rw[h3] at hv
   ·cases hv
   ·cases h4:je (IntKind.wrap .i64 (s.first+(s.log.length:Int))) 0 16<;>rw[h4] at hv
    ·cases hv
    ·cases h5:je s.commit 0 (IntKind.wrap .i64 (s.first+(s.log.length:Int)))<;>rw[h5] at hv
     ·cases hv
     ·cases h6:s.intact<;>rw[h6] at hv
      ·cases hv
      ·simp only[en] at hv
       repeat' split at hv
       all_goals cases hv
def F0 (s:eo) (id:Int):List eu:=if id∈s.config.replicas then (if (BO s).length>s.learned.length then BO s else s.learned) else s.learned
theorem Ob (s:eo) (id:Int) (h:iZ 1048576 s) (hv:eM s id=some (true,())):vX s id=some (F0 s id,())/\kW s id=some (F0 s id,()):=by
 have hc:=fY h.1;obtain⟨p1,p2⟩:=Pu s id h hv
 have hs:s.learned.length*56<=2 ^ 40:=by
  have e: (2:Nat) ^ 40=1099511627776:=by decide
  have:=h.2.2;omega
 have cmp: ((BO s).length:Int)>(s.learned.length:Int)↔(BO s).length>s.learned.length:=by omega
 have hrep:rS s id=some (decide (id∈s.config.replicas),()):=by unfold rS;rw[(fH s.config.replicas id hc.1).2];rfl
 have himpl:kW s id=some (F0 s id,()):=by
  unfold kW gi F0;simp only[p2,hrep,ae,ei,ek,if_pos hs,cmp];split
  ·split<;>rfl
  ·rfl
 refine⟨?_,himpl⟩
 have hrole: ∃r,jv s.config id=some (r,())/\((r=1\/r=2)↔id∈s.config.replicas):=by
  rcases UV h hv with hz|hvc
  ·refine⟨0,?_,?_⟩
   ·rw[hz]; rfl
   ·rw[hz]; simp
  ·obtain⟨_,_,hpr,_⟩:=sk hc hvc;unfold jv;simp only[hvc,ae,fi,en,gP,(fH s.config.replicas id hc.1).1,(fH s.config.witnesses id hc.2).1,ei];by_cases h1:id=s.config.primary
   ·rw[if_pos h1];exact⟨1,rfl,by simp[h1,hpr]⟩
   ·rw[if_neg h1];by_cases h2:id∈s.config.replicas
    ·rw[if_pos h2];exact⟨2,rfl,by simp[h2]⟩
    ·rw[if_neg h2];split
     ·exact⟨3,rfl,by simp[h2]⟩
     ·exact⟨0,rfl,by simp[h2]⟩
 obtain⟨r,r1,r2⟩:=hrole;unfold vX ju F0;simp only[r1,p1,bo,ek,if_pos hs,ae,gP,ei,cmp];by_cases h1:r=1
 ·rw[if_pos h1,if_pos (r2.1 (.inl h1))];split<;>rfl
 ·rw[if_neg h1];by_cases h2:r=2
  ·rw[if_pos h2,if_pos (r2.1 (.inr h2))];split<;>rfl
  ·rw[if_neg h2,if_neg (fun h=>by rcases r2.2 h with h|h<;>contradiction)]
end Go.Proofs.YtjnleglhcppgcaaGreat.En
