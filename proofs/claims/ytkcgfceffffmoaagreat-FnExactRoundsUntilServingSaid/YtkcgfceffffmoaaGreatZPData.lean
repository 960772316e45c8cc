/- Data of a server. -/
import Derived.Test.YtkcgfceffffmoaaGreatZPPart
namespace Go.Proofs.YtkcgfceffffmoaaGreat.En
open Go
theorem arP {s:eb} {id:Int} (h:nX 1048576 s) (hv:fw s id=some (true,())):s.config=⟨0,0,[],[]⟩\/fI s.config=some (true,()):=by
 have hc:=mr h.1;by_cases hz:s.config=⟨0,0,[],[]⟩
 ·exact .inl hz
 ·right;obtain⟨b,v1,_⟩:=Bs s.config hc;cases b with
  | true=>exact v1
  | false=>
    exfalso
    have hr:rk s.config id=some (0,()):=by
     unfold rk FN;rw [v1];rfl
    unfold fw mz at hv;simp only [vk,ae,iq,JT s.config hc,hr,ec,if_neg hz] at hv;cases h1:sP s.version 1 2 with
    | false=>rw [h1] at hv; cases hv
    | true=>
    cases h2:sP s.epoch 0 20 with
    | false=>rw [h1,h2] at hv; cases hv
    | true=>
    rcases KG s.log (gJ h.2.1) with ⟨a1,a2,a3⟩ | ⟨a1,a2⟩
    case inr=>simp only [h1,h2,a1,ae,ew,fA] at hv; cases hv
    rcases KG s.learned (gJ h.2.2) with ⟨b1,b2,b3⟩ | ⟨b1,b2⟩
    case inr=>simp only [h1,h2,a1,b1,ae,ew,fA] at hv; cases hv
    obtain⟨n,n1,n2⟩:=FQ s.log (gJ h.2.1);simp only [h1,h2,a1,b1,n1,ae,ew] at hv;cases h3:sP s.first 0 16 <;> rw [h3] at hv
    ·cases hv
    ·cases h4:sP (IntKind.wrap .i64 (s.first+(s.log.length:Int))) 0 16 <;> rw [h4] at hv
     ·cases hv
     ·cases h5:sP s.commit 0 (IntKind.wrap .i64 (s.first+(s.log.length:Int))) <;> rw [h5] at hv
      ·cases hv
      ·cases h6:s.intact <;> rw [h6] at hv
       ·cases hv
       ·simp only [ew] at hv
        repeat' split at hv
        all_goals cases hv
def aa8 (s:eb) (id:Int):List ed:=if id∈s.config.replicas then (if (S4 s).length > s.learned.length then S4 s else s.learned) else s.learned
theorem alE (s:eb) (id:Int) (h:nX 1048576 s) (hv:fw s id=some (true,())):Di s id=some (aa8 s id,())/\ny s id=some (aa8 s id,()):=by
 have hc:=mr h.1;obtain⟨p1,p2⟩:=am0 s id h hv
 have hs:s.learned.length*56<=2 ^ 40:=by
  have e: (2:Nat) ^ 40=1099511627776:=by decide
  have:=h.2.2;omega
 have cmp: ((S4 s).length:Int) > (s.learned.length:Int)↔(S4 s).length > s.learned.length:=by omega
 have hrep:xL s id=some (decide (id∈s.config.replicas),()):=by
  unfold xL Fv;rw [(kP s.config.replicas id hc.1).2];rfl
 have himpl:ny s id=some (aa8 s id,()):=by
  unfold ny yL iI Ay aa8;simp only [p2,hrep,ae,ec,ez,if_pos hs,cmp];split
  ·split <;> rfl
  ·rfl
 refine⟨?_,himpl⟩
 have hrole: ∃ r,rk s.config id=some (r,())/\((r=1\/r=2)↔id∈s.config.replicas):=by
  rcases arP h hv with hz | hvc
  ·refine⟨0,?_,?_⟩
   ·rw [hz]; rfl
   ·rw [hz]; simp
  ·obtain⟨_,_,hpr,_⟩:=Gw hc hvc;unfold rk FN;simp only [hvc,ae,iq,ew,sx,(kP s.config.replicas id hc.1).1,(kP s.config.witnesses id hc.2).1,ec];by_cases h1:id=s.config.primary
   ·rw [if_pos h1];exact⟨1,rfl,by simp [h1,hpr]⟩
   ·rw [if_neg h1];by_cases h2:id∈s.config.replicas
    ·rw [if_pos h2];exact⟨2,rfl,by simp [h2]⟩
    ·rw [if_neg h2];split
     ·exact⟨3,rfl,by simp [h2]⟩
     ·exact⟨0,rfl,by simp [h2]⟩
 obtain⟨r,r1,r2⟩:=hrole;unfold Di Jk mY FJ aa8;simp only [r1,p1,bq,ez,if_pos hs,ae,sx,ec,cmp];by_cases h1:r=1
 ·rw [if_pos h1,if_pos (r2.1 (.inl h1))];split <;> rfl
 ·rw [if_neg h1];by_cases h2:r=2
  ·rw [if_pos h2,if_pos (r2.1 (.inr h2))];split <;> rfl
  ·rw [if_neg h2,if_neg (fun h=>by rcases r2.2 h with h | h <;> contradiction)]
end Go.Proofs.YtkcgfceffffmoaaGreat.En
