/- Data of a server. -/
import Derived.Test.YtkcgfceffffmoaaGreatZPPart
namespace Go.Proofs.YtkcgfceffffmoaaGreat.En
open Go
theorem ac0 {s:am} {id:Int} (h:kS 1048576 s) (hv:ck s id=some (true,())):s.config=⟨0,0,[],[]⟩∨bZ s.config=some (true,()):=by
 have hc:=kP h.1
 by_cases hz:s.config=⟨0,0,[],[]⟩
 ·exact .inl hz
 ·right
  obtain⟨b,v1,_⟩:=uv s.config hc
  cases b with
  | true=>exact v1
  | false=>
    exfalso
    have hr:mD s.config id=some (0,()):=by
     unfold mD tJ
     rw [v1]
     rfl
    unfold ck ic at hv
    simp only [yu,Option.bind_some,ma,Lg s.config hc,hr,aw,if_neg hz] at hv
    cases h1:t5 s.version 1 2 with
    | false=>rw [h1] at hv; cases hv
    | true=>
    cases h2:t5 s.epoch 0 20 with
    | false=>rw [h1,h2] at hv; cases hv
    | true=>
    rcases NM s.log (dH h.2.1) with ⟨a1,a2,a3⟩ | ⟨a1,a2⟩
    case inr=>simp only [h1,h2,a1,Option.bind_some,bA,bJ] at hv; cases hv
    rcases NM s.learned (dH h.2.2) with ⟨b1,b2,b3⟩ | ⟨b1,b2⟩
    case inr=>simp only [h1,h2,a1,b1,Option.bind_some,bA,bJ] at hv; cases hv
    obtain⟨n,n1,n2⟩:=yw s.log (dH h.2.1)
    simp only [h1,h2,a1,b1,n1,Option.bind_some,bA] at hv
    cases h3:t5 s.first 0 16 <;> rw [h3] at hv
    ·cases hv
    ·cases h4:t5 (IntKind.wrap .i64 (s.first+(s.log.length:Int))) 0 16 <;> rw [h4] at hv
     ·cases hv
     ·cases h5:t5 s.commit 0 (IntKind.wrap .i64 (s.first+(s.log.length:Int))) <;> rw [h5] at hv
      ·cases hv
      ·cases h6:s.intact <;> rw [h6] at hv
       ·cases hv
       ·simp only [bA] at hv
        repeat' split at hv
        all_goals cases hv
def IG (s:am) (id:Int):List ar:=if id∈s.config.replicas then (if (GY s).length > s.learned.length then GY s else s.learned) else s.learned
theorem Se (s:am) (id:Int) (h:kS 1048576 s) (hv:ck s id=some (true,())):tK s id=some (IG s id,())∧fM s id=some (IG s id,()):=by
 have hc:=kP h.1
 obtain⟨p1,p2⟩:=Yr s id h hv
 have hs:s.learned.length*56≤2 ^ 40:=by
  have e: (2:Nat) ^ 40=1099511627776:=by decide
  have:=h.2.2
  omega
 have cmp: ((GY s).length:Int) > (s.learned.length:Int)↔(GY s).length > s.learned.length:=by omega
 have hrep:pG s id=some (decide (id∈s.config.replicas),()):=by
  unfold pG s3
  rw [(lg s.config.replicas id hc.1).2]
  rfl
 have himpl:fM s id=some (IG s id,()):=by
  unfold fM na dt rt IG
  simp only [p2,hrep,Option.bind_some,aw,be,if_pos hs,cmp]
  split
  ·split <;> rfl
  ·rfl
 refine⟨?_,himpl⟩
 have hrole: ∃ r,mD s.config id=some (r,())∧((r=1∨r=2)↔id∈s.config.replicas):=by
  rcases ac0 h hv with hz | hvc
  ·refine⟨0,?_,?_⟩
   ·rw [hz]; rfl
   ·rw [hz]; simp
  ·obtain⟨_,_,hpr,_⟩:=NP hc hvc
   unfold mD tJ
   simp only [hvc,Option.bind_some,ma,bA,we,(lg s.config.replicas id hc.1).1,(lg s.config.witnesses id hc.2).1,aw]
   by_cases h1:id=s.config.primary
   ·rw [if_pos h1]
    exact⟨1,rfl,by simp [h1,hpr]⟩
   ·rw [if_neg h1]
    by_cases h2:id∈s.config.replicas
    ·rw [if_pos h2]
     exact⟨2,rfl,by simp [h2]⟩
    ·rw [if_neg h2]
     split
     ·exact⟨3,rfl,by simp [h2]⟩
     ·exact⟨0,rfl,by simp [h2]⟩
 obtain⟨r,r1,r2⟩:=hrole
 unfold tK vH ju tD IG
 simp only [r1,p1,List.nil_append,be,if_pos hs,Option.bind_some,we,aw,cmp]
 by_cases h1:r=1
 ·rw [if_pos h1,if_pos (r2.1 (.inl h1))]
  split <;> rfl
 ·rw [if_neg h1]
  by_cases h2:r=2
  ·rw [if_pos h2,if_pos (r2.1 (.inr h2))]
   split <;> rfl
  ·rw [if_neg h2,if_neg (fun h=>by rcases r2.2 h with h | h <;> contradiction)]
end Go.Proofs.YtkcgfceffffmoaaGreat.En
