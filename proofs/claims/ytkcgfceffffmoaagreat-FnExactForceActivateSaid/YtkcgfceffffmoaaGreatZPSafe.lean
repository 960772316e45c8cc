/- Leases that are over. -/
import Derived.Test.YtkcgfceffffmoaaGreatZPV6
namespace Go.Proofs.YtkcgfceffffmoaaGreat.En
open Go
theorem aai (x:eg):xM (rD x) (rL x):=by
 obtain⟨b,h1,h2⟩:=Lf x
 unfold rD ug rL ur
 simp only [h1,h2,Option.bind_some]
 cases b with
 | false=>
   simp only [Bool.not_false,bA]
   cases ((x.epoch==0)&&((x.holder==0)&&((x.ends==0)&&true))) <;> exact⟨_,rfl,rfl⟩
 | true=>
   simp only [Bool.not_true,bJ]
   cases he:x.ends==0 with
   | true=>
     cases hz: ((x.epoch==0)&&((x.holder==0)&&(true&&true))) with
     | true=>exact⟨_,rfl,rfl⟩
     | false=>
       exfalso
       unfold oe tM at h2
       rw [he,hz] at h2
       simp only [bJ,BU,Option.bind_some] at h2
       have hw:t5 x.ends 1 1049=false:=by
        rw [Bool.eq_false_iff]
        intro hw
        have:=jJ.1 hw
        simp only [beq_iff_eq] at he
        omega
       rw [hw] at h2
       revert h2
       cases t5 x.epoch 1 20 <;> cases t5 x.holder 0 4 <;> intro h2 <;> cases h2
   | false=>
     have hz: ((x.epoch==0)&&((x.holder==0)&&(false&&true)))=false:=by cases x.epoch==0 <;> cases x.holder==0 <;> rfl
     rw [hz]
     exact⟨_,rfl,rfl⟩
theorem UY (x:eg) (n:Int):xM (lU x n) (l4 x n):=by
 obtain⟨b,h1,h2⟩:=Lf x
 obtain⟨t,t1,t2⟩:=aai x
 unfold lU ph l4 pI
 simp only [h1,h2,t1,t2,yu,BU,Option.bind_some]
 cases b <;> cases t5 n 0 999 <;> exact⟨_,rfl,rfl⟩
end Go.Proofs.YtkcgfceffffmoaaGreat.En
