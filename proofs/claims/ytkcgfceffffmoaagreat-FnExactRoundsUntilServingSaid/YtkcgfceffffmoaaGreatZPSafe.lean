/- Leases that are over. -/
import Derived.Test.YtkcgfceffffmoaaGreatZPV6
namespace Go.Proofs.YtkcgfceffffmoaaGreat.En
open Go
theorem aiZ (x:ir):NT (xb x) (xH x):=by
 obtain⟨b,h1,h2⟩:=Ni x;unfold xb GY xH Hb;simp only [h1,h2,ae];cases b with
 | false=>
   simp only [dJ,ew];cases ((x.epoch==0)&&((x.holder==0)&&((x.ends==0)&&true))) <;> exact⟨_,rfl,rfl⟩
 | true=>
   simp only [bw,fA];cases he:x.ends==0 with
   | true=>
     cases hz: ((x.epoch==0)&&((x.holder==0)&&(true&&true))) with
     | true=>exact⟨_,rfl,rfl⟩
     | false=>
       exfalso;unfold qU Gk at h2;rw [he,hz] at h2;simp only [fA,z6,ae] at h2
       have hw:sP x.ends 1 1049=false:=by
        rw [Bool.eq_false_iff];intro hw;have:=jD.1 hw;simp only [beq_iff_eq] at he;omega
       rw [hw] at h2;revert h2;cases sP x.epoch 1 20 <;> cases sP x.holder 0 4 <;> intro h2 <;> cases h2
   | false=>
     have hz: ((x.epoch==0)&&((x.holder==0)&&(false&&true)))=false:=by cases x.epoch==0 <;> cases x.holder==0 <;> rfl
     rw [hz];exact⟨_,rfl,rfl⟩
theorem Wg (x:ir) (n:Int):NT (n9 x n) (oc x n):=by
 obtain⟨b,h1,h2⟩:=Ni x;obtain⟨t,t1,t2⟩:=aiZ x;unfold n9 B7 oc CE;simp only [h1,h2,t1,t2,vk,z6,ae];cases b <;> cases sP n 0 999 <;> exact⟨_,rfl,rfl⟩
end Go.Proofs.YtkcgfceffffmoaaGreat.En
