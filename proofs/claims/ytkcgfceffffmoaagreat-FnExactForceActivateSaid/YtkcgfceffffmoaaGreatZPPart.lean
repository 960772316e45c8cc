/- What a server has committed. -/
import Derived.Test.YtkcgfceffffmoaaGreatZPNew
namespace Go.Proofs.YtkcgfceffffmoaaGreat.En
open Go
def GY (s:am):List ar:=if t5 s.commit s.first (s.first+(s.log.length:Int))=true then s.log.take (s.commit - s.first).toNat else []
theorem Yr (s:am) (id:Int) (h:kS 1048576 s) (hv:ck s id=some (true,())):gP s=some (GY s,())∧jm s=some (GY s,()):=by
 obtain⟨f1,f2,f3,f4,f5,_⟩:=aad h hv
 unfold gP mG jm m9 GY
 rw [ec (n:=s.first+(s.log.length:Int)) (by omega) (by omega)]
 simp only [yu,BU,Option.bind_some,ma,aw,if_neg (show ¬ s.first < 0 by omega)]
 cases hw:t5 s.commit s.first (s.first+(s.log.length:Int)) with
 | false=>exact⟨rfl,rfl⟩
 | true=>
   have hw:=jJ.1 hw
   have d1: (0:Int)≤0∧(0:Int)≤s.commit - s.first∧s.commit - s.first≤(s.log.length:Int):=by omega
   have hs: (s.log.take (s.commit - s.first).toNat).length*56≤2 ^ 40:=by
    have : (s.log.take (s.commit - s.first).toNat).length≤16:=by simp; omega
    have e: (2:Nat) ^ 40=1099511627776:=by decide
    omega
   simp only [bA,if_true]
   rw [ec (n:=s.commit - s.first) (by omega) (by omega)]
   simp only [be,if_pos d1,ju,tD,dt,rt,Int.toNat_zero,List.drop_zero,Nat.sub_zero,List.nil_append,if_pos hs,Option.bind_some]
   exact⟨trivial,trivial⟩
end Go.Proofs.YtkcgfceffffmoaaGreat.En
