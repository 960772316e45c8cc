/- What a server has committed. -/
import Derived.Test.YtkcgfceffffmoaaGreatZPNew
namespace Go.Proofs.YtkcgfceffffmoaaGreat.En
open Go
def S4 (s:eb):List ed:=if sP s.commit s.first (s.first+(s.log.length:Int))=true then s.log.take (s.commit - s.first).toNat else []
theorem am0 (s:eb) (id:Int) (h:nX 1048576 s) (hv:fw s id=some (true,())):ns s=some (S4 s,())/\o7 s=some (S4 s,()):=by
 obtain⟨f1,f2,f3,f4,f5,_⟩:=aa3 h hv;unfold ns yi o7 yK S4;rw [iY (n:=s.first+(s.log.length:Int)) (by omega) (by omega)];simp only [vk,z6,ae,iq,ec,if_neg (show ¬ s.first < 0 by omega)];cases hw:sP s.commit s.first (s.first+(s.log.length:Int)) with
 | false=>exact⟨rfl,rfl⟩
 | true=>
   have hw:=jD.1 hw;have d1: (0:Int)<=0/\(0:Int)<=s.commit - s.first/\s.commit - s.first<=(s.log.length:Int):=by omega
   have hs: (s.log.take (s.commit - s.first).toNat).length*56<=2 ^ 40:=by
    have : (s.log.take (s.commit - s.first).toNat).length<=16:=by simp; omega
    have e: (2:Nat) ^ 40=1099511627776:=by decide
    omega
   simp only [ew,if_true];rw [iY (n:=s.commit - s.first) (by omega) (by omega)];simp only [ez,if_pos d1,mY,FJ,iI,Ay,cT,bM,cK,bq,if_pos hs,ae];exact⟨trivial,trivial⟩
end Go.Proofs.YtkcgfceffffmoaaGreat.En
