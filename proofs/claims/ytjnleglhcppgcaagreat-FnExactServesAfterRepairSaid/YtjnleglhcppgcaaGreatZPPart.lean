/- What a server has committed. -/
import Derived.Test.YtjnleglhcppgcaaGreatZPNew
namespace Go.Proofs.YtjnleglhcppgcaaGreat.En
open Go
def BO (s:eo):List eu:=if je s.commit s.first (s.first+(s.log.length:Int))=true then s.log.take (s.commit-s.first).toNat else []
theorem Pu (s:eo) (id:Int) (h:iZ 1048576 s) (hv:eM s id=some (true,())):kL s=some (BO s,())/\mR s=some (BO s,()):=by
 obtain⟨f1,f2,f3,f4,f5,_⟩:=yE h hv;unfold kL mR BO;rw[fP (n:=s.first+(s.log.length:Int)) (by omega) (by omega)];simp only[kg,mG,ae,fi,ei,if_neg (show ¬s.first<0 by omega)];cases hw:je s.commit s.first (s.first+(s.log.length:Int)) with
 |false=>exact⟨rfl,rfl⟩
 |true=>
  have hw:=fK.1 hw;have d1: (0:Int)<=0/\(0:Int)<=s.commit-s.first/\s.commit-s.first<=(s.log.length:Int):=by omega
  have hs: (s.log.take (s.commit-s.first).toNat).length*56<=2 ^ 40:=by
   have : (s.log.take (s.commit-s.first).toNat).length<=16:=by simp; omega
   have e: (2:Nat) ^ 40=1099511627776:=by decide
   omega
  simp only[en,if_true];rw[fP (n:=s.commit-s.first) (by omega) (by omega)];simp only[ek,if_pos d1,ju,gi,cQ,bJ,cK,bo,if_pos hs,ae];exact⟨trivial,trivial⟩
end Go.Proofs.YtjnleglhcppgcaaGreat.En
