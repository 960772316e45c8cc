/- What a server has committed. -/
import Derived.Test.YtjnleglhcppgcaaGreatZPNew
namespace Go.Proofs.YtjnleglhcppgcaaGreat.En
open Go
def zN (s:dX):List ea:=if kE s.commit s.first (s.first+(s.log.length:Int))=true then s.log.take (s.commit-s.first).toNat else []
theorem M0 (s:dX) (id:Int) (h:gW 1048576 s) (hv:ey s id=some (true,())):jL s=some (zN s,())/\lS s=some (zN s,()):=by
 obtain⟨f1,f2,f3,f4,f5,_⟩:=Eb h hv;unfold jL lS zN;rw[eK (n:=s.first+(s.log.length:Int)) (by omega) (by omega)];simp only[lV,nX,ae,fg,dV,if_neg (show ¬s.first<0 by omega)];cases hw:kE s.commit s.first (s.first+(s.log.length:Int)) with
 |false=>exact⟨rfl,rfl⟩
 |true=>
  have hw:=fB.1 hw;have d1: (0:Int)<=0/\(0:Int)<=s.commit-s.first/\s.commit-s.first<=(s.log.length:Int):=by omega
  have hs: (s.log.take (s.commit-s.first).toNat).length*56<=2 ^ 40:=by
   have : (s.log.take (s.commit-s.first).toNat).length<=16:=by simp; omega
   have e: (2:Nat) ^ 40=1099511627776:=by decide
   omega
  simp only[eb,if_true];rw[eK (n:=s.commit-s.first) (by omega) (by omega)];simp only[dZ,if_pos d1,iM,fp,cT,bJ,cK,bi,if_pos hs,ae];exact⟨trivial,trivial⟩
end Go.Proofs.YtjnleglhcppgcaaGreat.En
