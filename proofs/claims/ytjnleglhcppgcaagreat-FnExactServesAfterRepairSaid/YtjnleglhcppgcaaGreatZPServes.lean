/- ServesAfterRepair: the plain law. -/
import Derived.Test.YtjnleglhcppgcaaGreatZPAll
import Derived.Test.YtjnleglhcppgcaaGreatZPClient
namespace Go.Proofs.YtjnleglhcppgcaaGreat.En
open Go
theorem LO (x:eg) (ok:gX 1048576 x) (want:Int) (o:Op):xP (jQ x want o) (jR x want o):=by
 obtain⟨y,c,y1,y2,y3,_⟩:=Px x ok want;obtain⟨n,n1,n2,n3⟩:=yG y y3;obtain⟨S,r,r1,r2,_⟩:=RM y y3 n o;unfold jQ jR;simp only[y1,y2,n1,n2,r1,r2,ae,ei,gP];by_cases hn:n<0
 ·have :n= -1:=by omega
  simp only[if_pos hn,if_pos this];exact⟨false,rfl,rfl⟩
 ·have : ¬n= -1:=by omega
  simp only[if_neg hn,if_neg this];exact⟨_,rfl,rfl⟩
theorem Nr (x:eg) (want:Int) (o:Op) (h:gX maxLen x):iR x want o=some (true,()):=by
 unfold iR;obtain⟨n,g1,g2⟩:=VX x h;simp only[g1,ae,ei];split
 ·rfl
 ·obtain⟨ok,ht,_⟩:=g2 (by omega);obtain⟨b,s1,s2⟩:=LO x ok want o;simp only[Pm x ok,show Cq o=some (o,()) from rfl,s1,s2,ae,FV x ok,beq_self_eq_true,aY,eB]
end Go.Proofs.YtjnleglhcppgcaaGreat.En
